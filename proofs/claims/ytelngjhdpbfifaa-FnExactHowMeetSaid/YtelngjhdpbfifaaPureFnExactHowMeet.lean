/- The program's HowMeet answers as the reference's, for all two segments, valid or not. -/
import Derived.Test.YtelngjhdpbfifaaQFnExactHowMeetx9
import Derived.Test.YtelngjhdpbfifaaBase
import Derived.Test.YtelngjhdpbfifaaGeo
import Derived.Test.YtelngjhdpbfifaaLn
import Derived.Test.YtelngjhdpbfifaaLst
import Derived.Test.YtelngjhdpbfifaaHw
namespace Go.Proofs.Ytelngjhdpbfifaa.Pure
open Go Go.RowKit Go.Proofs.Ytelngjhdpbfifaa.PFnExactHowMeet Go.Proofs.YtelngjhdpbfifaaW.PrintWords Go.Proofs.YtelngjhdpbfifaaW.PrintLast Go.Proofs.YtelngjhdpbfifaaW.PrintMore Go.Proofs.Ytelngjhdpbfifaa.Base Go.Proofs.Ytelngjhdpbfifaa.Geo Go.Proofs.Ytelngjhdpbfifaa.Ln Go.Proofs.Ytelngjhdpbfifaa.Lst Go.Proofs.Ytelngjhdpbfifaa.Hw
set_option linter.unusedVariables false
set_option linter.unusedSimpArgs false
def pts (l : List S50) : List Pt := l.map fun x => (x.f0, x.f1)
theorem pts_length (l : List S50) : (pts l).length = l.length := by simp [pts]
theorem at_pts (l : List S50) (i : Nat) : at_ (pts l) i = ((rd_T50 l (i : Int)).f0, (rd_T50 l (i : Int)).f1) := by
  unfold at_ pts rd_T50
  simp only [List.getD_eq_getElem?_getD, List.getElem?_map, Int.toNat_natCast]
  cases l[i]? <;> rfl
theorem rdP_get {l : List S50} {i : Nat} (h : i < l.length) : l[i]? = some (rd_T50 l (i : Int)) := by
  unfold rd_T50
  simp [List.getD_eq_getElem?_getD, h]
theorem rdP_drop {l : List S50} {i : Nat} (h : i < l.length) : l.drop i = rd_T50 l (i : Int) :: l.drop (i + 1) := by
  have e := rdP_get h
  rw [List.getElem?_eq_getElem h] at e
  rw [List.drop_eq_getElem_cons h, Option.some.inj e]
theorem pt_eta (x : S50) : (⟨x.f0, x.f1⟩ : S50) = x := rfl
theorem pt_ext {x y : S50} (h0 : x.f0 = y.f0) (h1 : x.f1 = y.f1) : x = y := by cases x; cases y; simp_all
theorem w64_pred {i : Nat} (h0 : 0 < i) (hn : i ≤ 140737488355328) : wrap64 ((i : Int) - 1) = ((i - 1 : Nat) : Int) := by
  rw [w64 (by omega) (by omega)]; omega
theorem spec_l1In.eq (a b c : Int) : spec_l1In.f a b c = some (decide (b ≤ a ∧ a ≤ c)) := by
  unfold spec_l1In.f
  by_cases h : b ≤ a
  · rw [if_pos h]; simp [h]
  · rw [if_neg h]; simp [h]
theorem spec_IsPoint.eq (x y : Int) : spec_IsPoint.f x y = some (isPt x y) := isPt_bind x y (spec_l1In.eq ..) (spec_l1In.eq ..)
theorem spec_IsSegment.eq (a b c d : Int) : spec_IsSegment.f a b c d = some (isSg a b c d) := by
  unfold spec_IsSegment.f isSg
  rw [spec_IsPoint.eq, spec_IsPoint.eq]
  cases isPt a b <;> cases isPt c d <;> simp
theorem spec_Max.eq (a b : Int) : spec_Max.f a b = some (max a b) := by
  unfold spec_Max.f
  by_cases h : b > a
  · rw [if_pos h]; congr 1; omega
  · rw [if_neg h]; congr 1; omega
theorem spec_Min.eq (a b : Int) : spec_Min.f a b = some (min a b) := by
  unfold spec_Min.f
  by_cases h : b < a
  · rw [if_pos h]; congr 1; omega
  · rw [if_neg h]; congr 1; omega
theorem spec_l4Cross.eq (a b c d e f : Int) : spec_l4Cross.f a b c d e f = some (crossW a b c d e f) := rfl
theorem spec_IsOn.eq (a b c d e f : Int) : spec_IsOn.f a b c d e f = some (onW a b c d e f) := by
  rw [← onW_of (z := crossW a b c d e f) (fun _ _ => Iff.rfl)]
  unfold spec_IsOn.f
  simp only [spec_IsSegment.eq, spec_IsPoint.eq, spec_l4Cross.eq, spec_Min.eq, spec_Max.eq, spec_l1In.eq, Option.bind_some]
theorem spec_l5Shared.in_ok (ends : List S50) (i : Nat) (hi : i < ends.length) (h4 : ends.length ≤ 100) (x5 : List S50) (h5 : x5.length ≤ 100) (a b c d e f g h : Int) : ∀ (n m j : Nat) (fl : Bool), j + n = x5.length →
    spec_l5Shared.l1 (m + 1 + n) x5 ends (i : Int) fl (j : Int) a b c d e f g h =
      (if (fl && ((pts x5).drop j).all fun q => decide (q ≠ ((rd_T50 ends (i : Int)).f0, (rd_T50 ends (i : Int)).f1))) = true then spec_l5Shared.l0 m (x5 ++ [(⟨(rd_T50 ends (i : Int)).f0, (rd_T50 ends (i : Int)).f1⟩ : S50)]) ends ((i + 1 : Nat) : Int) a b c d e f g h else spec_l5Shared.l0 m x5 ends ((i + 1 : Nat) : Int) a b c d e f g h) := by
  intro n
  induction n with
  | zero =>
    intro m j fl hj
    simp only [Nat.add_zero, spec_l5Shared.l1]
    rw [if_neg (by omega), List.drop_of_length_le (by rw [pts_length]; omega), w64_succ (n := ends.length) hi (by omega)]
    simp only [List.all_nil, Bool.and_true]
    by_cases hf : fl = true
    · rw [if_pos hf, if_pos hf, if_pos (by omega), if_pos (by omega), if_pos (by omega)]
    · rw [if_neg hf, if_neg hf]
  | succ n ih =>
    intro m j fl hj
    have hd : (pts x5).drop j = ((rd_T50 x5 (j : Int)).f0, (rd_T50 x5 (j : Int)).f1) :: (pts x5).drop (j + 1) := by
      unfold pts
      rw [← List.map_drop, ← List.map_drop, rdP_drop (show j < x5.length by omega)]
      rfl
    rw [show m + 1 + (n + 1) = (m + 1 + n) + 1 by omega]
    simp only [spec_l5Shared.l1]
    rw [if_pos (by omega), hd, w64_succ (n := x5.length) (by omega) (by omega)]
    by_cases hf : fl = true
    · rw [if_pos hf, if_pos (by omega), if_pos (by omega), if_pos (by omega), ih m (j + 1) _ (by omega), ne_pt, hf]
      simp only [List.all_cons, Bool.true_and]
    · have hf : fl = false := by simpa using hf
      rw [if_neg (by rw [hf]; simp), ih m (j + 1) _ (by omega), hf]
      simp
theorem spec_l5Shared.out_ok (ends : List S50) (i : Nat) (hi : i < 4) (h4 : ends.length = 4) (x5 : List S50) (h5 : x5.length ≤ 100) (a b c d e f g h : Int) (fl : Bool) (hfl : fl = if i < 2 then onW e f g h (rd_T50 ends (i : Int)).f0 (rd_T50 ends (i : Int)).f1 else onW a b c d (rd_T50 ends (i : Int)).f0 (rd_T50 ends (i : Int)).f1) (k : Nat) (hk : x5.length + 4 ≤ k) :
    ∃ m, m + x5.length + 3 = k ∧ spec_l5Shared.l0 k x5 ends (i : Int) a b c d e f g h =
      (if (fl && (pts x5).all fun q => decide (q ≠ ((rd_T50 ends (i : Int)).f0, (rd_T50 ends (i : Int)).f1))) = true then spec_l5Shared.l0 m (x5 ++ [(⟨(rd_T50 ends (i : Int)).f0, (rd_T50 ends (i : Int)).f1⟩ : S50)]) ends ((i + 1 : Nat) : Int) a b c d e f g h else spec_l5Shared.l0 m x5 ends ((i + 1 : Nat) : Int) a b c d e f g h) := by
  obtain ⟨m, rfl⟩ : ∃ m, k = (m + 1 + x5.length) + 1 + 1 := ⟨k - 3 - x5.length, by omega⟩
  refine ⟨m, by omega, ?_⟩
  have key := spec_l5Shared.in_ok ends i (by omega) (by omega) x5 h5 a b c d e f g h x5.length m 0 fl (by omega)
  rw [List.drop_zero] at key
  have j1 : spec_l5Shared.j1 (m + 1 + x5.length + 1) x5 ends (i : Int) fl a b c d e f g h = spec_l5Shared.l1 (m + 1 + x5.length) x5 ends (i : Int) fl ((0 : Nat) : Int) a b c d e f g h := rfl
  rw [← key, ← j1]
  simp only [spec_l5Shared.l0]
  rw [if_pos (by omega)]
  by_cases h2 : i < 2
  · rw [if_pos h2] at hfl
    rw [if_pos (by omega), if_pos (by omega), if_pos (by omega), spec_IsOn.eq, ← hfl]
    simp only [Option.bind_some]
    by_cases hf : fl = true
    · rw [if_pos hf, hf]
    · have hf : fl = false := by simpa using hf
      rw [if_neg (by rw [hf]; simp), if_neg (by omega), hf]
  · rw [if_neg h2] at hfl
    rw [if_neg (by omega), if_pos (by omega), if_pos (by omega), if_pos (by omega), spec_IsOn.eq, ← hfl]
    rfl
theorem spec_l5Shared.ok (a b c d e f g h : Int) (hs : isSg a b c d = true) (ht : isSg e f g h = true) (k : Nat) (hk : 40 ≤ k) : spec_l5Shared.f k a b c d e f g h = some (shared (a, b) (c, d) (e, f) (g, h)) := by
  obtain ⟨p0, p1, _⟩ := isSg_iff.mp hs
  obtain ⟨p2, p3, n1⟩ := isSg_iff.mp ht
  unfold spec_l5Shared.f
  generalize hE : ([(⟨a, b⟩ : S50), (⟨c, d⟩ : S50), (⟨e, f⟩ : S50), (⟨g, h⟩ : S50)] : List S50) = E
  have hl : E.length = 4 := by rw [← hE]; rfl
  have r0 : rd_T50 E ((0 : Nat) : Int) = ⟨a, b⟩ := by rw [← hE]; rfl
  have r1 : rd_T50 E ((1 : Nat) : Int) = ⟨c, d⟩ := by rw [← hE]; rfl
  have r2 : rd_T50 E ((2 : Nat) : Int) = ⟨e, f⟩ := by rw [← hE]; rfl
  have r3 : rd_T50 E ((3 : Nat) : Int) = ⟨g, h⟩ := by rw [← hE]; rfl
  have papp : ∀ (x : List S50) (y : S50), pts (x ++ [y]) = pts x ++ [(y.f0, y.f1)] := fun x y => by simp [pts]
  have P4 : ∀ (x : List S50) (k : Nat), 1 ≤ k → spec_l5Shared.l0 k x E ((4 : Nat) : Int) a b c d e f g h = some (cntL [] (pts x)) := by
    intro x k hk
    obtain ⟨k, rfl⟩ : ∃ m, k = m + 1 := ⟨k - 1, by omega⟩
    simp only [spec_l5Shared.l0]
    rw [if_neg (by omega)]
    simp [cntL, pts]
  have P3 : ∀ (x : List S50) (k : Nat), x.length ≤ 3 → 10 ≤ k → spec_l5Shared.l0 k x E ((3 : Nat) : Int) a b c d e f g h = some (cntL [(decide (on (a, b) (c, d) (g, h)), (g, h))] (pts x)) := by
    intro x k hx hk
    obtain ⟨m, hm, e1⟩ := spec_l5Shared.out_ok E 3 (by omega) hl x (by omega) a b c d e f g h (decide (on (a, b) (c, d) (g, h))) (by rw [if_neg (by omega), r3]; exact (onW_on hs p3).symm) k (by omega)
    rw [r3] at e1
    simp only at e1
    rw [e1, P4 _ m (by omega), P4 _ m (by omega), papp]
    simp only [cntL]
    split <;> rfl
  have P2 : ∀ (x : List S50) (k : Nat), x.length ≤ 2 → 16 ≤ k → spec_l5Shared.l0 k x E ((2 : Nat) : Int) a b c d e f g h = some (cntL [(decide (on (a, b) (c, d) (e, f)), (e, f)), (decide (on (a, b) (c, d) (g, h)), (g, h))] (pts x)) := by
    intro x k hx hk
    obtain ⟨m, hm, e1⟩ := spec_l5Shared.out_ok E 2 (by omega) hl x (by omega) a b c d e f g h (decide (on (a, b) (c, d) (e, f))) (by rw [if_neg (by omega), r2]; exact (onW_on hs p2).symm) k (by omega)
    rw [r2] at e1
    simp only at e1
    rw [e1, P3 _ m (by simp; omega) (by omega), P3 _ m (by omega) (by omega), papp, cntL_ite (decide (on (a, b) (c, d) (e, f))) (e, f)]
    split <;> rfl
  have P1 : ∀ (x : List S50) (k : Nat), x.length ≤ 1 → 22 ≤ k → spec_l5Shared.l0 k x E ((1 : Nat) : Int) a b c d e f g h = some (cntL [(decide (on (e, f) (g, h) (c, d)), (c, d)), (decide (on (a, b) (c, d) (e, f)), (e, f)), (decide (on (a, b) (c, d) (g, h)), (g, h))] (pts x)) := by
    intro x k hx hk
    obtain ⟨m, hm, e1⟩ := spec_l5Shared.out_ok E 1 (by omega) hl x (by omega) a b c d e f g h (decide (on (e, f) (g, h) (c, d))) (by rw [if_pos (by omega), r1]; exact (onW_on ht p1).symm) k (by omega)
    rw [r1] at e1
    simp only at e1
    rw [e1, P2 _ m (by simp; omega) (by omega), P2 _ m (by omega) (by omega), papp, cntL_ite (decide (on (e, f) (g, h) (c, d))) (c, d)]
    split <;> rfl
  obtain ⟨m, hm, e1⟩ := spec_l5Shared.out_ok E 0 (by omega) hl [] (by simp) a b c d e f g h (decide (on (e, f) (g, h) (a, b))) (by rw [if_pos (by omega), r0]; exact (onW_on ht p0).symm) k (by simp; omega)
  rw [r0] at e1
  simp only at e1
  simp only [List.length_nil] at hm
  have pn : pts ([] : List S50) = [] := rfl
  rw [pn] at e1
  rw [← cntL_shared n1]
  refine Eq.trans e1 ?_
  rw [P1 _ m (by simp) (by omega), P1 _ m (by simp) (by omega), papp, pn, cntL_ite (decide (on (e, f) (g, h) (a, b))) (a, b)]
  split <;> rfl
theorem spec_SideOf.eq (k : Nat) (a b c d e f : Int) : spec_SideOf.f (k + 1) a b c d e f = some (sideOf a b c d e f) := by
  unfold spec_SideOf.f sideOf
  rw [spec_IsPoint.eq, spec_IsPoint.eq, spec_IsPoint.eq]
  cases isPt a b <;> cases isPt c d <;> cases isPt e f <;> simp [spec_SideOf.j0, spec_l4Cross.eq]
  generalize crossW a b c d e f = z
  by_cases h : 0 < z
  · rw [if_pos h, if_neg (by omega), if_pos h]
  · rw [if_neg h]
    by_cases h2 : z < 0
    · rw [if_pos h2, if_pos h2]
    · rw [if_neg h2, if_neg h2, if_neg h]
theorem spec_HowMeet.ok (a b c d e f g h : Int) (k : Nat) (hk : 50 ≤ k) : spec_HowMeet.f k a b c d e f g h = some (hmS ((a, b), (c, d)) ((e, f), (g, h))) := by
  unfold spec_HowMeet.f
  obtain ⟨k, rfl⟩ : ∃ m, k = m + 3 := ⟨k - 3, by omega⟩
  rw [spec_IsSegment.eq, spec_IsSegment.eq]
  simp only [Option.bind_some]
  by_cases hs : isSg a b c d = true
  · by_cases ht : isSg e f g h = true
    · obtain ⟨p0, p1, n0⟩ := isSg_iff.mp hs
      obtain ⟨p2, p3, n1⟩ := isSg_iff.mp ht
      rw [if_pos hs, ht, hmS_ok hs ht]
      have t1 : ∀ k, spec_HowMeet.j1 (k + 1) true a b c d e f g h = some 0 := fun k => by simp [spec_HowMeet.j1]
      have main : spec_HowMeet.j1 (k + 2) false a b c d e f g h = some (hm (a, b) (c, d) (e, f) (g, h)) := by
        simp only [spec_HowMeet.j1]
        rw [if_neg (by simp), spec_l5Shared.ok a b c d e f g h hs ht _ (by omega)]
        simp only [Option.bind_some]
        unfold hm
        by_cases q : shared (a, b) (c, d) (e, f) (g, h) = 0
        · rw [if_pos q, if_pos q, spec_SideOf.eq, spec_SideOf.eq, sideOf_sgn p0 p1 p2, sideOf_sgn p0 p1 p3]
          simp only [Option.bind_some]
          rw [sgn_prod]
          have hx := crossing_sgn (a, b) (c, d) (e, f) (g, h)
          by_cases q1 : sgn (cr (a, b) (c, d) (e, f)) * sgn (cr (a, b) (c, d) (g, h)) < 0
          · rw [if_pos q1, spec_SideOf.eq, spec_SideOf.eq, sideOf_sgn p2 p3 p0, sideOf_sgn p2 p3 p1]
            simp only [Option.bind_some]
            rw [sgn_prod]
            by_cases q2 : sgn (cr (e, f) (g, h) (a, b)) * sgn (cr (e, f) (g, h) (c, d)) < 0
            · rw [if_pos q2, if_pos (hx.mpr ⟨q1, q2⟩)]
            · rw [if_neg q2, if_neg (fun x => q2 (hx.mp x).2)]
          · rw [if_neg q1, if_neg (fun x => q1 (hx.mp x).1)]
        · rw [if_neg q, if_neg q]
          by_cases q2 : shared (a, b) (c, d) (e, f) (g, h) = 1
          · rw [if_pos q2, if_pos q2]
          · rw [if_neg q2, if_neg q2]
      have far : Geo.apart (a, b) (c, d) (e, f) (g, h) → hm (a, b) (c, d) (e, f) (g, h) = 0 := hm_apart
      simp only [Bool.not_true, spec_HowMeet.j0]
      rw [if_neg (by simp), spec_Max.eq, spec_Max.eq, spec_Max.eq, spec_Max.eq, spec_Min.eq, spec_Min.eq, spec_Min.eq, spec_Min.eq]
      simp only [Option.bind_some]
      unfold Geo.apart at far
      simp only at far
      by_cases g0 : max a c < min e g
      · rw [if_pos g0, t1, far (Or.inl g0)]
      · rw [if_neg g0]
        by_cases g1 : max e g < min a c
        · rw [if_pos g1, t1, far (Or.inr (Or.inl g1))]
        · rw [if_neg g1]
          by_cases g2 : max b d < min f h
          · rw [if_pos g2, t1, far (Or.inr (Or.inr (Or.inl g2)))]
          · rw [if_neg g2]
            by_cases g3 : max f h < min b d
            · rw [decide_eq_true g3, t1, far (Or.inr (Or.inr (Or.inr g3)))]
            · rw [decide_eq_false g3]; exact main
    · rw [if_pos hs, hmS_not (fun x => ht x.2), show isSg e f g h = false by simpa using ht]
      simp [spec_HowMeet.j0]
  · rw [if_neg hs, hmS_not (fun x => hs x.1)]
    simp [spec_HowMeet.j0]
theorem impl_InRange.eq (a b c : Int) : impl_InRange.f a b c = some (decide (b ≤ a ∧ a ≤ c)) := by
  unfold impl_InRange.f
  by_cases h : b ≤ a
  · rw [if_pos h]; simp [h]
  · rw [if_neg h]; simp [h]
theorem impl_IsPoint.eq (x y : Int) : impl_IsPoint.f x y = some (isPt x y) := isPt_bind x y (impl_InRange.eq ..) (impl_InRange.eq ..)
theorem cmp_Compare_int.eq (a b : Int) : cmp_Compare_int.f a b = some (if a < b then -1 else if a > b then 1 else 0) := by
  unfold cmp_Compare_int.f cmp_isNaN_int.f
  simp
  split
  · rfl
  · split <;> rfl
theorem impl_cross.eq (a b c d e f : Int) : impl_cross.f a b c d e f = some (crossW a b c d e f) := rfl
theorem impl_SideOf.eq (k : Nat) (a b c d e f : Int) : impl_SideOf.f (k + 1) a b c d e f = some (sideOf a b c d e f) := by
  unfold impl_SideOf.f sideOf
  rw [impl_IsPoint.eq, impl_IsPoint.eq, impl_IsPoint.eq]
  cases isPt a b <;> cases isPt c d <;> cases isPt e f <;> simp [impl_SideOf.j0, impl_cross.eq, cmp_Compare_int.eq]
theorem impl_BeforePoint.eq (a b c d : Int) : impl_BeforePoint.f a b c d = some (decide (b < d ∨ (b = d ∧ a < c))) := by
  unfold impl_BeforePoint.f
  by_cases h : b < d
  · rw [if_pos h]; simp [h]
  · rw [if_neg h]
    by_cases h1 : b = d
    · rw [if_pos h1]; simp [h1]
    · rw [if_neg h1]; simp [h, h1]
theorem impl_IsSegment.eq (a b c d : Int) : impl_IsSegment.f a b c d = some (isSg a b c d) := by
  unfold impl_IsSegment.f isSg
  rw [impl_IsPoint.eq, impl_IsPoint.eq]
  cases isPt a b <;> cases isPt c d <;> simp
theorem impl_forward.eq (a b c d : Int) : impl_forward.f a b c d = some ((lo (a, b) (c, d)).1, (lo (a, b) (c, d)).2, (hi (a, b) (c, d)).1, (hi (a, b) (c, d)).2) := by
  unfold impl_forward.f lo hi
  rw [impl_BeforePoint.eq]
  simp only [Option.bind_some]
  by_cases h : before (c, d) (a, b)
  · rw [if_pos (decide_eq_true (show d < b ∨ (d = b ∧ c < a) from h)), if_pos h, if_pos h]
    rfl
  · rw [if_neg (by rw [decide_eq_true_eq]; exact h), if_neg h, if_neg h]
theorem impl_IsOn.eq (k : Nat) (a b c d e f : Int) : impl_IsOn.f (k + 1) a b c d e f = some (onW a b c d e f) := by
  rw [← onW_of (z := sideOf a b c d e f) side_zero]
  unfold impl_IsOn.f
  simp only [impl_IsSegment.eq, impl_IsPoint.eq, impl_SideOf.eq, impl_InRange.eq, Option.bind_some, mx, mn, mx_max, mn_min]
theorem impl_HowMeet.j3_ok (k : Nat) (a b c d : Int) : impl_HowMeet.j3 (k + 1) a b c d = some (if before (c, d) (a, b) then 0 else if ((a, b) : Pt) = (c, d) then 1 else 3) := by
  simp only [impl_HowMeet.j3]
  rw [impl_BeforePoint.eq]
  simp only [Option.bind_some]
  by_cases h : before (c, d) (a, b)
  · rw [if_pos (decide_eq_true (show d < b ∨ (d = b ∧ c < a) from h)), if_pos h]
  · rw [if_neg (by rw [decide_eq_true_eq]; exact h), if_neg h, eq_pt]
    by_cases g : ((a, b) : Pt) = (c, d)
    · rw [if_pos (decide_eq_true g), if_pos g]
    · rw [if_neg (by rw [decide_eq_true_eq]; exact g), if_neg g]
theorem impl_HowMeet.j2_ok (k : Nat) (t0 t1 c d l0 l1 e f : Int) : impl_HowMeet.j2 (k + 2) t0 t1 c d l0 l1 e f =
    some (let high : Pt := if before (c, d) (e, f) then (c, d) else (e, f); if before high (l0, l1) then 0 else if ((l0, l1) : Pt) = high then 1 else 3) := by
  simp only [impl_HowMeet.j2]
  rw [impl_BeforePoint.eq]
  simp only [Option.bind_some]
  by_cases h : before (c, d) (e, f)
  · rw [if_pos (decide_eq_true (show d < f ∨ (d = f ∧ c < e) from h)), if_pos h, impl_HowMeet.j3_ok]
  · rw [if_neg (by rw [decide_eq_true_eq]; exact h), if_neg h, impl_HowMeet.j3_ok]
theorem impl_HowMeet.line_ok (k : Nat) (x y : Int) (a b c d e f g h : Int) : impl_HowMeet.j1 (k + 3) x y true a b c d e f g h = some (hmLine (a, b) (c, d) (e, f) (g, h)) := by
  simp only [impl_HowMeet.j1]
  rw [if_pos trivial, impl_forward.eq, impl_forward.eq]
  simp only [Option.bind_some]
  rw [impl_BeforePoint.eq, hmLine_lo]
  simp only [Option.bind_some]
  by_cases q : before (lo (a, b) (c, d)) (lo (e, f) (g, h))
  · rw [if_pos (decide_eq_true (show (lo (a, b) (c, d)).2 < (lo (e, f) (g, h)).2 ∨ ((lo (a, b) (c, d)).2 = (lo (e, f) (g, h)).2 ∧ (lo (a, b) (c, d)).1 < (lo (e, f) (g, h)).1) from q)), if_pos q, impl_HowMeet.j2_ok]
  · rw [if_neg (by rw [decide_eq_true_eq]; exact q), if_neg q, impl_HowMeet.j2_ok]
theorem impl_HowMeet.j4_ok (k : Nat) (t : Bool) (a b c d e f g h : Int) (hs : isSg a b c d = true) (ht : isSg e f g h = true) : impl_HowMeet.j4 (k + 2) t a b c d e f g h =
    some (if t = true then 2 else if on (a, b) (c, d) (e, f) ∨ on (a, b) (c, d) (g, h) ∨ on (e, f) (g, h) (a, b) ∨ on (e, f) (g, h) (c, d) then 1 else 0) := by
  obtain ⟨p0, p1, _⟩ := isSg_iff.mp hs
  obtain ⟨p2, p3, _⟩ := isSg_iff.mp ht
  simp only [impl_HowMeet.j4]
  by_cases h0 : t = true
  · rw [if_pos h0, if_pos h0]
  · rw [if_neg h0, if_neg h0, impl_IsOn.eq, impl_IsOn.eq, impl_IsOn.eq, impl_IsOn.eq, onW_on hs p2, onW_on hs p3, onW_on ht p0, onW_on ht p1]
    simp only [Option.bind_some, decide_eq_true_eq]
    by_cases h1 : on (a, b) (c, d) (e, f)
    · rw [if_pos h1, if_pos (Or.inl h1)]
    · by_cases h2 : on (a, b) (c, d) (g, h)
      · rw [if_neg h1, if_pos h2, if_pos (Or.inr (Or.inl h2))]
      · by_cases h3 : on (e, f) (g, h) (a, b)
        · rw [if_neg h1, if_neg h2, if_pos h3, if_pos (Or.inr (Or.inr (Or.inl h3)))]
        · by_cases h4 : on (e, f) (g, h) (c, d)
          · rw [if_neg h1, if_neg h2, if_neg h3, if_pos h4, if_pos (Or.inr (Or.inr (Or.inr h4)))]
          · rw [if_neg h1, if_neg h2, if_neg h3, if_neg h4, if_neg (by simp [h1, h2, h3, h4])]
theorem impl_HowMeet.ok (a b c d e f g h : Int) (k : Nat) (hk : 8 ≤ k) : impl_HowMeet.f k a b c d e f g h = some (hmS ((a, b), (c, d)) ((e, f), (g, h))) := by
  unfold impl_HowMeet.f
  obtain ⟨k, rfl⟩ : ∃ m, k = m + 8 := ⟨k - 8, by omega⟩
  rw [impl_IsSegment.eq, impl_IsSegment.eq]
  simp only [Option.bind_some]
  by_cases hs : isSg a b c d = true
  · by_cases ht : isSg e f g h = true
    · obtain ⟨p0, p1, n0⟩ := isSg_iff.mp hs
      obtain ⟨p2, p3, n1⟩ := isSg_iff.mp ht
      rw [if_pos hs, ht, hmS_ok hs ht]
      simp only [impl_HowMeet.j0]
      rw [if_neg (by simp), impl_SideOf.eq, impl_SideOf.eq, sideOf_sgn p0 p1 p2, sideOf_sgn p0 p1 p3]
      simp only [Option.bind_some]
      have cross : ¬ (cr (a, b) (c, d) (e, f) = 0 ∧ cr (a, b) (c, d) (g, h) = 0) → impl_HowMeet.j1 (k + 7) (sgn (cr (a, b) (c, d) (e, f))) (sgn (cr (a, b) (c, d) (g, h))) false a b c d e f g h = some (hm (a, b) (c, d) (e, f) (g, h)) := by
        intro hn
        simp only [impl_HowMeet.j1]
        rw [if_neg (by simp), sgn_prod, ← hm_cross n0 n1 hn]
        have hx := crossing_sgn (a, b) (c, d) (e, f) (g, h)
        by_cases q : sgn (cr (a, b) (c, d) (e, f)) * sgn (cr (a, b) (c, d) (g, h)) < 0
        · rw [if_pos q, impl_SideOf.eq, impl_SideOf.eq, sideOf_sgn p2 p3 p0, sideOf_sgn p2 p3 p1]
          simp only [Option.bind_some]
          rw [sgn_prod, impl_HowMeet.j4_ok _ _ _ _ _ _ _ _ _ _ hs ht]
          by_cases q2 : sgn (cr (e, f) (g, h) (a, b)) * sgn (cr (e, f) (g, h) (c, d)) < 0
          · rw [if_pos (decide_eq_true q2), if_pos (hx.mpr ⟨q, q2⟩)]
          · rw [if_neg (by rw [decide_eq_true_eq]; exact q2), if_neg (fun x => q2 (hx.mp x).2)]
        · rw [if_neg q, impl_HowMeet.j4_ok _ _ _ _ _ _ _ _ _ _ hs ht, if_neg (by simp), if_neg (fun x => q (hx.mp x).1)]
      by_cases z : cr (a, b) (c, d) (e, f) = 0
      · rw [if_pos (sgn_zero.mpr z)]
        by_cases z2 : cr (a, b) (c, d) (g, h) = 0
        · rw [show (sgn (cr (a, b) (c, d) (g, h)) == 0) = true by rw [beq_iff_eq]; exact sgn_zero.mpr z2, impl_HowMeet.line_ok, hm_line n0 n1 z z2]
        · rw [show (sgn (cr (a, b) (c, d) (g, h)) == 0) = false by rw [beq_eq_false_iff_ne]; exact fun x => z2 (sgn_zero.mp x)]
          exact cross (fun x => z2 x.2)
      · rw [if_neg (fun x => z (sgn_zero.mp x))]
        exact cross (fun x => z x.1)
    · rw [if_pos hs, hmS_not (fun x => ht x.2), show isSg e f g h = false by simpa using ht]
      simp [impl_HowMeet.j0]
  · rw [if_neg hs, hmS_not (fun x => hs x.1)]
    simp [impl_HowMeet.j0]
theorem FnExactHowMeet (a b c d e f g h : Int) (_wa : (Lit.int .i64 a).wf = true) (_wb : (Lit.int .i64 b).wf = true) (_wc : (Lit.int .i64 c).wf = true) (_wd : (Lit.int .i64 d).wf = true) (_we : (Lit.int .i64 e).wf = true) (_wf : (Lit.int .i64 f).wf = true) (_wg : (Lit.int .i64 g).wf = true) (_wh : (Lit.int .i64 h).wf = true) : ∃ k, laws_FnExactHowMeet.f k a b c d e f g h = some true := by
  refine ⟨60, ?_⟩
  unfold laws_FnExactHowMeet.f laws_toSegment.f laws_toPoint.f
  simp only [Option.bind_some]
  exact agree_int (spec_HowMeet.ok a b c d e f g h 60 (by omega)) (impl_HowMeet.ok a b c d e f g h 60 (by omega))

end Go.Proofs.Ytelngjhdpbfifaa.Pure
