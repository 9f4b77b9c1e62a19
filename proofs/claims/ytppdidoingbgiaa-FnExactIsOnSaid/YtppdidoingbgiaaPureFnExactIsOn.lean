/- The program's IsOn answers as the reference's, for every segment and every point, valid or not. -/
import Derived.Test.YtppdidoingbgiaaPFnExactIsOnx5
import Derived.Test.YtppdidoingbgiaaBase
namespace Go.Proofs.Ytppdidoingbgiaa.Pure
open Go Go.RowKit Go.Proofs.Ytppdidoingbgiaa.PFnExactIsOn Go.Proofs.YtppdidoingbgiaaW.PrintWords Go.Proofs.YtppdidoingbgiaaW.PrintLast Go.Proofs.YtppdidoingbgiaaW.PrintMore Go.Proofs.Ytppdidoingbgiaa.Base
set_option linter.unusedVariables false
set_option linter.unusedSimpArgs false
theorem spec_l1In.eq (a b c : Int) : spec_l1In.f a b c = some (decide (b ≤ a ∧ a ≤ c)) := by
  unfold spec_l1In.f
  by_cases h : b ≤ a
  · rw [if_pos h]; simp [h]
  · rw [if_neg h]; simp [h]
theorem spec_IsPoint.eq (x y : Int) : spec_IsPoint.f x y = some (isPt x y) := isPt_bind x y (spec_l1In.eq ..) (spec_l1In.eq ..)
theorem spec_Max.eq (a b : Int) : spec_Max.f a b = some (max a b) := by
  unfold spec_Max.f
  by_cases h : b > a
  · rw [if_pos h]; congr 1; omega
  · rw [if_neg h]; congr 1; omega
theorem spec_IsSegment.eq (a b c d : Int) : spec_IsSegment.f a b c d = some (isSg a b c d) := by
  unfold spec_IsSegment.f isSg
  rw [spec_IsPoint.eq, spec_IsPoint.eq]
  cases isPt a b <;> cases isPt c d <;> simp
theorem spec_l4Cross.eq (a b c d e f : Int) : spec_l4Cross.f a b c d e f = some (crossW a b c d e f) := rfl
theorem spec_Min.eq (a b : Int) : spec_Min.f a b = some (min a b) := by
  unfold spec_Min.f
  by_cases h : b < a
  · rw [if_pos h]; congr 1; omega
  · rw [if_neg h]; congr 1; omega
theorem spec_IsOn.eq (a b c d e f : Int) : spec_IsOn.f a b c d e f = some (onW a b c d e f) := by
  rw [← onW_of (z := crossW a b c d e f) (fun _ _ => Iff.rfl)]
  unfold spec_IsOn.f
  simp only [spec_IsSegment.eq, spec_IsPoint.eq, spec_l4Cross.eq, spec_Min.eq, spec_Max.eq, spec_l1In.eq, Option.bind_some]
theorem impl_InRange.eq (a b c : Int) : impl_InRange.f a b c = some (decide (b ≤ a ∧ a ≤ c)) := by
  unfold impl_InRange.f
  by_cases h : b ≤ a
  · rw [if_pos h]; simp [h]
  · rw [if_neg h]; simp [h]
theorem impl_IsPoint.eq (x y : Int) : impl_IsPoint.f x y = some (isPt x y) := isPt_bind x y (impl_InRange.eq ..) (impl_InRange.eq ..)
theorem impl_IsSegment.eq (a b c d : Int) : impl_IsSegment.f a b c d = some (isSg a b c d) := by
  unfold impl_IsSegment.f isSg
  rw [impl_IsPoint.eq, impl_IsPoint.eq]
  cases isPt a b <;> cases isPt c d <;> simp
theorem cmp_Compare_int.eq (a b : Int) : cmp_Compare_int.f a b = some (if a < b then -1 else if a > b then 1 else 0) := by
  unfold cmp_Compare_int.f cmp_isNaN_int.f
  simp
  split
  · rfl
  · split <;> rfl
theorem impl_cross.eq (a b c d e f : Int) : impl_cross.f a b c d e f = some (crossW a b c d e f) := rfl
theorem impl_SideOf.eq (k : Nat) (a b c d e f : Int) : impl_SideOf.f (k + 1) a b c d e f = some (sideOf a b c d e f) := by
  unfold impl_SideOf.f sideOf
  rw [impl_IsPoint.eq, impl_IsPoint.eq, impl_IsPoint.eq]
  cases isPt a b <;> cases isPt c d <;> cases isPt e f <;> simp [impl_SideOf.j0, impl_cross.eq, cmp_Compare_int.eq]
theorem impl_IsOn.eq (k : Nat) (a b c d e f : Int) : impl_IsOn.f (k + 1) a b c d e f = some (onW a b c d e f) := by
  rw [← onW_of (z := sideOf a b c d e f) side_zero]
  unfold impl_IsOn.f
  simp only [impl_IsSegment.eq, impl_IsPoint.eq, impl_SideOf.eq, impl_InRange.eq, Option.bind_some, mx, mn, mx_max, mn_min]
theorem FnExactIsOn (a b c d e f : Int) (_wa : (Lit.int .i64 a).wf = true) (_wb : (Lit.int .i64 b).wf = true) (_wc : (Lit.int .i64 c).wf = true) (_wd : (Lit.int .i64 d).wf = true) (_we : (Lit.int .i64 e).wf = true) (_wf : (Lit.int .i64 f).wf = true) : ∃ k, laws_FnExactIsOn.f k a b c d e f = some true := by
  refine ⟨1, ?_⟩
  unfold laws_FnExactIsOn.f laws_toSegment.f laws_toPoint.f
  simp only [Option.bind_some]
  exact agree_bool (spec_IsOn.eq a b c d e f) (impl_IsOn.eq 0 a b c d e f)

end Go.Proofs.Ytppdidoingbgiaa.Pure
