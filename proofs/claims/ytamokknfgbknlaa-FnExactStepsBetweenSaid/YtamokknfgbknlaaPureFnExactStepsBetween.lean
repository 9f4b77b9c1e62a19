/- The program's StepsBetween answers as the reference's, for all two points, valid or not. -/
import Derived.Test.YtamokknfgbknlaaPFnExactStepsBetweenx2
import Derived.Test.YtamokknfgbknlaaBase
namespace Go.Proofs.Ytamokknfgbknlaa.Pure
open Go Go.RowKit Go.Proofs.Ytamokknfgbknlaa.PFnExactStepsBetween Go.Proofs.YtamokknfgbknlaaW.PrintWords Go.Proofs.YtamokknfgbknlaaW.PrintLast Go.Proofs.YtamokknfgbknlaaW.PrintMore Go.Proofs.Ytamokknfgbknlaa.Base
set_option linter.unusedVariables false
set_option linter.unusedSimpArgs false
theorem spec_Max.eq (a b : Int) : spec_Max.f a b = some (max a b) := by
  unfold spec_Max.f
  by_cases h : b > a
  · rw [if_pos h]; congr 1; omega
  · rw [if_neg h]; congr 1; omega
theorem spec_l1In.eq (a b c : Int) : spec_l1In.f a b c = some (decide (b ≤ a ∧ a ≤ c)) := by
  unfold spec_l1In.f
  by_cases h : b ≤ a
  · rw [if_pos h]; simp [h]
  · rw [if_neg h]; simp [h]
theorem spec_IsPoint.eq (x y : Int) : spec_IsPoint.f x y = some (isPt x y) := isPt_bind x y (spec_l1In.eq ..) (spec_l1In.eq ..)
theorem spec_StepsBetween.eq (k : Nat) (a b c d : Int) : spec_StepsBetween.f (k + 1) a b c d = some (steps a b c d) := by
  unfold spec_StepsBetween.f steps
  rw [spec_IsPoint.eq, spec_IsPoint.eq]
  cases isPt a b <;> cases isPt c d <;> simp [spec_StepsBetween.j0, spec_Max.eq]
theorem impl_InRange.eq (a b c : Int) : impl_InRange.f a b c = some (decide (b ≤ a ∧ a ≤ c)) := by
  unfold impl_InRange.f
  by_cases h : b ≤ a
  · rw [if_pos h]; simp [h]
  · rw [if_neg h]; simp [h]
theorem impl_IsPoint.eq (x y : Int) : impl_IsPoint.f x y = some (isPt x y) := isPt_bind x y (impl_InRange.eq ..) (impl_InRange.eq ..)
theorem impl_StepsBetween.eq (a b c d : Int) : impl_StepsBetween.f a b c d = some (steps a b c d) := by
  unfold impl_StepsBetween.f steps
  rw [impl_IsPoint.eq, impl_IsPoint.eq]
  have e : ∀ x y : Int, mx x y = max x y := fun x y => by unfold mx; split <;> omega
  cases isPt a b <;> cases isPt c d <;> simp [e]
theorem FnExactStepsBetween (a b c d : Int) (_wa : (Lit.int .i64 a).wf = true) (_wb : (Lit.int .i64 b).wf = true) (_wc : (Lit.int .i64 c).wf = true) (_wd : (Lit.int .i64 d).wf = true) : ∃ k, laws_FnExactStepsBetween.f k a b c d = some true := by
  refine ⟨1, ?_⟩
  unfold laws_FnExactStepsBetween.f laws_toPoint.f
  simp only [Option.bind_some]
  exact agree_int (spec_StepsBetween.eq 0 a b c d) (impl_StepsBetween.eq a b c d)

end Go.Proofs.Ytamokknfgbknlaa.Pure
