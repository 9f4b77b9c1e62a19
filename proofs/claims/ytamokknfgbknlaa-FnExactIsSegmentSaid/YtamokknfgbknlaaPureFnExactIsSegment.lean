/- The program's IsSegment answers as the reference's, for every segment. -/
import Derived.Test.YtamokknfgbknlaaPFnExactIsSegmentx2
import Derived.Test.YtamokknfgbknlaaBase
namespace Go.Proofs.Ytamokknfgbknlaa.Pure
open Go Go.RowKit Go.Proofs.Ytamokknfgbknlaa.PFnExactIsSegment Go.Proofs.YtamokknfgbknlaaW.PrintWords Go.Proofs.YtamokknfgbknlaaW.PrintLast Go.Proofs.YtamokknfgbknlaaW.PrintMore Go.Proofs.Ytamokknfgbknlaa.Base
set_option linter.unusedVariables false
set_option linter.unusedSimpArgs false
theorem spec_l1In.eq (a b c : Int) : spec_l1In.f a b c = some (decide (b ≤ a ∧ a ≤ c)) := by
  unfold spec_l1In.f
  by_cases h : b ≤ a
  · rw [if_pos h]; simp [h]
  · rw [if_neg h]; simp [h]
theorem spec_IsPoint.eq (x y : Int) : spec_IsPoint.f x y = some (isPt x y) := isPt_bind x y (spec_l1In.eq ..) (spec_l1In.eq ..)
theorem spec_IsSegment.eq (a b c d : Int) : spec_IsSegment.f a b c d = some (isSg a b c d) := by
  unfold spec_IsSegment.f isSg
  rw [spec_IsPoint.eq, spec_IsPoint.eq]
  cases isPt a b <;> cases isPt c d <;> simp
theorem impl_InRange.eq (a b c : Int) : impl_InRange.f a b c = some (decide (b ≤ a ∧ a ≤ c)) := by
  unfold impl_InRange.f
  by_cases h : b ≤ a
  · rw [if_pos h]; simp [h]
  · rw [if_neg h]; simp [h]
theorem impl_IsPoint.eq (x y : Int) : impl_IsPoint.f x y = some (isPt x y) := isPt_bind x y (impl_InRange.eq ..) (impl_InRange.eq ..)
theorem impl_IsSegment.eq (a b c d : Int) : impl_IsSegment.f a b c d = some (isSg a b c d) := by
  unfold impl_IsSegment.f isSg
  rw [impl_IsPoint.eq, impl_IsPoint.eq]
  cases isPt a b <;> cases isPt c d <;> simp
theorem FnExactIsSegment (a b c d : Int) (_wa : (Lit.int .i64 a).wf = true) (_wb : (Lit.int .i64 b).wf = true) (_wc : (Lit.int .i64 c).wf = true) (_wd : (Lit.int .i64 d).wf = true) : laws_FnExactIsSegment.f a b c d = some true := by
  unfold laws_FnExactIsSegment.f laws_toSegment.f laws_toPoint.f
  simp only [Option.bind_some]
  exact agree_bool (spec_IsSegment.eq a b c d) (impl_IsSegment.eq a b c d)

end Go.Proofs.Ytamokknfgbknlaa.Pure
