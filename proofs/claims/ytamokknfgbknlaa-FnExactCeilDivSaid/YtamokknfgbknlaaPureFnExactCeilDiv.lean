/- The program's CeilDiv answers as the reference's, for all two numbers of 64 bits. -/
import Derived.Test.YtamokknfgbknlaaPFnExactCeilDivx1
import Derived.Test.YtamokknfgbknlaaBase
namespace Go.Proofs.Ytamokknfgbknlaa.Pure
open Go Go.RowKit Go.Proofs.Ytamokknfgbknlaa.PFnExactCeilDiv Go.Proofs.YtamokknfgbknlaaW.PrintWords Go.Proofs.YtamokknfgbknlaaW.PrintLast Go.Proofs.YtamokknfgbknlaaW.PrintMore Go.Proofs.Ytamokknfgbknlaa.Base
set_option linter.unusedVariables false
set_option linter.unusedSimpArgs false
theorem spec_l1In.eq (a b c : Int) : spec_l1In.f a b c = some (decide (b ≤ a ∧ a ≤ c)) := by
  unfold spec_l1In.f
  by_cases h : b ≤ a
  · rw [if_pos h]; simp [h]
  · rw [if_neg h]; simp [h]
theorem spec_CeilDiv.eq (a b : Int) : spec_CeilDiv.f a b = some (ceilOf a b) := by
  unfold spec_CeilDiv.f
  rw [spec_l1In.eq, spec_l1In.eq]
  exact ceilOf_of a b
theorem impl_InRange.eq (a b c : Int) : impl_InRange.f a b c = some (decide (b ≤ a ∧ a ≤ c)) := by
  unfold impl_InRange.f
  by_cases h : b ≤ a
  · rw [if_pos h]; simp [h]
  · rw [if_neg h]; simp [h]
theorem impl_CeilDiv.eq (a b : Int) : impl_CeilDiv.f a b = some (ceilOf a b) := by
  unfold impl_CeilDiv.f
  rw [impl_InRange.eq, impl_InRange.eq]
  exact ceilOf_of a b
theorem FnExactCeilDiv : laws_FnExactCeilDiv.Pure := by
  intro a b _ _
  exact agree_int (spec_CeilDiv.eq a b) (impl_CeilDiv.eq a b)

end Go.Proofs.Ytamokknfgbknlaa.Pure
