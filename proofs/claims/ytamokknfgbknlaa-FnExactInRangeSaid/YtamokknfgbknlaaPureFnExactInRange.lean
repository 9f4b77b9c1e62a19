/- The program's InRange answers as the reference's, for all three numbers of 64 bits. -/
import Derived.Test.YtamokknfgbknlaaPFnExactInRangex1
import Derived.Test.YtamokknfgbknlaaBase
namespace Go.Proofs.Ytamokknfgbknlaa.Pure
open Go Go.RowKit Go.Proofs.Ytamokknfgbknlaa.PFnExactInRange Go.Proofs.YtamokknfgbknlaaW.PrintWords Go.Proofs.YtamokknfgbknlaaW.PrintLast Go.Proofs.YtamokknfgbknlaaW.PrintMore Go.Proofs.Ytamokknfgbknlaa.Base
set_option linter.unusedVariables false
set_option linter.unusedSimpArgs false
theorem spec_InRange.eq (a b c : Int) : spec_InRange.f a b c = some (decide (b ≤ a ∧ a ≤ c)) := by
  unfold spec_InRange.f
  by_cases h : b ≤ a
  · rw [if_pos h]; simp [h]
  · rw [if_neg h]; simp [h]
theorem impl_InRange.eq (a b c : Int) : impl_InRange.f a b c = some (decide (b ≤ a ∧ a ≤ c)) := by
  unfold impl_InRange.f
  by_cases h : b ≤ a
  · rw [if_pos h]; simp [h]
  · rw [if_neg h]; simp [h]
theorem FnExactInRange : laws_FnExactInRange.Pure := by
  intro a b c _ _ _
  exact agree_bool (spec_InRange.eq a b c) (impl_InRange.eq a b c)

end Go.Proofs.Ytamokknfgbknlaa.Pure
