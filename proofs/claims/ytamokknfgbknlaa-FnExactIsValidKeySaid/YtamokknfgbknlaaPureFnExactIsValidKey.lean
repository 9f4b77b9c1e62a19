/- The program's IsValidKey answers as the reference's, for every number of 64 bits. -/
import Derived.Test.YtamokknfgbknlaaPFnExactIsValidKeyx1
import Derived.Test.YtamokknfgbknlaaBase
namespace Go.Proofs.Ytamokknfgbknlaa.Pure
open Go Go.RowKit Go.Proofs.Ytamokknfgbknlaa.PFnExactIsValidKey Go.Proofs.YtamokknfgbknlaaW.PrintWords Go.Proofs.YtamokknfgbknlaaW.PrintLast Go.Proofs.YtamokknfgbknlaaW.PrintMore Go.Proofs.Ytamokknfgbknlaa.Base
set_option linter.unusedVariables false
set_option linter.unusedSimpArgs false
theorem spec_l1In.eq (a b c : Int) : spec_l1In.f a b c = some (decide (b ≤ a ∧ a ≤ c)) := by
  unfold spec_l1In.f
  by_cases h : b ≤ a
  · rw [if_pos h]; simp [h]
  · rw [if_neg h]; simp [h]
theorem impl_InRange.eq (a b c : Int) : impl_InRange.f a b c = some (decide (b ≤ a ∧ a ≤ c)) := by
  unfold impl_InRange.f
  by_cases h : b ≤ a
  · rw [if_pos h]; simp [h]
  · rw [if_neg h]; simp [h]
theorem FnExactIsValidKey : laws_FnExactIsValidKey.Pure := by
  intro a _
  refine agree_bool (r := decide (1 ≤ a ∧ a ≤ 2147483646)) ?_ ?_
  · unfold spec_IsValidKey.f; rw [spec_l1In.eq]; rfl
  · unfold impl_IsValidKey.f; rw [impl_InRange.eq]; rfl

end Go.Proofs.Ytamokknfgbknlaa.Pure
