/- The program's Min answers as the reference's, for all two numbers of 64 bits. -/
import Derived.Test.YtamokknfgbknlaaPFnExactMinx1
import Derived.Test.YtamokknfgbknlaaBase
namespace Go.Proofs.Ytamokknfgbknlaa.Pure
open Go Go.RowKit Go.Proofs.Ytamokknfgbknlaa.PFnExactMin Go.Proofs.YtamokknfgbknlaaW.PrintWords Go.Proofs.YtamokknfgbknlaaW.PrintLast Go.Proofs.YtamokknfgbknlaaW.PrintMore Go.Proofs.Ytamokknfgbknlaa.Base
set_option linter.unusedVariables false
set_option linter.unusedSimpArgs false
theorem spec_Min.eq (a b : Int) : spec_Min.f a b = some (min a b) := by
  unfold spec_Min.f
  by_cases h : b < a
  · rw [if_pos h]; congr 1; omega
  · rw [if_neg h]; congr 1; omega
theorem impl_Min.eq (a b : Int) : impl_Min.f a b = some (min a b) := by
  unfold impl_Min.f mn
  congr 1; split <;> omega
theorem FnExactMin : laws_FnExactMin.Pure := by
  intro a b _ _
  exact agree_int (spec_Min.eq a b) (impl_Min.eq a b)

end Go.Proofs.Ytamokknfgbknlaa.Pure
