/- The program's Max answers as the reference's, for all two numbers of 64 bits. -/
import Derived.Test.YtamokknfgbknlaaPFnExactMaxx1
import Derived.Test.YtamokknfgbknlaaBase
namespace Go.Proofs.Ytamokknfgbknlaa.Pure
open Go Go.RowKit Go.Proofs.Ytamokknfgbknlaa.PFnExactMax Go.Proofs.YtamokknfgbknlaaW.PrintWords Go.Proofs.YtamokknfgbknlaaW.PrintLast Go.Proofs.YtamokknfgbknlaaW.PrintMore Go.Proofs.Ytamokknfgbknlaa.Base
set_option linter.unusedVariables false
set_option linter.unusedSimpArgs false
theorem spec_Max.eq (a b : Int) : spec_Max.f a b = some (max a b) := by
  unfold spec_Max.f
  by_cases h : b > a
  · rw [if_pos h]; congr 1; omega
  · rw [if_neg h]; congr 1; omega
theorem impl_Max.eq (a b : Int) : impl_Max.f a b = some (max a b) := by
  unfold impl_Max.f mx
  congr 1; split <;> omega
theorem FnExactMax : laws_FnExactMax.Pure := by
  intro a b _ _
  exact agree_int (spec_Max.eq a b) (impl_Max.eq a b)

end Go.Proofs.Ytamokknfgbknlaa.Pure
