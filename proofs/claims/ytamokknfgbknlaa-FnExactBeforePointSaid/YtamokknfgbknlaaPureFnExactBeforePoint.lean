/- The program's BeforePoint answers as the reference's, for all two points, valid or not. -/
import Derived.Test.YtamokknfgbknlaaPFnExactBeforePointx1
import Derived.Test.YtamokknfgbknlaaBase
namespace Go.Proofs.Ytamokknfgbknlaa.Pure
open Go Go.RowKit Go.Proofs.Ytamokknfgbknlaa.PFnExactBeforePoint Go.Proofs.YtamokknfgbknlaaW.PrintWords Go.Proofs.YtamokknfgbknlaaW.PrintLast Go.Proofs.YtamokknfgbknlaaW.PrintMore Go.Proofs.Ytamokknfgbknlaa.Base
set_option linter.unusedVariables false
set_option linter.unusedSimpArgs false
theorem spec_BeforePoint.eq (a b c d : Int) : spec_BeforePoint.f a b c d = some (decide (b < d ∨ (b = d ∧ a < c))) := by
  unfold spec_BeforePoint.f
  by_cases h : b < d
  · rw [if_pos h]; simp [h]
  · rw [if_neg h]
    by_cases h1 : b = d
    · rw [if_pos h1]; simp [h1]
    · rw [if_neg h1]; simp [h, h1]
theorem impl_BeforePoint.eq (a b c d : Int) : impl_BeforePoint.f a b c d = some (decide (b < d ∨ (b = d ∧ a < c))) := by
  unfold impl_BeforePoint.f
  by_cases h : b < d
  · rw [if_pos h]; simp [h]
  · rw [if_neg h]
    by_cases h1 : b = d
    · rw [if_pos h1]; simp [h1]
    · rw [if_neg h1]; simp [h, h1]
theorem FnExactBeforePoint (a b c d : Int) (_wa : (Lit.int .i64 a).wf = true) (_wb : (Lit.int .i64 b).wf = true) (_wc : (Lit.int .i64 c).wf = true) (_wd : (Lit.int .i64 d).wf = true) : laws_FnExactBeforePoint.f a b c d = some true := by
  unfold laws_FnExactBeforePoint.f laws_toPoint.f
  simp only [Option.bind_some]
  exact agree_bool (spec_BeforePoint.eq a b c d) (impl_BeforePoint.eq a b c d)

end Go.Proofs.Ytamokknfgbknlaa.Pure
