/- The program's TurnSegment answers as the reference's, for every segment. -/
import Derived.Test.YtjejfhjkilhbbaaPFnExactTurnSegmentx1
import Derived.Test.YtjejfhjkilhbbaaBase
namespace Go.Proofs.Ytjejfhjkilhbbaa.Pure
open Go Go.RowKit Go.Proofs.Ytjejfhjkilhbbaa.PFnExactTurnSegment Go.Proofs.YtjejfhjkilhbbaaW.PrintWords Go.Proofs.YtjejfhjkilhbbaaW.PrintLast Go.Proofs.YtjejfhjkilhbbaaW.PrintMore Go.Proofs.Ytjejfhjkilhbbaa.Base
set_option linter.unusedVariables false
set_option linter.unusedSimpArgs false
theorem FnExactTurnSegment (a b c d : Int) (_wa : (Lit.int .i64 a).wf = true) (_wb : (Lit.int .i64 b).wf = true) (_wc : (Lit.int .i64 c).wf = true) (_wd : (Lit.int .i64 d).wf = true) : laws_FnExactTurnSegment.f a b c d = some true := by
  simp [laws_FnExactTurnSegment.f, laws_toSegment.f, laws_toPoint.f, spec_TurnSegment.f, impl_TurnSegment.f, laws_eqSegment.f, laws_eqPoint.f]

end Go.Proofs.Ytjejfhjkilhbbaa.Pure
