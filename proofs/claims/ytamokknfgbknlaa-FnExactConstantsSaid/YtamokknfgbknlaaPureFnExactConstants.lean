/- The program's constants are the reference's: there is nothing to run, for there is no argument. -/
import Derived.Test.YtamokknfgbknlaaPFnExactConstantsx1
namespace Go.Proofs.Ytamokknfgbknlaa.Pure
open Go Go.RowKit Go.Proofs.Ytamokknfgbknlaa.PFnExactConstants Go.Proofs.YtamokknfgbknlaaW.PrintWords Go.Proofs.YtamokknfgbknlaaW.PrintLast Go.Proofs.YtamokknfgbknlaaW.PrintMore
set_option linter.unusedVariables false
set_option linter.unusedSimpArgs false
theorem FnExactConstants : laws_FnExactConstants.Pure := rfl

end Go.Proofs.Ytamokknfgbknlaa.Pure
