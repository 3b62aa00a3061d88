/- FnExactConstants answers true: all constants of the program are what the document says. No condition. -/
import Derived.Test.YtmagnbbpbhmacaaPFnExactConstantsx1
namespace Go.Proofs.Ytmagnbbpbhmacaa.Pure
open Go.RowKit Go.Proofs.Ytmagnbbpbhmacaa.PFnExactConstants Go.Proofs.YtmagnbbpbhmacaaW.PrintWords Go.Proofs.YtmagnbbpbhmacaaW.PrintLast
set_option linter.unusedVariables false
set_option linter.unusedSimpArgs false

theorem FnExactConstants : laws_FnExactConstants.Pure := rfl

end Go.Proofs.Ytmagnbbpbhmacaa.Pure
