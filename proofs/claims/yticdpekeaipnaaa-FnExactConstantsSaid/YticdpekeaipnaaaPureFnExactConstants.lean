/- The pure statement of FnExactConstants: each constant is the number that is written beside it. No condition. -/
import Derived.Test.YticdpekeaipnaaaPFnExactConstantsx1
namespace Go.Proofs.Yticdpekeaipnaaa.Pure
open Go.RowKit Go.Proofs.Yticdpekeaipnaaa.PFnExactConstants
set_option linter.unusedVariables false
set_option linter.unusedSimpArgs false

theorem FnExactConstants : laws_FnExactConstants.Pure := rfl

end Go.Proofs.Yticdpekeaipnaaa.Pure
