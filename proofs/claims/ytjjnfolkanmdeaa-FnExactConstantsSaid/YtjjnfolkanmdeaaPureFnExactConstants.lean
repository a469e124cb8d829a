/- The pure statement of the law FnExactConstants: all constants are as told. -/
import Derived.Test.YtjjnfolkanmdeaaPxd
namespace Go.Proofs.Ytjjnfolkanmdeaa.Pure
set_option linter.unusedVariables false
set_option linter.unusedSimpArgs false
open Go.Proofs.Ytjjnfolkanmdeaa.P
theorem FnExactConstants : laws_FnExactConstants.Pure := rfl
end Go.Proofs.Ytjjnfolkanmdeaa.Pure
