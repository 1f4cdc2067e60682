/- The given numbers are the document's: a closed sentence, true. -/
import Derived.Test.YtipgpcpolobjiaaPx1
set_option linter.unusedVariables false
namespace Go.Proofs.Ytipgpcpolobjiaa.Pure
open Go.RowKit Go.Proofs.Ytipgpcpolobjiaa.P
theorem ApiNames : shardtop_ApiNames.Pure := rfl
end Go.Proofs.Ytipgpcpolobjiaa.Pure
