/-
  Lists that are compared: ashlarref00.Same.
-/
import Derived.Test.YtdchcggllcgokaaDoorProg
import Derived.Test.YtdchcggllcgokaaDoorLib
namespace Go.Proofs.YtdchcggllcgokaaDoor.S
open Go.RowKit Go.Proofs.YtdchcggllcgokaaDoor.L Go.Proofs.YtdchcggllcgokaaDoorW.PrintWords
set_option linter.unusedVariables false

end Go.Proofs.YtdchcggllcgokaaDoor.S
