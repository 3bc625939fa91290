/-
  num.Unbits's errors; ashlarref01.Unbits.
-/
import Derived.Test.YtdchcggllcgokaaDoorNum8
namespace Go.Proofs.YtdchcggllcgokaaDoor.U
open Go.RowKit Go.Proofs.YtdchcggllcgokaaDoor.L Go.Proofs.YtdchcggllcgokaaDoorW.PrintWords
set_option linter.unusedVariables false
set_option linter.unusedSimpArgs false

end Go.Proofs.YtdchcggllcgokaaDoor.U
