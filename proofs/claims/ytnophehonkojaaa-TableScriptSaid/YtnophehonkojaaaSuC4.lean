/-
  partitionOrdered: the worked walk of the kit (toy So, at int), turned to uint64.
-/
import Derived.Test.YtnophehonkojaaaProg
import Derived.Test.YtnophehonkojaaaSu0
import Derived.Sort.WalkC4
namespace Go.Proofs.Ytnophehonkojaaa
open Go.RowKit Go.Sort
set_option linter.unusedVariables false
set_option linter.unusedSimpArgs false

end Go.Proofs.Ytnophehonkojaaa
