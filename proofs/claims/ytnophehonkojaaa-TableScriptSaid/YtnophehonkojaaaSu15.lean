/-
  slices.Sort: the worked walk of the kit (toy So, at int), turned to uint64.
-/
import Derived.Test.YtnophehonkojaaaProg
import Derived.Test.YtnophehonkojaaaSu14
import Derived.Test.YtnophehonkojaaaSuA
import Derived.Test.YtnophehonkojaaaSuA6
import Derived.Test.YtnophehonkojaaaSuC
import Derived.Test.YtnophehonkojaaaSuC4
import Derived.Test.YtnophehonkojaaaSu11
import Derived.Sort.AssemblyPlain
namespace Go.Proofs.Ytnophehonkojaaa
open Go.RowKit Go.Sort
set_option linter.unusedVariables false
set_option linter.unusedSimpArgs false

theorem plain13u : Plain13 where
  swo := swo_ltInt
  ins := insertionSort_holds
  par := partialInsertionSort_holds
  prt := partition_holds _
  peq := partitionEqual_holds _
  pdq := pdq_sorts _
end Go.Proofs.Ytnophehonkojaaa
