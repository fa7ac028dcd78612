import Derived.Test.YtefnonlhepekdaaDoorShelf
import Derived.Test.YtefnonlhepekdaaDoorLq0
import Derived.Test.YtefnonlhepekdaaDoorLq1
import Derived.Test.YtefnonlhepekdaaDoorLq2
namespace Go.Proofs.YtefnonlhepekdaaDoor.Leaf
open Go.RowKit Go.Proofs.YtefnonlhepekdaaDoorW.PrintWords Go.Proofs.YtefnonlhepekdaaDoorW.PrintLast Go.Proofs.YtefnonlhepekdaaDoorW.PrintMore
attribute [local go_sem] max2_int min2_int max_two min_two max_three min_three max_four min_four   -- for this text's walks alone
set_option linter.unusedVariables false
set_option linter.unusedSimpArgs false

end Go.Proofs.YtefnonlhepekdaaDoor.Leaf
