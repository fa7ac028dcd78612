import Derived.Test.YtefnonlhepekdaaDoorLq0
import Derived.Test.YtefnonlhepekdaaDoorLq1
import Derived.Test.YtefnonlhepekdaaDoorLq3
import Derived.Test.YtefnonlhepekdaaDoorLq4
import Derived.Test.YtefnonlhepekdaaDoorLq5
import Derived.Test.YtefnonlhepekdaaDoorLq6
import Derived.Test.YtefnonlhepekdaaDoorLq7
import Derived.Test.YtefnonlhepekdaaDoorLq9
namespace Go.Proofs.YtefnonlhepekdaaDoor.Leaf
open Go.RowKit Go.Proofs.YtefnonlhepekdaaDoorW.PrintWords Go.Proofs.YtefnonlhepekdaaDoorW.PrintLast Go.Proofs.YtefnonlhepekdaaDoorW.PrintMore
attribute [local go_sem] max2_int min2_int max_two min_two max_three min_three max_four min_four   -- for this text's walks alone
set_option linter.unusedVariables false
set_option linter.unusedSimpArgs false

end Go.Proofs.YtefnonlhepekdaaDoor.Leaf
