import Derived.Test.YtagcabmccpekaaaLeaf0
import Derived.Test.YtagcabmccpekaaaLeaf1
import Derived.Test.YtagcabmccpekaaaLeaf2
import Derived.Test.YtagcabmccpekaaaLeaf3
import Derived.Test.YtagcabmccpekaaaLeaf4
import Derived.Test.YtagcabmccpekaaaLeaf5
import Derived.Test.YtagcabmccpekaaaLeaf6
import Derived.Test.YtagcabmccpekaaaLeaf7
import Derived.Test.YtagcabmccpekaaaLeaf8
namespace Go.Proofs.Ytagcabmccpekaaa.Leaf
open Go.RowKit Go.Proofs.YtagcabmccpekaaaW.PrintWords Go.Proofs.YtagcabmccpekaaaW.PrintLast Go.Proofs.YtagcabmccpekaaaW.PrintMore
attribute [local go_sem] max2_int min2_int max_two min_two max_three min_three max_four min_four   -- for this text's walks alone
set_option linter.unusedVariables false
set_option linter.unusedSimpArgs false

end Go.Proofs.Ytagcabmccpekaaa.Leaf
