-- LEAF
import Derived.Test.YtefnonlhepekdaaDoorProg
import Derived.Below
import Derived.Deep.Draws
import Derived.Deep.AppendLies
import Derived.Maps.AppendAt
import Derived.OwnWalk
import Derived.Laws.BytesArg
import Derived.Laws.MakeOwn
import Derived.Laws.OwnMore
import Derived.Deep.OwnRows
import Derived.Tactics
import Derived.Lib.ConvBytes
import Derived.Laws.Slices
import Derived.WalkKit
import Derived.KernelRfl
import Derived.RowKit3
import Derived.Deep.LoopGhost
import Derived.Deep.QuietTactic
import Derived.BigQuiet
import Derived.WideLaws
import Derived.Deep.DeepCutAuto
import Derived.Deep.CutBlock
import Derived.Deep.RegionHeld3
import Derived.Laws.Rows
import Derived.Lib.AppendStr
import Derived.ArgAppend
import Derived.Laws.IdiomCopy
import Derived.OrdersHeld
import Derived.Laws.BitsLemmas
import Derived.RowKit
import Derived.Test.YtefnonlhepekdaaDoorWWords
import Derived.Test.YtefnonlhepekdaaDoorWLast
import Derived.Test.YtefnonlhepekdaaDoorWTab
import Derived.Test.YtefnonlhepekdaaDoorWFour
import Derived.Test.YtefnonlhepekdaaDoorWQPut
import Derived.Test.YtefnonlhepekdaaDoorWApart
import Derived.Test.YtefnonlhepekdaaDoorWArr
import Derived.Test.YtefnonlhepekdaaDoorWZeros
import Derived.Test.YtefnonlhepekdaaDoorWFoot
import Derived.Test.YtefnonlhepekdaaDoorWKept
import Derived.Test.YtefnonlhepekdaaDoorWShare
import Derived.Test.YtefnonlhepekdaaDoorWN
import Derived.Test.YtefnonlhepekdaaDoorWFootNe
import Derived.Test.YtefnonlhepekdaaDoorWAt
import Derived.Test.YtefnonlhepekdaaDoorWEqStruct
import Derived.Test.YtefnonlhepekdaaDoorWRepsOne
import Derived.Test.YtefnonlhepekdaaDoorWInv
import Derived.Test.YtefnonlhepekdaaDoorWInvWords
import Derived.Test.YtefnonlhepekdaaDoorWGuard
import Derived.Test.YtefnonlhepekdaaDoorWNEv
import Derived.Test.YtefnonlhepekdaaDoorWMore
namespace Go.Proofs.YtefnonlhepekdaaDoor.Lng
open Go.RowKit Go.Proofs.YtefnonlhepekdaaDoorW.PrintWords Go.Proofs.YtefnonlhepekdaaDoorW.PrintLast Go.Proofs.YtefnonlhepekdaaDoorW.PrintMore
attribute [local go_sem] max2_int min2_int max_two min_two max_three min_three max_four min_four   -- for this text's walks alone
set_option linter.unusedVariables false
set_option linter.unusedSimpArgs false



def errW : Option Int → Value
  | none => .nilIface
  | some c => .iface 0 (.int .i64 c)
theorem errW_none : errW none = .nilIface := rfl
theorem errW_some (c : Int) : errW (some c) = .iface 0 (.int .i64 c) := rfl

-- the values' own types

end Go.Proofs.YtefnonlhepekdaaDoor.Lng
