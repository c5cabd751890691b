/- Contracts of the functions that the law reaches, written by a program of the session out of the translation (the kit's print program, with contracts given by hand where it has none). Conditions: those that each theorem states. -/
import Derived.Test.YtjopendipackpaaProg
import Derived.Below
import Derived.Deep.Draws
import Derived.Deep.AppendLies
import Derived.Maps.AppendAt
import Derived.OwnWalk
import Derived.Laws.BytesArg
import Derived.Laws.MakeOwn
import Derived.Laws.OwnMore
import Derived.Deep.OwnRows
import Derived.Tactics
import Derived.Lib.ConvBytes
import Derived.Laws.Slices
import Derived.WalkKit
import Derived.KernelRfl
import Derived.RowKit3
import Derived.Deep.LoopGhost
import Derived.Deep.QuietTactic
import Derived.BigQuiet
import Derived.WideLaws
import Derived.Deep.DeepCutAuto
import Derived.Deep.CutBlock
import Derived.Deep.RegionHeld3
import Derived.Laws.Rows
import Derived.Lib.AppendStr
import Derived.ArgAppend
import Derived.Laws.IdiomCopy
import Derived.OrdersHeld
import Derived.Laws.BitsLemmas
import Derived.RowKit
import Derived.Test.YtjopendipackpaaWWords
import Derived.Test.YtjopendipackpaaWLast
import Derived.Test.YtjopendipackpaaWTab
import Derived.Test.YtjopendipackpaaWFour
import Derived.Test.YtjopendipackpaaWQPut
import Derived.Test.YtjopendipackpaaWApart
import Derived.Test.YtjopendipackpaaWArr
import Derived.Test.YtjopendipackpaaWZeros
import Derived.Test.YtjopendipackpaaWFoot
import Derived.Test.YtjopendipackpaaWKept
import Derived.Test.YtjopendipackpaaWShare
import Derived.Test.YtjopendipackpaaWN
import Derived.Test.YtjopendipackpaaWFootNe
import Derived.Test.YtjopendipackpaaWAt
import Derived.Test.YtjopendipackpaaWEqStruct
import Derived.Test.YtjopendipackpaaWRepsOne
import Derived.Test.YtjopendipackpaaWInv
import Derived.Test.YtjopendipackpaaWInvWords
import Derived.Test.YtjopendipackpaaWGuard
import Derived.Test.YtjopendipackpaaWNEv
import Derived.Test.YtjopendipackpaaWMore
namespace Go.Proofs.Ytjopendipackpaa.PTimC
open Go.RowKit Go.Proofs.YtjopendipackpaaW.PrintWords Go.Proofs.YtjopendipackpaaW.PrintLast Go.Proofs.YtjopendipackpaaW.PrintMore
attribute [local go_sem] max2_int min2_int max_two min_two max_three min_three max_four min_four   -- for this text's walks alone
set_option linter.unusedVariables false
set_option linter.unusedSimpArgs false



def errW : Option Int → Value
  | none => .nilIface
  | some c => .iface 0 (.int .i64 c)
theorem errW_none : errW none = .nilIface := rfl
theorem errW_some (c : Int) : errW (some c) = .iface 0 (.int .i64 c) := rfl

-- the values' own types

end Go.Proofs.Ytjopendipackpaa.PTimC
