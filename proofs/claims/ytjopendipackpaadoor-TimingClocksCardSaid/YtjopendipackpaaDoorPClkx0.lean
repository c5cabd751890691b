/- Contracts of the functions that the law reaches, written by a program of the session out of the translation (the kit's print program, with contracts given by hand where it has none). Conditions: those that each theorem states. -/
import Derived.Test.YtjopendipackpaaDoorProg
import Derived.Below
import Derived.Deep.Draws
import Derived.Deep.AppendLies
import Derived.Maps.AppendAt
import Derived.OwnWalk
import Derived.Laws.BytesArg
import Derived.Laws.MakeOwn
import Derived.Laws.OwnMore
import Derived.Deep.OwnRows
import Derived.Tactics
import Derived.Lib.ConvBytes
import Derived.Laws.Slices
import Derived.WalkKit
import Derived.KernelRfl
import Derived.RowKit3
import Derived.Deep.LoopGhost
import Derived.Deep.QuietTactic
import Derived.BigQuiet
import Derived.WideLaws
import Derived.Deep.DeepCutAuto
import Derived.Deep.CutBlock
import Derived.Deep.RegionHeld3
import Derived.Laws.Rows
import Derived.Lib.AppendStr
import Derived.ArgAppend
import Derived.Laws.IdiomCopy
import Derived.OrdersHeld
import Derived.Laws.BitsLemmas
import Derived.RowKit
import Derived.Test.YtjopendipackpaaDoorWWords
import Derived.Test.YtjopendipackpaaDoorWLast
import Derived.Test.YtjopendipackpaaDoorWTab
import Derived.Test.YtjopendipackpaaDoorWFour
import Derived.Test.YtjopendipackpaaDoorWQPut
import Derived.Test.YtjopendipackpaaDoorWApart
import Derived.Test.YtjopendipackpaaDoorWArr
import Derived.Test.YtjopendipackpaaDoorWZeros
import Derived.Test.YtjopendipackpaaDoorWFoot
import Derived.Test.YtjopendipackpaaDoorWKept
import Derived.Test.YtjopendipackpaaDoorWShare
import Derived.Test.YtjopendipackpaaDoorWN
import Derived.Test.YtjopendipackpaaDoorWFootNe
import Derived.Test.YtjopendipackpaaDoorWAt
import Derived.Test.YtjopendipackpaaDoorWEqStruct
import Derived.Test.YtjopendipackpaaDoorWRepsOne
import Derived.Test.YtjopendipackpaaDoorWInv
import Derived.Test.YtjopendipackpaaDoorWInvWords
import Derived.Test.YtjopendipackpaaDoorWGuard
import Derived.Test.YtjopendipackpaaDoorWNEv
import Derived.Test.YtjopendipackpaaDoorWMore
namespace Go.Proofs.YtjopendipackpaaDoor.PClk
open Go.RowKit Go.Proofs.YtjopendipackpaaDoorW.PrintWords Go.Proofs.YtjopendipackpaaDoorW.PrintLast Go.Proofs.YtjopendipackpaaDoorW.PrintMore
attribute [local go_sem] max2_int min2_int max_two min_two max_three min_three max_four min_four   -- for this text's walks alone
set_option linter.unusedVariables false
set_option linter.unusedSimpArgs false



def errW : Option Int → Value
  | none => .nilIface
  | some c => .iface 0 (.int .i64 c)
theorem errW_none : errW none = .nilIface := rfl
theorem errW_some (c : Int) : errW (some c) = .iface 0 (.int .i64 c) := rfl

theorem info5 : (Tryd.prog.info? 5).map (fun i => (i.zero, i.size, i.bytes)) = some (some (.int .u8 0), 1, 1) := by kernel_rfl
-- the values' own types

end Go.Proofs.YtjopendipackpaaDoor.PClk
