-- Written by a program (the kit's print.py, called over functions of which some are replaced), then cut: Lean checks it.
import Derived.Test.YtdfgehjhecmojaaProg
import Derived.Below
import Derived.Deep.Draws
import Derived.Deep.AppendLies
import Derived.Maps.AppendAt
import Derived.OwnWalk
import Derived.Laws.BytesArg
import Derived.Laws.MakeOwn
import Derived.Laws.OwnMore
import Derived.Deep.OwnRows
import Derived.Tactics
import Derived.Lib.ConvBytes
import Derived.Laws.Slices
import Derived.WalkKit
import Derived.KernelRfl
import Derived.RowKit3
import Derived.Deep.LoopGhost
import Derived.Deep.QuietTactic
import Derived.BigQuiet
import Derived.WideLaws
import Derived.Deep.DeepCutAuto
import Derived.Deep.CutBlock
import Derived.Deep.RegionHeld3
import Derived.Laws.Rows
import Derived.Lib.AppendStr
import Derived.ArgAppend
import Derived.Laws.IdiomCopy
import Derived.OrdersHeld
import Derived.Laws.BitsLemmas
import Derived.RowKit
import Derived.Test.YtdfgehjhecmojaaWWords
import Derived.Test.YtdfgehjhecmojaaWLast
import Derived.Test.YtdfgehjhecmojaaWTab
import Derived.Test.YtdfgehjhecmojaaWFour
import Derived.Test.YtdfgehjhecmojaaWQPut
import Derived.Test.YtdfgehjhecmojaaWApart
import Derived.Test.YtdfgehjhecmojaaWArr
import Derived.Test.YtdfgehjhecmojaaWZeros
import Derived.Test.YtdfgehjhecmojaaWFoot
import Derived.Test.YtdfgehjhecmojaaWKept
import Derived.Test.YtdfgehjhecmojaaWShare
import Derived.Test.YtdfgehjhecmojaaWN
import Derived.Test.YtdfgehjhecmojaaWFootNe
import Derived.Test.YtdfgehjhecmojaaWAt
import Derived.Test.YtdfgehjhecmojaaWEqStruct
import Derived.Test.YtdfgehjhecmojaaWRepsOne
import Derived.Test.YtdfgehjhecmojaaWInv
import Derived.Test.YtdfgehjhecmojaaWInvWords
import Derived.Test.YtdfgehjhecmojaaWGuard
import Derived.Test.YtdfgehjhecmojaaWNEv
import Derived.Test.YtdfgehjhecmojaaWMore
namespace Go.Proofs.Ytdfgehjhecmojaa.PS
open Go.RowKit Go.Proofs.YtdfgehjhecmojaaW.PrintWords Go.Proofs.YtdfgehjhecmojaaW.PrintLast Go.Proofs.YtdfgehjhecmojaaW.PrintMore
attribute [local go_sem] max2_int min2_int max_two min_two max_three min_three max_four min_four   -- for this text's walks alone
set_option linter.unusedVariables false
set_option linter.unusedSimpArgs false



def errW : Option Int → Value
  | none => .nilIface
  | some c => .iface 0 (.int .i64 c)
theorem errW_none : errW none = .nilIface := rfl
theorem errW_some (c : Int) : errW (some c) = .iface 0 (.int .i64 c) := rfl

theorem info5 : (Try.prog.info? 5).map (fun i => (i.zero, i.size, i.bytes)) = some (some (.int .u8 0), 1, 1) := by kernel_rfl
-- the values' own types

end Go.Proofs.Ytdfgehjhecmojaa.PS
