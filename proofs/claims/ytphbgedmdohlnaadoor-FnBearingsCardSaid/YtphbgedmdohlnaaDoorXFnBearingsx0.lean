/- Contracts of the functions that the law FnBearings comes to: each is told as a plain function of its arguments, and the machine's call does what that function says; no condition. Written by programs (print.py, xprint.py); Lean checks it. -/
import Derived.Test.YtphbgedmdohlnaaDoorProg
import Derived.Below
import Derived.Deep.Draws
import Derived.Deep.AppendLies
import Derived.Maps.AppendAt
import Derived.OwnWalk
import Derived.Laws.BytesArg
import Derived.Laws.MakeOwn
import Derived.Laws.OwnMore
import Derived.Deep.OwnRows
import Derived.Tactics
import Derived.Lib.ConvBytes
import Derived.Laws.Slices
import Derived.WalkKit
import Derived.KernelRfl
import Derived.RowKit3
import Derived.Deep.LoopGhost
import Derived.Deep.QuietTactic
import Derived.BigQuiet
import Derived.WideLaws
import Derived.Deep.DeepCutAuto
import Derived.Deep.CutBlock
import Derived.Deep.RegionHeld3
import Derived.Laws.Rows
import Derived.Lib.AppendStr
import Derived.ArgAppend
import Derived.Laws.IdiomCopy
import Derived.OrdersHeld
import Derived.Laws.BitsLemmas
import Derived.RowKit
import Derived.Test.YtphbgedmdohlnaaDoorWWords
import Derived.Test.YtphbgedmdohlnaaDoorWLast
import Derived.Test.YtphbgedmdohlnaaDoorWTab
import Derived.Test.YtphbgedmdohlnaaDoorWFour
import Derived.Test.YtphbgedmdohlnaaDoorWQPut
import Derived.Test.YtphbgedmdohlnaaDoorWApart
import Derived.Test.YtphbgedmdohlnaaDoorWArr
import Derived.Test.YtphbgedmdohlnaaDoorWZeros
import Derived.Test.YtphbgedmdohlnaaDoorWFoot
import Derived.Test.YtphbgedmdohlnaaDoorWKept
import Derived.Test.YtphbgedmdohlnaaDoorWShare
import Derived.Test.YtphbgedmdohlnaaDoorWN
import Derived.Test.YtphbgedmdohlnaaDoorWFootNe
import Derived.Test.YtphbgedmdohlnaaDoorWAt
import Derived.Test.YtphbgedmdohlnaaDoorWEqStruct
import Derived.Test.YtphbgedmdohlnaaDoorWRepsOne
import Derived.Test.YtphbgedmdohlnaaDoorWInv
import Derived.Test.YtphbgedmdohlnaaDoorWInvWords
import Derived.Test.YtphbgedmdohlnaaDoorWGuard
import Derived.Test.YtphbgedmdohlnaaDoorWNEv
import Derived.Test.YtphbgedmdohlnaaDoorWMore
namespace Go.Proofs.YtphbgedmdohlnaaDoor.XFnBearings
open Go.RowKit Go.Proofs.YtphbgedmdohlnaaDoorW.PrintWords Go.Proofs.YtphbgedmdohlnaaDoorW.PrintLast Go.Proofs.YtphbgedmdohlnaaDoorW.PrintMore
attribute [local go_sem] max2_int min2_int max_two min_two max_three min_three max_four min_four   -- for this text's walks alone
set_option linter.unusedVariables false
set_option linter.unusedSimpArgs false



def errW : Option Int → Value
  | none => .nilIface
  | some c => .iface 0 (.int .i64 c)
theorem errW_none : errW none = .nilIface := rfl
theorem errW_some (c : Int) : errW (some c) = .iface 0 (.int .i64 c) := rfl

theorem info3 : (Tryd.prog.info? 3).map (fun i => (i.zero, i.size, i.bytes)) = some (some (.int .i64 0), 1, 8) := by kernel_rfl
-- the values' own types

end Go.Proofs.YtphbgedmdohlnaaDoor.XFnBearings
