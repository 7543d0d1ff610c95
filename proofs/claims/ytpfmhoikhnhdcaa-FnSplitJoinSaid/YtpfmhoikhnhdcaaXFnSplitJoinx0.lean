/- Contracts of the functions that the law FnSplitJoin comes to: each is told as a plain function of its arguments, and the machine's call does what that function says; no condition. Written by programs (print.py, xprint.py); Lean checks it. -/
import Derived.Test.YtpfmhoikhnhdcaaProg
import Derived.Below
import Derived.Deep.Draws
import Derived.Deep.AppendLies
import Derived.Maps.AppendAt
import Derived.OwnWalk
import Derived.Laws.BytesArg
import Derived.Laws.MakeOwn
import Derived.Laws.OwnMore
import Derived.Deep.OwnRows
import Derived.Tactics
import Derived.Lib.ConvBytes
import Derived.Laws.Slices
import Derived.WalkKit
import Derived.KernelRfl
import Derived.RowKit3
import Derived.Deep.LoopGhost
import Derived.Deep.QuietTactic
import Derived.BigQuiet
import Derived.WideLaws
import Derived.Deep.DeepCutAuto
import Derived.Deep.CutBlock
import Derived.Deep.RegionHeld3
import Derived.Laws.Rows
import Derived.Lib.AppendStr
import Derived.ArgAppend
import Derived.Laws.IdiomCopy
import Derived.OrdersHeld
import Derived.Laws.BitsLemmas
import Derived.RowKit
import Derived.Lib.Bytealg
import Derived.Lib.Slices
import Derived.Lib.Strings
import Derived.Lib.Walk
import Derived.Test.YtpfmhoikhnhdcaaShelf
import Derived.Test.YtpfmhoikhnhdcaaWWords
import Derived.Test.YtpfmhoikhnhdcaaWLast
import Derived.Test.YtpfmhoikhnhdcaaWTab
import Derived.Test.YtpfmhoikhnhdcaaWFour
import Derived.Test.YtpfmhoikhnhdcaaWQPut
import Derived.Test.YtpfmhoikhnhdcaaWApart
import Derived.Test.YtpfmhoikhnhdcaaWArr
import Derived.Test.YtpfmhoikhnhdcaaWZeros
import Derived.Test.YtpfmhoikhnhdcaaWFoot
import Derived.Test.YtpfmhoikhnhdcaaWKept
import Derived.Test.YtpfmhoikhnhdcaaWShare
import Derived.Test.YtpfmhoikhnhdcaaWN
import Derived.Test.YtpfmhoikhnhdcaaWFootNe
import Derived.Test.YtpfmhoikhnhdcaaWAt
import Derived.Test.YtpfmhoikhnhdcaaWEqStruct
import Derived.Test.YtpfmhoikhnhdcaaWRepsOne
import Derived.Test.YtpfmhoikhnhdcaaWInv
import Derived.Test.YtpfmhoikhnhdcaaWInvWords
import Derived.Test.YtpfmhoikhnhdcaaWGuard
import Derived.Test.YtpfmhoikhnhdcaaWNEv
import Derived.Test.YtpfmhoikhnhdcaaWMore
namespace Go.Proofs.Ytpfmhoikhnhdcaa.XFnSplitJoin
open Go.RowKit Go.Proofs.YtpfmhoikhnhdcaaW.PrintWords Go.Proofs.YtpfmhoikhnhdcaaW.PrintLast Go.Proofs.YtpfmhoikhnhdcaaW.PrintMore
attribute [local go_sem] max2_int min2_int max_two min_two max_three min_three max_four min_four   -- for this text's walks alone
set_option linter.unusedVariables false
set_option linter.unusedSimpArgs false



def errW : Option Int → Value
  | none => .nilIface
  | some c => .iface 0 (.int .i64 c)
theorem errW_none : errW none = .nilIface := rfl
theorem errW_some (c : Int) : errW (some c) = .iface 0 (.int .i64 c) := rfl

theorem info5 : (Try.prog.info? 5).map (fun i => (i.zero, i.size, i.bytes)) = some (some (.int .u8 0), 1, 1) := by kernel_rfl
theorem info9 : (Try.prog.info? 9).map (fun i => (i.zero, i.size, i.bytes)) = some (some (.string ⟨#[]⟩), 1, 16) := by kernel_rfl
-- the values' own types

end Go.Proofs.Ytpfmhoikhnhdcaa.XFnSplitJoin
