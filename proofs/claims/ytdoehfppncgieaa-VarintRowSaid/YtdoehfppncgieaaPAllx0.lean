-- Written by a program of this session (wip/xpatch.py, wip/xprint.sh) for seat Ytdoehfppncgieaa.
import Derived.Test.YtdoehfppncgieaaProg
import Derived.Below
import Derived.Deep.Draws
import Derived.Deep.AppendLies
import Derived.Maps.AppendAt
import Derived.OwnWalk
import Derived.Laws.BytesArg
import Derived.Laws.MakeOwn
import Derived.Laws.OwnMore
import Derived.Deep.OwnRows
import Derived.Tactics
import Derived.Lib.ConvBytes
import Derived.Laws.Slices
import Derived.WalkKit
import Derived.KernelRfl
import Derived.RowKit3
import Derived.Deep.LoopGhost
import Derived.Deep.QuietTactic
import Derived.BigQuiet
import Derived.WideLaws
import Derived.Deep.DeepCutAuto
import Derived.Deep.CutBlock
import Derived.Deep.RegionHeld3
import Derived.Laws.Rows
import Derived.Lib.AppendStr
import Derived.ArgAppend
import Derived.Laws.IdiomCopy
import Derived.OrdersHeld
import Derived.Laws.BitsLemmas
import Derived.RowKit
import Derived.Test.YtdoehfppncgieaaHandPut
import Derived.Test.YtdoehfppncgieaaWWords
import Derived.Test.YtdoehfppncgieaaWLast
import Derived.Test.YtdoehfppncgieaaWTab
import Derived.Test.YtdoehfppncgieaaWFour
import Derived.Test.YtdoehfppncgieaaWQPut
import Derived.Test.YtdoehfppncgieaaWApart
import Derived.Test.YtdoehfppncgieaaWArr
import Derived.Test.YtdoehfppncgieaaWZeros
import Derived.Test.YtdoehfppncgieaaWFoot
import Derived.Test.YtdoehfppncgieaaWKept
import Derived.Test.YtdoehfppncgieaaWShare
import Derived.Test.YtdoehfppncgieaaWN
import Derived.Test.YtdoehfppncgieaaWFootNe
import Derived.Test.YtdoehfppncgieaaWAt
import Derived.Test.YtdoehfppncgieaaWEqStruct
import Derived.Test.YtdoehfppncgieaaWRepsOne
import Derived.Test.YtdoehfppncgieaaWInv
import Derived.Test.YtdoehfppncgieaaWInvWords
import Derived.Test.YtdoehfppncgieaaWGuard
import Derived.Test.YtdoehfppncgieaaWNEv
import Derived.Test.YtdoehfppncgieaaWMore
namespace Go.Proofs.Ytdoehfppncgieaa.PAll
open Go.RowKit Go.Proofs.YtdoehfppncgieaaW.PrintWords Go.Proofs.YtdoehfppncgieaaW.PrintLast Go.Proofs.YtdoehfppncgieaaW.PrintMore
attribute [local go_sem] max2_int min2_int max_two min_two max_three min_three max_four min_four   -- for this text's walks alone
set_option linter.unusedVariables false
set_option linter.unusedSimpArgs false



def errW : Option Int → Value
  | none => .nilIface
  | some c => .iface 0 (.int .i64 c)
theorem errW_none : errW none = .nilIface := rfl
theorem errW_some (c : Int) : errW (some c) = .iface 0 (.int .i64 c) := rfl

theorem info3 : (Try.prog.info? 3).map (fun i => (i.zero, i.size, i.bytes)) = some (some (.int .i64 0), 1, 8) := by kernel_rfl
theorem info5 : (Try.prog.info? 5).map (fun i => (i.zero, i.size, i.bytes)) = some (some (.int .u8 0), 1, 1) := by kernel_rfl
theorem info9 : (Try.prog.info? 9).map (fun i => (i.zero, i.size, i.bytes)) = some (some (.string ⟨#[]⟩), 1, 16) := by kernel_rfl
-- the values' own types

end Go.Proofs.Ytdoehfppncgieaa.PAll
