-- Written by a program of this session (wip/xpatch.py, wip/xprint.sh) for seat Ytimodgajmcmkpaa.
import Derived.Test.YtimodgajmcmkpaaProg
import Derived.Below
import Derived.Deep.Draws
import Derived.Deep.AppendLies
import Derived.Maps.AppendAt
import Derived.OwnWalk
import Derived.Laws.BytesArg
import Derived.Laws.MakeOwn
import Derived.Laws.OwnMore
import Derived.Deep.OwnRows
import Derived.Tactics
import Derived.Lib.ConvBytes
import Derived.Laws.Slices
import Derived.WalkKit
import Derived.KernelRfl
import Derived.RowKit3
import Derived.Deep.LoopGhost
import Derived.Deep.QuietTactic
import Derived.BigQuiet
import Derived.WideLaws
import Derived.Deep.DeepCutAuto
import Derived.Deep.CutBlock
import Derived.Deep.RegionHeld3
import Derived.Laws.Rows
import Derived.Lib.AppendStr
import Derived.ArgAppend
import Derived.Laws.IdiomCopy
import Derived.OrdersHeld
import Derived.Laws.BitsLemmas
import Derived.RowKit
import Derived.Test.YtimodgajmcmkpaaHand
import Derived.Test.YtimodgajmcmkpaaWWords
import Derived.Test.YtimodgajmcmkpaaWLast
import Derived.Test.YtimodgajmcmkpaaWTab
import Derived.Test.YtimodgajmcmkpaaWFour
import Derived.Test.YtimodgajmcmkpaaWQPut
import Derived.Test.YtimodgajmcmkpaaWApart
import Derived.Test.YtimodgajmcmkpaaWArr
import Derived.Test.YtimodgajmcmkpaaWZeros
import Derived.Test.YtimodgajmcmkpaaWFoot
import Derived.Test.YtimodgajmcmkpaaWKept
import Derived.Test.YtimodgajmcmkpaaWShare
import Derived.Test.YtimodgajmcmkpaaWN
import Derived.Test.YtimodgajmcmkpaaWFootNe
import Derived.Test.YtimodgajmcmkpaaWAt
import Derived.Test.YtimodgajmcmkpaaWEqStruct
import Derived.Test.YtimodgajmcmkpaaWRepsOne
import Derived.Test.YtimodgajmcmkpaaWInv
import Derived.Test.YtimodgajmcmkpaaWInvWords
import Derived.Test.YtimodgajmcmkpaaWGuard
import Derived.Test.YtimodgajmcmkpaaWNEv
import Derived.Test.YtimodgajmcmkpaaWMore
namespace Go.Proofs.Ytimodgajmcmkpaa.PAll
attribute [local go_sem high] Go.Proofs.Ytimodgajmcmkpaa.Hand.unary_xor_u32
open Go.RowKit Go.Proofs.YtimodgajmcmkpaaW.PrintWords Go.Proofs.YtimodgajmcmkpaaW.PrintLast Go.Proofs.YtimodgajmcmkpaaW.PrintMore
attribute [local go_sem] max2_int min2_int max_two min_two max_three min_three max_four min_four   -- for this text's walks alone
set_option linter.unusedVariables false
set_option linter.unusedSimpArgs false



def errW : Option Int → Value
  | none => .nilIface
  | some c => .iface 0 (.int .i64 c)
theorem errW_none : errW none = .nilIface := rfl
theorem errW_some (c : Int) : errW (some c) = .iface 0 (.int .i64 c) := rfl

theorem info5 : (Try.prog.info? 5).map (fun i => (i.zero, i.size, i.bytes)) = some (some (.int .u8 0), 1, 1) := by kernel_rfl
-- the values' own types

end Go.Proofs.Ytimodgajmcmkpaa.PAll
