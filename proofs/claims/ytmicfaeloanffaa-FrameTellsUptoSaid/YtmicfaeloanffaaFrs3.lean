/- Frames one behind the other, cut off anywhere: what is scanned. -/
import Derived.Test.YtmicfaeloanffaaFrs2
import Derived.Test.YtmicfaeloanffaaRaws
namespace Go.Proofs.Ytmicfaeloanffaa.Frs
open Go.RowKit Go.Proofs.YtmicfaeloanffaaW.PrintWords Go.Proofs.YtmicfaeloanffaaW.PrintLast Go.Proofs.YtmicfaeloanffaaW.PrintMore Go.Proofs.Ytmicfaeloanffaa.PAll Go.Proofs.Ytmicfaeloanffaa.Base Go.Proofs.Ytmicfaeloanffaa.Crc Go.Proofs.Ytmicfaeloanffaa.Sums Go.Proofs.Ytmicfaeloanffaa.Vari Go.Proofs.Ytmicfaeloanffaa.Vars Go.Proofs.Ytmicfaeloanffaa.HandPut
theorem scan_end (v : Int) (s : ByteArray) (out : List S23) (k : Nat) (i : Int) (h : ¬ i < (s.size : Int)) : frame_Scan.l0 (k + 1) v s out i = some (out, i, 0) := by
 rw [frame_Scan.l0, if_neg h]
end Go.Proofs.Ytmicfaeloanffaa.Frs
