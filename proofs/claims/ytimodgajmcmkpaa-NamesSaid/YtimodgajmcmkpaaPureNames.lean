/- The Go function Names, called in any memory, returns true: all constants have their numbers. No condition. -/
import Derived.Test.YtimodgajmcmkpaaPNamesx1
namespace Go.Proofs.Ytimodgajmcmkpaa.Pure
open Go.RowKit Go.Proofs.Ytimodgajmcmkpaa.PNames Go.Proofs.YtimodgajmcmkpaaW.PrintWords Go.Proofs.YtimodgajmcmkpaaW.PrintLast

theorem Names : careentop_Names.Pure := rfl

end Go.Proofs.Ytimodgajmcmkpaa.Pure
