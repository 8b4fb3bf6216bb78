/- The Go function SumTells, called with any text and number, returns true: sums, and their bytes, are as the reference says. No condition. -/
import Derived.Test.YtimodgajmcmkpaaPAllx2
import Derived.Test.YtimodgajmcmkpaaSums2
namespace Go.Proofs.Ytimodgajmcmkpaa.Pure
open Go.RowKit Go.Proofs.Ytimodgajmcmkpaa.PAll Go.Proofs.YtimodgajmcmkpaaW.PrintWords Go.Proofs.YtimodgajmcmkpaaW.PrintLast Go.Proofs.Ytimodgajmcmkpaa.Base Go.Proofs.Ytimodgajmcmkpaa.Crc Go.Proofs.Ytimodgajmcmkpaa.Sums

theorem tells_j (s : ByteArray) (n : Int) (hs : s.size ≤ 3000) (hn : (Lit.int .i64 n).wf = true) : careenlaw05_SumTells.j0 100001 s n true = some true := by
  rw [careenlaw05_SumTells.j0, if_pos rfl, of_tells s (by omega) 100000 (by omega), Option.bind_some, ref_of_tells s (by omega) 100000 (by omega), Option.bind_some, if_pos rfl]
  obtain ⟨b, h1, h2⟩ := bytes_same n 100000 (by omega)
  rw [h1, Option.bind_some, h2, Option.bind_some, if_pos rfl, pick_eq n _ hn (by decide), Option.bind_some]
  obtain ⟨c, h3, h4⟩ := bytes_same (pickN n 4294967296) 100000 (by omega)
  rw [h3, Option.bind_some, Option.bind_some, h4, Option.bind_some]
  simp

theorem SumTells : careenlaw05_SumTells.Pure := by
  intro a0 a1 h0 h1
  refine ⟨100001, ?_⟩
  unfold careenlaw05_SumTells.f
  rw [awake_tells _ (by decide), Option.bind_some]
  by_cases h : (a0.size : Int) > 3000
  · rw [if_pos h, if_pos (by decide), if_pos (by omega)]
    exact tells_j _ a1 (by rw [ByteArray.size_extract]; omega) h1
  · rw [if_neg h]
    exact tells_j _ a1 (by omega) h1

end Go.Proofs.Ytimodgajmcmkpaa.Pure
