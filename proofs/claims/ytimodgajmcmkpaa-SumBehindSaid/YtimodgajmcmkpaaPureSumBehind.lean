/- The Go function SumBehind, called with any three texts, returns true: a text's sum hangs on the sum of what stands ahead, and on what stands behind alone. No condition. -/
import Derived.Test.YtimodgajmcmkpaaPAllx2
import Derived.Test.YtimodgajmcmkpaaSums2
namespace Go.Proofs.Ytimodgajmcmkpaa.Pure
open Go.RowKit Go.Proofs.Ytimodgajmcmkpaa.PAll Go.Proofs.YtimodgajmcmkpaaW.PrintWords Go.Proofs.YtimodgajmcmkpaaW.PrintLast Go.Proofs.Ytimodgajmcmkpaa.Base Go.Proofs.Ytimodgajmcmkpaa.Crc Go.Proofs.Ytimodgajmcmkpaa.Sums

theorem SumBehind : careenlaw05_SumBehind.Pure := by
  intro a0 a1 a2 _ _ _
  refine ⟨100001, ?_⟩
  unfold careenlaw05_SumBehind.f
  rw [awake_tells _ (by decide), Option.bind_some, if_pos (by rw [mn_eq]; omega), if_pos (by rw [mn_eq]; omega), if_pos (by rw [mn_eq]; omega), if_pos (by rw [mn_eq]; omega), if_pos (by rw [mn_eq]; omega), if_pos (by rw [mn_eq]; omega)]
  have za := head_size a0 1000 (by decide)
  have zb := head_size a1 1000 (by decide)
  have zc := head_size a2 1000 (by decide)
  generalize a0.extract 0 (mn (a0.size : Int) 1000).toNat = A at *
  generalize a1.extract 0 (mn (a1.size : Int) 1000).toNat = B at *
  generalize a2.extract 0 (mn (a2.size : Int) 1000).toNat = C at *
  have za : A.size ≤ 1000 := za
  have zb : B.size ≤ 1000 := zb
  have zc : C.size ≤ 1000 := zc
  have hof : ∀ s : ByteArray, s.size ≤ 3000 → sum_Of.f 100001 s = some ((sum s.toList : Nat) : Int) := fun s h => of_tells s (by omega) _ (by omega)
  have la := sum_lt A.toList
  have lb := sum_lt B.toList
  obtain ⟨x, hx, ex⟩ := bytes_tells ((sum A.toList : Nat) : Int) (by omega) (by omega) 100001 (by decide)
  obtain ⟨y, hy, ey⟩ := bytes_tells ((sum B.toList : Nat) : Int) (by omega) (by omega) 100001 (by decide)
  rw [Int.toNat_natCast] at ex ey
  have zx : x.size = 4 := by rw [tl_size, ex]; rfl
  have zy : y.size = 4 := by rw [tl_size, ey]; rfl
  have s2 : ∀ a b : ByteArray, (a ++ b).size = a.size + b.size := fun a b => ByteArray.size_append
  rw [hof A (by omega), Option.bind_some, hx, Option.bind_some, if_pos (by omega), hof B (by omega), Option.bind_some, hy, Option.bind_some, if_pos (by omega), if_pos rfl,
    hof (A ++ x) (by rw [s2]; omega), Option.bind_some, hof (B ++ y) (by rw [s2]; omega), Option.bind_some]
  have e1 : sum (A ++ x).toList = sum (B ++ y).toList := by rw [tl_append, tl_append, ex, ey, sum_iff, run_sum, run_sum]
  have e2 : sum (A ++ x ++ C).toList = sum (B ++ y ++ C).toList := by rw [tl_append (A ++ x), tl_append (B ++ y), sum_behind]; exact e1
  have e3 : sum (A ++ C).toList = sum (B ++ C).toList ↔ sum A.toList = sum B.toList := by rw [tl_append, tl_append, sum_behind]
  rw [if_pos (by rw [e1]), if_pos (by rw [s2]; omega), hof (A ++ x ++ C) (by rw [s2, s2]; omega), Option.bind_some, if_pos (by rw [s2]; omega), hof (B ++ y ++ C) (by rw [s2, s2]; omega), Option.bind_some, if_pos (by rw [e2]),
    Option.bind_some, Option.bind_some, if_pos (by omega), hof (A ++ C) (by rw [s2]; omega), Option.bind_some, if_pos (by omega), hof (B ++ C) (by rw [s2]; omega), Option.bind_some]
  congr 1
  rw [Bool.eq_iff_iff] at *
  simp only [beq_iff_eq, iff_true]
  rw [Bool.eq_iff_iff]
  simp only [beq_iff_eq, Int.natCast_inj]
  exact e3.symm

end Go.Proofs.Ytimodgajmcmkpaa.Pure
