/- The Go function SumOne, called with any text and two numbers, returns true: of texts that are unlike in four bytes ahead, or behind, no two have one sum. No condition. -/
import Derived.Test.YtimodgajmcmkpaaPAllx4
import Derived.Test.YtimodgajmcmkpaaSums2
namespace Go.Proofs.Ytimodgajmcmkpaa.Pure
open Go.RowKit Go.Proofs.Ytimodgajmcmkpaa.PAll Go.Proofs.YtimodgajmcmkpaaW.PrintWords Go.Proofs.YtimodgajmcmkpaaW.PrintLast Go.Proofs.Ytimodgajmcmkpaa.Base Go.Proofs.Ytimodgajmcmkpaa.Crc Go.Proofs.Ytimodgajmcmkpaa.Sums

theorem SumOne : careenlaw05_SumOne.Pure := by
  intro a0 a1 a2 _ h1 h2
  refine ⟨100001, ?_⟩
  unfold careenlaw05_SumOne.f
  rw [awake_tells _ (by decide), Option.bind_some, if_pos (by rw [mn_eq]; omega), if_pos (by rw [mn_eq]; omega), pick_eq a1 _ h1 (by decide), Option.bind_some, pick_eq a2 _ h2 (by decide), Option.bind_some]
  have za := head_size a0 1000 (by decide)
  generalize a0.extract 0 (mn (a0.size : Int) 1000).toNat = A at *
  have za : A.size ≤ 1000 := za
  obtain ⟨x0, x1⟩ := pickN_lt (c := a1) (n := 4294967296) (by decide)
  obtain ⟨y0, y1⟩ := pickN_lt (c := a2) (n := 4294967296) (by decide)
  generalize pickN a1 4294967296 = X at *
  generalize pickN a2 4294967296 = Y at *
  obtain ⟨x, hx, ex⟩ := bytes_tells X x0 (by omega) 100001 (by decide)
  obtain ⟨y, hy, ey⟩ := bytes_tells Y y0 (by omega) 100001 (by decide)
  have zx : x.size = 4 := by rw [tl_size, ex]; rfl
  have zy : y.size = 4 := by rw [tl_size, ey]; rfl
  obtain ⟨m, rfl⟩ := Int.eq_ofNat_of_zero_le x0
  obtain ⟨n, rfl⟩ := Int.eq_ofNat_of_zero_le y0
  rw [Int.toNat_natCast] at ex ey
  have hof : ∀ s : ByteArray, s.size ≤ 3000 → sum_Of.f 100001 s = some ((sum s.toList : Nat) : Int) := fun s h => of_tells s (by omega) _ (by omega)
  have s2 : ∀ a b : ByteArray, (a ++ b).size = a.size + b.size := fun a b => ByteArray.size_append
  have q : ∀ a b : Nat, (a = b ↔ m = n) → ((((a : Int) == (b : Int)) == ((m : Int) == (n : Int))) = true) := by
    intro a b h
    rw [beq_iff_eq, Bool.eq_iff_iff]
    simp only [beq_iff_eq, Int.natCast_inj]
    exact h
  have k1 : sum x.toList = sum y.toList ↔ m = n := by
    rw [ex, ey]; exact sum_bytes m n (by omega) (by omega) [] [] rfl
  have k2 : sum (x ++ A).toList = sum (y ++ A).toList ↔ m = n := by rw [tl_append, tl_append, sum_behind]; exact k1
  have k3 : sum (A ++ x).toList = sum (A ++ y).toList ↔ m = n := by
    rw [tl_append, tl_append, ex, ey]; exact sum_bytes m n (by omega) (by omega) _ _ rfl
  rw [hx, Option.bind_some, hy, Option.bind_some, if_pos rfl, hof x (by omega), Option.bind_some, hof y (by omega), Option.bind_some, if_pos (q _ _ k1),
    if_pos (by omega), hof (x ++ A) (by rw [s2]; omega), Option.bind_some, if_pos (by omega), hof (y ++ A) (by rw [s2]; omega), Option.bind_some, if_pos (q _ _ k2),
    if_pos (by omega), hof (A ++ x) (by rw [s2]; omega), Option.bind_some, if_pos (by omega), hof (A ++ y) (by rw [s2]; omega), Option.bind_some, if_pos (q _ _ k3),
    hof A (by omega), Option.bind_some, if_pos (by omega), Option.bind_some]
  have := sum_lt A.toList
  rw [decide_eq_true (by omega)]

end Go.Proofs.Ytimodgajmcmkpaa.Pure
