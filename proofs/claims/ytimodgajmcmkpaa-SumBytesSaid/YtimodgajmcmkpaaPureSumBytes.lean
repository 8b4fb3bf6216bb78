/- The Go function SumBytes, called with any two numbers, returns true: unlike numbers have unlike bytes, four of them. No condition. -/
import Derived.Test.YtimodgajmcmkpaaPAllx3
import Derived.Test.YtimodgajmcmkpaaSums2
namespace Go.Proofs.Ytimodgajmcmkpaa.Pure
open Go.RowKit Go.Proofs.Ytimodgajmcmkpaa.PAll Go.Proofs.YtimodgajmcmkpaaW.PrintWords Go.Proofs.YtimodgajmcmkpaaW.PrintLast Go.Proofs.Ytimodgajmcmkpaa.Base Go.Proofs.Ytimodgajmcmkpaa.Crc Go.Proofs.Ytimodgajmcmkpaa.Sums

theorem bytes4_inj {x y : Nat} (hx : x < 4294967296) (hy : y < 4294967296) (h : bytes4 x = bytes4 y) : x = y := by
  exact (sum_bytes x y hx hy [] [] (Eq.refl (sum []))).1 (congrArg (fun l => sum ([] ++ l)) h)
theorem word_wrap (p0 p1 p2 p3 : Nat) (h0 : p0 < 256) (h1 : p1 < 256) (h2 : p2 < 256) (h3 : p3 < 256) :
    wrap64 ((wrap64 ((wrap64 ((wrap64 (p0 : Int)) + (wrap64 ((wrap64 (p1 : Int)) * 256)))) + (wrap64 ((wrap64 (p2 : Int)) * 65536)))) + (wrap64 ((wrap64 (p3 : Int)) * 16777216))) = ((p0 + p1 * 256 + p2 * 65536 + p3 * 16777216 : Nat) : Int) := by
  rw [wrap64_id (n := (p0 : Int)) (by omega) (by omega), wrap64_id (n := (p1 : Int)) (by omega) (by omega), wrap64_id (n := (p2 : Int)) (by omega) (by omega), wrap64_id (n := (p3 : Int)) (by omega) (by omega)]
  rw [wrap64_id (n := (p1 : Int) * 256) (by omega) (by omega), wrap64_id (n := (p2 : Int) * 65536) (by omega) (by omega), wrap64_id (n := (p3 : Int) * 16777216) (by omega) (by omega)]
  rw [wrap64_id (n := (p0 : Int) + (p1 : Int) * 256) (by omega) (by omega)]
  rw [wrap64_id (n := (p0 : Int) + (p1 : Int) * 256 + (p2 : Int) * 65536) (by omega) (by omega)]
  rw [wrap64_id (by omega) (by omega)]
  omega
theorem SumBytes : careenlaw05_SumBytes.Pure := by
  intro a0 a1 h0 h1
  refine ⟨100001, ?_⟩
  unfold careenlaw05_SumBytes.f
  rw [awake_tells _ (by decide), Option.bind_some, pick_eq a0 _ h0 (by decide), Option.bind_some, pick_eq a1 _ h1 (by decide), Option.bind_some]
  obtain ⟨x0, x1⟩ := pickN_lt (c := a0) (n := 4294967296) (by decide)
  obtain ⟨y0, y1⟩ := pickN_lt (c := a1) (n := 4294967296) (by decide)
  generalize pickN a0 4294967296 = X at *
  generalize pickN a1 4294967296 = Y at *
  obtain ⟨x, hx, ex⟩ := bytes_tells X x0 (by omega) 100001 (by decide)
  obtain ⟨y, hy, ey⟩ := bytes_tells Y y0 (by omega) 100001 (by decide)
  have zx : x.size = 4 := by rw [tl_size, ex]; rfl
  rw [hx, Option.bind_some, if_pos rfl, if_pos (by omega), if_pos (by omega), if_pos (by omega), if_pos (by omega), if_pos (by omega)]
  obtain ⟨m, rfl⟩ := Int.eq_ofNat_of_zero_le x0
  obtain ⟨n, rfl⟩ := Int.eq_ofNat_of_zero_le y0
  rw [Int.toNat_natCast] at ex ey
  have b : ∀ j : Nat, j < 4 → bt x (j : Int) = ((m / 256 ^ j % 256 : Nat) : Int) := by
    intro j hj
    rw [bt_getD, ex]
    rcases (by omega : j = 0 ∨ j = 1 ∨ j = 2 ∨ j = 3) with rfl | rfl | rfl | rfl <;> simp [bytes4, byte]
  have b0 : bt x 0 = ((m / 256 ^ 0 % 256 : Nat) : Int) := b 0 (by decide)
  have b1 : bt x 1 = ((m / 256 ^ 1 % 256 : Nat) : Int) := b 1 (by decide)
  have b2 : bt x 2 = ((m / 256 ^ 2 % 256 : Nat) : Int) := b 2 (by decide)
  have b3 : bt x 3 = ((m / 256 ^ 3 % 256 : Nat) : Int) := b 3 (by decide)
  simp only [Nat.reducePow, Nat.div_one] at b0 b1 b2 b3
  rw [b0, b1, b2, b3, word_wrap _ _ _ _ (by omega) (by omega) (by omega) (by omega), if_pos (by omega), hy, Option.bind_some]
  congr 1
  rw [Bool.eq_iff_iff]
  simp only [iff_true]
  rw [beq_iff_eq, Bool.eq_iff_iff]
  simp only [beq_iff_eq, Int.natCast_inj]
  rw [ex, ey]
  exact ⟨fun h => bytes4_inj (by omega) (by omega) h, fun h => by rw [h]⟩

end Go.Proofs.Ytimodgajmcmkpaa.Pure
