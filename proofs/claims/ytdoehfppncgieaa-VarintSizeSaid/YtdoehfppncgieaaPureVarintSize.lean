/- The Go function VarintSize, called with any two numbers, returns true: a number has one byte for each seven bits. No condition. -/
import Derived.Test.YtdoehfppncgieaaPAllx5
import Derived.Test.YtdoehfppncgieaaVars2
namespace Go.Proofs.Ytdoehfppncgieaa.Pure
open Go.RowKit Go.Proofs.Ytdoehfppncgieaa.PAll Go.Proofs.YtdoehfppncgieaaW.PrintWords Go.Proofs.YtdoehfppncgieaaW.PrintLast Go.Proofs.YtdoehfppncgieaaW.PrintMore Go.Proofs.Ytdoehfppncgieaa.Base Go.Proofs.Ytdoehfppncgieaa.Vari Go.Proofs.Ytdoehfppncgieaa.Vars Go.Proofs.Ytdoehfppncgieaa.HandPut


theorem VarintSize : careenlaw01_VarintSize.Pure := by
  intro a0 b0 ha hb
  refine ⟨60, ?_⟩
  obtain ⟨p0, p1⟩ := pickN_lt (c := a0) (n := 35184372088832) (by decide)
  obtain ⟨q0, q1⟩ := pickN_lt (c := b0) (n := 128) (by decide)
  unfold careenlaw01_VarintSize.f
  rw [awake_eq 60 (by decide), Option.bind_some, pick_eq a0 _ ha (by decide), Option.bind_some]
  obtain ⟨a, ea⟩ := Int.eq_ofNat_of_zero_le p0
  obtain ⟨r, er⟩ := Int.eq_ofNat_of_zero_le q0
  rw [ea] at p1 ⊢
  have e1 : wrap64 (1 + (a : Int)) = ((a + 1 : Nat) : Int) := by rw [wrap64_id (by omega) (by omega)]; omega
  rw [e1, put_ok (a + 1) (by omega), Option.bind_some, pick_eq b0 _ hb (by decide), Option.bind_some]
  rw [er] at q1 ⊢
  have e2 : wrap64 (wrap64 (128 * ((a + 1 : Nat) : Int)) + (r : Int)) = ((128 * (a + 1) + r : Nat) : Int) := by
    rw [wrap64_id (n := 128 * ((a + 1 : Nat) : Int)) (by omega) (by omega), wrap64_id (by omega) (by omega)]; omega
  have put0 : varint_Put.f 0 = some (num 0, 0) := put_ok 0 (by decide)
  rw [e2, put_ok (128 * (a + 1) + r) (by omega), Option.bind_some, put0, Option.bind_some]
  simp only [if_true]
  have ed : dg (128 * (a + 1) + r) = (r + 128) :: dg (a + 1) := by
    rw [dg_big (by omega), show (128 * (a + 1) + r) % 128 + 128 = r + 128 by omega, show (128 * (a + 1) + r) / 128 = a + 1 by omega]
  have z1 := num_size (a + 1)
  have z2 : (num (128 * (a + 1) + r)).size = (dg (a + 1)).length + 1 := by rw [num_size, ed]; rfl
  have z3 : (num 0).size = 1 := by rw [num_size, dg_small (by decide)]; rfl
  have zl : (dg (a + 1)).length ≤ 8 := dg_len 7 _ (by omega)
  have et : (num (128 * (a + 1) + r)).extract 1 (num (128 * (a + 1) + r)).size = num (a + 1) := bl_inj (by rw [bl_drop, bl_num, bl_num, ed]; rfl)
  rw [if_pos (by rw [z1, z2, wrap64_id (by omega) (by omega)]; omega), if_pos (by omega), if_pos (by rw [et]), if_pos (by omega), z1]
  congr 1
  by_cases h : a + 1 < 128
  · rw [dg_small h, decide_eq_true (by omega)]; rfl
  · have hl : (dg (a + 1)).length ≠ 1 := by
      have := shape_pos (dg_shape ((a + 1) / 128))
      rw [dg_big h, List.length_cons]; omega
    rw [decide_eq_false (by omega), show (((dg (a + 1)).length : Int) == 1) = false from beq_eq_false_iff_ne.2 (by omega)]; rfl
#print axioms VarintSize
end Go.Proofs.Ytdoehfppncgieaa.Pure
