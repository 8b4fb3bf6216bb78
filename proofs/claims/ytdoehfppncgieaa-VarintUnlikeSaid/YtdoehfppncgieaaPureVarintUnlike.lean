/- The Go function VarintUnlike, called with any two numbers, returns true: unlike numbers have unlike bytes, none of which begin with the other one's; greater ones have no fewer. No condition. -/
import Derived.Test.YtdoehfppncgieaaPAllx4
import Derived.Test.YtdoehfppncgieaaVars2
namespace Go.Proofs.Ytdoehfppncgieaa.Pure
open Go.RowKit Go.Proofs.Ytdoehfppncgieaa.PAll Go.Proofs.YtdoehfppncgieaaW.PrintWords Go.Proofs.YtdoehfppncgieaaW.PrintLast Go.Proofs.YtdoehfppncgieaaW.PrintMore Go.Proofs.Ytdoehfppncgieaa.Base Go.Proofs.Ytdoehfppncgieaa.Vari Go.Proofs.Ytdoehfppncgieaa.Vars Go.Proofs.Ytdoehfppncgieaa.HandPut


theorem VarintUnlike : careenlaw01_VarintUnlike.Pure := by
  intro a0 b0 ha hb
  refine ⟨60, ?_⟩
  obtain ⟨p0, p1⟩ := pickN_lt (c := a0) (n := 9007199254740993) (by decide)
  obtain ⟨q0, q1⟩ := pickN_lt (c := b0) (n := 9007199254740993) (by decide)
  unfold careenlaw01_VarintUnlike.f
  rw [awake_eq 60 (by decide), Option.bind_some, pick_eq a0 _ ha (by decide), pick_eq b0 _ hb (by decide)]
  obtain ⟨a, ea⟩ := Int.eq_ofNat_of_zero_le p0
  obtain ⟨b, eb⟩ := Int.eq_ofNat_of_zero_le q0
  rw [ea] at p1 ⊢
  rw [eb] at q1 ⊢
  simp only [Option.bind_some]
  have ex : mn (a : Int) (b : Int) = ((min a b : Nat) : Int) := by rw [mn_eq]; omega
  have ey : mx (a : Int) (b : Int) = ((max a b : Nat) : Int) := by rw [mx_eq]; omega
  have hxy : min a b ≤ max a b := by omega
  have hy : max a b ≤ 9007199254740992 := by omega
  rw [ex, ey]
  generalize min a b = x at *
  generalize max a b = y at *
  rw [put_ok x (by omega), Option.bind_some, put_ok y hy, Option.bind_some]
  simp only [if_true]
  have hl := dg_len_mono x y hxy
  by_cases h : x = y
  · subst h
    rw [if_pos (by simp), if_pos (by omega), if_pos rfl]
  · have hne : ¬ (num x).toList = (num y).toList := fun e => h (dg_inj (by rw [← bl_num x, ← bl_num y, tl_inj e]))
    have hz : (num x).size ≤ (num y).size := by rw [num_size, num_size]; exact hl
    have hi : ¬ (x : Int) = (y : Int) := by omega
    rw [if_pos (by rw [beq_eq_false_iff_ne.2 hne, beq_eq_false_iff_ne.2 hi]; rfl), if_pos (by omega), if_neg hi, if_pos (by rw [mn_eq]; omega), if_pos (by rw [mn_eq]; omega)]
    have em : (mn ((num x).size : Int) ((num y).size : Int)).toNat = (num x).size := by rw [mn_eq]; omega
    rw [em]
    congr 1
    rw [bne_iff_ne]
    intro e
    have e2 := tl_inj e
    have e3 : bl ((num y).extract 0 (num x).size) = bl (num x) := by rw [e2]
    rw [bl_take, bl_num, bl_num, num_size] at e3
    exact h (dg_prefix x y (by omega) hy e3)
#print axioms VarintUnlike
end Go.Proofs.Ytdoehfppncgieaa.Pure
