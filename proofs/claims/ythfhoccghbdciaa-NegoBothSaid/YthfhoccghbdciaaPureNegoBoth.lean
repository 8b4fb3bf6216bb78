/- The Go function NegoBoth, called with any six numbers, returns true: either side gets the same answer, within both offers. No condition. -/
import Derived.Test.YthfhoccghbdciaaPAllx6
import Derived.Test.YthfhoccghbdciaaNegos
namespace Go.Proofs.Ythfhoccghbdciaa.Pure
open Go.RowKit Go.Proofs.Ythfhoccghbdciaa.PAll Go.Proofs.YthfhoccghbdciaaW.PrintWords Go.Proofs.YthfhoccghbdciaaW.PrintLast Go.Proofs.YthfhoccghbdciaaW.PrintMore Go.Proofs.Ythfhoccghbdciaa.Base Go.Proofs.Ythfhoccghbdciaa.Negos


theorem NegoBoth : careenlaw09_NegoBoth.Pure := by
  intro x0 x1 x2 y0 y1 y2 hx0 hx1 hx2 hy0 hy1 hy2
  refine ⟨1, ?_⟩
  obtain ⟨la, ha, fa, e1, g1⟩ := hello_eq x0 x1 x2 hx0 hx1 hx2
  obtain ⟨lb, hb, fb, e2, g2⟩ := hello_eq y0 y1 y2 hy0 hy1 hy2
  unfold careenlaw09_NegoBoth.f
  rw [awake_eq, Option.bind_some, e1, Option.bind_some, e2, Option.bind_some]
  dsimp only
  rw [agree_yes la ha fa lb hb fb g1 g2, Option.bind_some, agree_yes lb hb fb la ha fa g2 g1, Option.bind_some, agreeV_comm la ha fa lb hb fb, if_neg (by simp), bne_self_eq_false, careenlaw09_NegoBoth.j0, if_neg (by decide)]
  have k1 := g1
  have k2 := g2
  unfold Right at k1 k2
  by_cases c : min ha hb < max la lb
  · rw [agreeV_no la ha fa lb hb fb c, if_neg (by decide), if_pos rfl, if_pos rfl]
    by_cases d : ha < lb
    · rw [if_pos d]
    · rw [if_neg d, decide_eq_true (by omega)]
  · rw [agreeV_yes la ha fa lb hb fb g1 g2 c]
    dsimp only
    have n1 : fea (min ha hb) fa fb ≤ fa := fea_le _ _ _
    have s1 : Go.bits .and .i64 ((fea (min ha hb) fa fb : Nat) : Int) (fa : Int) = ((fea (min ha hb) fa fb : Nat) : Int) := by
      rw [and_nat _ _ (by omega) (by omega)]
      unfold fea
      split
      · rw [sub8_l]
      · rw [sub_l]
    have s2 : Go.bits .and .i64 ((fea (min ha hb) fa fb : Nat) : Int) (fb : Int) = ((fea (min ha hb) fa fb : Nat) : Int) := by
      rw [and_nat _ _ (by omega) (by omega)]
      unfold fea
      split
      · rw [sub8_r]
      · rw [sub_r]
    rw [if_pos rfl, if_pos rfl, if_pos (by omega), if_pos (by omega), if_pos (by omega), if_pos (by omega), if_pos s1, if_pos s2]
    by_cases v : min ha hb = 2
    · have va : ha = 2 := by omega
      have vb : hb = 2 := by omega
      rw [if_pos v, if_pos va, va, vb]
      rfl
    · have v1 : min ha hb = 1 := by omega
      have n8 : fea 1 fa fb < 8 := by unfold fea; rw [if_pos rfl]; exact Nat.mod_lt _ (by decide)
      rw [if_neg v, v1, if_pos (by omega)]
      by_cases va : ha = 2
      · have vb : hb = 1 := by omega
        rw [if_pos va, vb]
        rfl
      · rw [if_neg va]
        rfl
#print axioms NegoBoth
end Go.Proofs.Ythfhoccghbdciaa.Pure
