/- The Go function NegoMore, called with any seven numbers, returns true: who offers more agrees on no less. No condition. -/
import Derived.Test.YthfhoccghbdciaaPAllx7
import Derived.Test.YthfhoccghbdciaaNegos
namespace Go.Proofs.Ythfhoccghbdciaa.Pure
open Go.RowKit Go.Proofs.Ythfhoccghbdciaa.PAll Go.Proofs.YthfhoccghbdciaaW.PrintWords Go.Proofs.YthfhoccghbdciaaW.PrintLast Go.Proofs.YthfhoccghbdciaaW.PrintMore Go.Proofs.Ythfhoccghbdciaa.Base Go.Proofs.Ythfhoccghbdciaa.Negos


theorem NegoMore : careenlaw09_NegoMore.Pure := by
  intro x0 x1 x2 y0 y1 y2 m0 hx0 hx1 hx2 hy0 hy1 hy2 hm
  refine ⟨1, ?_⟩
  obtain ⟨la, ha, fa, e1, g1⟩ := hello_eq x0 x1 x2 hx0 hx1 hx2
  obtain ⟨lb, hb, fb, e2, g2⟩ := hello_eq y0 y1 y2 hy0 hy1 hy2
  obtain ⟨c0, c1⟩ := pickN_lt (c := m0) (n := 1048576) (by decide)
  obtain ⟨m, em⟩ := Int.eq_ofNat_of_zero_le c0
  have k1 := g1
  have k2 := g2
  unfold Right at k1 k2
  have hor : fa ||| m < 2 ^ 20 := Nat.or_lt_two_pow (by omega) (by omega)
  have g3 : Right 1 ha (((fa ||| m : Nat)) : Int) := by unfold Right; omega
  have eor : Go.bits .or .i64 (fa : Int) (m : Int) = (((fa ||| m : Nat)) : Int) := or_nat fa m (by omega) (by omega)
  unfold careenlaw09_NegoMore.f
  rw [awake_eq, Option.bind_some, e1, Option.bind_some, e2, Option.bind_some, pick_eq m0 1048576 hm (by decide), em, Option.bind_some]
  dsimp only
  rw [eor, agree_yes la ha fa lb hb fb g1 g2, Option.bind_some, agree_yes 1 ha (fa ||| m) lb hb fb g3 g2, Option.bind_some, agree_yes la ha fa la ha fa g1 g1, Option.bind_some]
  have e3 := agreeV_yes la ha fa la ha fa g1 g1 (by omega)
  rw [Int.min_self] at e3
  have last : careenlaw09_NegoMore.j0 1 true (agreeV la ha fa la ha fa).2.2 false la ha fa (agreeV la ha fa la ha fa).1 (agreeV la ha fa la ha fa).2.1 = some true := by
    rw [e3, careenlaw09_NegoMore.j0, if_neg (by decide), if_pos rfl, if_pos rfl, if_pos rfl]
    dsimp only
    unfold fea
    rw [Nat.and_self]
    by_cases v : ha = 1
    · rw [if_pos v, if_pos v]
      split
      · rfl
      · have e8 : Int.tmod (fa : Int) 8 = ((fa % 8 : Nat) : Int) := by rw [Int.tmod_eq_emod_of_nonneg (by omega)]; omega
        rw [e8, beq_self_eq_true]
    · rw [if_neg v, if_pos rfl]
  by_cases c : min ha hb < max la lb
  · rw [agreeV_no la ha fa lb hb fb c, if_neg (by decide)]
    exact last
  · have c2 : ¬ min ha hb < max 1 lb := by omega
    rw [agreeV_yes la ha fa lb hb fb g1 g2 c, agreeV_yes 1 ha (fa ||| m) lb hb fb g3 g2 c2, if_pos rfl, if_pos rfl]
    dsimp only
    rw [if_neg (by omega)]
    have n1 : fea (min ha hb) fa fb ≤ fa := fea_le _ _ _
    have n2 : fea (min ha hb) (fa ||| m) fb ≤ fa ||| m := fea_le _ _ _
    have s : fea (min ha hb) fa fb &&& fea (min ha hb) (fa ||| m) fb = fea (min ha hb) fa fb := by
      unfold fea
      split
      · exact more8 _ _ _
      · exact more20 _ _ _
    rw [and_nat _ _ (by omega) (by omega), s, bne_self_eq_false]
    exact last
#print axioms NegoMore
end Go.Proofs.Ythfhoccghbdciaa.Pure
