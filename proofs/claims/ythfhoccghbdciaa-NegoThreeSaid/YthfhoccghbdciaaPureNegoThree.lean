/- The Go function NegoThree, called with any twelve numbers, returns true: what holds between the first and the second and between the second and the third holds between the first and the third. No condition. -/
import Derived.Test.YthfhoccghbdciaaPAllx8
import Derived.Test.YthfhoccghbdciaaNegos
namespace Go.Proofs.Ythfhoccghbdciaa.Pure
open Go.RowKit Go.Proofs.Ythfhoccghbdciaa.PAll Go.Proofs.YthfhoccghbdciaaW.PrintWords Go.Proofs.YthfhoccghbdciaaW.PrintLast Go.Proofs.YthfhoccghbdciaaW.PrintMore Go.Proofs.Ythfhoccghbdciaa.Base Go.Proofs.Ythfhoccghbdciaa.Negos


theorem NegoThree : careenlaw09_NegoThree.Pure := by
  intro x0 x1 x2 y0 y1 y2 z0 z1 z2 u0 u1 u2 hx0 hx1 hx2 hy0 hy1 hy2 hz0 hz1 hz2 _ _ _
  refine ⟨1, ?_⟩
  obtain ⟨la, ha, fa, e1, g1⟩ := hello_eq x0 x1 x2 hx0 hx1 hx2
  obtain ⟨lb, hb, fb, e2, g2⟩ := hello_eq y0 y1 y2 hy0 hy1 hy2
  obtain ⟨lc, hc, fc, e3, g3⟩ := hello_eq z0 z1 z2 hz0 hz1 hz2
  have k1 := g1
  have k2 := g2
  have k3 := g3
  unfold Right at k1 k2 k3
  unfold careenlaw09_NegoThree.f
  rw [awake_eq, Option.bind_some, e1, Option.bind_some, e2, Option.bind_some, e3, Option.bind_some]
  dsimp only
  rw [agree_yes la ha fa lb hb fb g1 g2, Option.bind_some, agree_yes lb hb fb lc hc fc g2 g3, Option.bind_some, agree_yes la ha fa lc hc fc g1 g3, Option.bind_some]
  have last : careenlaw09_NegoThree.j0 1 true (agreeV la ha fa lb hb fb).2.2 (agreeV lb hb fb lc hc fc).2.2 (agreeV la ha fa lc hc fc).2.2 false (agreeV la ha fa lb hb fb).1 (agreeV la ha fa lb hb fb).2.1 (agreeV lb hb fb lc hc fc).1 (agreeV lb hb fb lc hc fc).2.1 (agreeV la ha fa lc hc fc).1 (agreeV la ha fa lc hc fc).2.1 = some true := by
    rw [careenlaw09_NegoThree.j0, if_neg (by decide), if_pos rfl]
    by_cases c1 : min ha hb < max la lb
    · rw [agreeV_no la ha fa lb hb fb c1, if_neg (by decide)]
    · rw [agreeV_yes la ha fa lb hb fb g1 g2 c1, if_pos rfl]
      by_cases c2 : min hb hc < max lb lc
      · rw [agreeV_no lb hb fb lc hc fc c2, if_neg (by decide)]
      · rw [agreeV_yes lb hb fb lc hc fc g2 g3 c2, if_pos rfl]
        by_cases c3 : min ha hc < max la lc
        · rw [agreeV_no la ha fa lc hc fc c3, if_neg (by decide)]
        · rw [agreeV_yes la ha fa lc hc fc g1 g3 c3, if_pos rfl]
          dsimp only
          have n1 : fea (min ha hb) fa fb ≤ fa := fea_le _ _ _
          have n2 : fea (min hb hc) fb fc ≤ fb := fea_le _ _ _
          have n3 : fea (min ha hc) fa fc ≤ fa := fea_le _ _ _
          have n4 : fea (min ha hb) fa fb &&& fea (min hb hc) fb fc ≤ fea (min ha hb) fa fb := Nat.and_le_left
          rw [and_nat _ _ (by omega) (by omega), and_nat _ _ (by omega) (by omega)]
          by_cases v : min ha hc = 1
          · split
            · rfl
            · rw [v]; rfl
          · have s : fea (min ha hc) fa fc = fa &&& fc := by unfold fea; rw [if_neg v]
            rw [s, three, if_pos rfl]
  by_cases c1 : (agreeV la ha fa lb hb fb).2.2 = 0
  · rw [if_pos c1]
    by_cases c2 : (agreeV lb hb fb lc hc fc).2.2 = 0
    · rw [if_pos c2]
      by_cases c3 : (agreeV la ha fa lb hb fb).1 = 2
      · rw [if_pos c3]
        by_cases c4 : (agreeV lb hb fb lc hc fc).1 = 2
        · rw [if_pos c4]
          have d1 : ¬ min ha hb < max la lb := fun d => by rw [agreeV_no la ha fa lb hb fb d] at c1; exact absurd c1 (by decide)
          have d2 : ¬ min hb hc < max lb lc := fun d => by rw [agreeV_no lb hb fb lc hc fc d] at c2; exact absurd c2 (by decide)
          have d3 := c3
          rw [agreeV_yes la ha fa lb hb fb g1 g2 d1] at d3
          have d4 := c4
          rw [agreeV_yes lb hb fb lc hc fc g2 g3 d2] at d4
          dsimp only at d3 d4
          have e := agreeV_yes la ha fa lc hc fc g1 g3 (by omega)
          have o1 : (agreeV la ha fa lc hc fc).2.2 = 0 := by rw [e]
          have o2 : (agreeV la ha fa lc hc fc).1 = 2 := by rw [e]; show min ha hc = 2; omega
          rw [if_pos o1]
          have o3 : ((agreeV la ha fa lc hc fc).1 != 2) = false := by rw [o2]; rfl
          rw [o3]
          exact last
        · rw [if_neg c4]; exact last
      · rw [if_neg c3]; exact last
    · rw [if_neg c2]; exact last
  · rw [if_neg c1]; exact last
#print axioms NegoThree
end Go.Proofs.Ythfhoccghbdciaa.Pure
