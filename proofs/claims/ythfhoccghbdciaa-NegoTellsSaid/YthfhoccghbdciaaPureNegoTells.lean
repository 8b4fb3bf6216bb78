/- The Go function NegoTells, called with any fourteen numbers, returns true: the fast form answers as the plain one. No condition. -/
import Derived.Test.YthfhoccghbdciaaPAllx5
import Derived.Test.YthfhoccghbdciaaNegos
namespace Go.Proofs.Ythfhoccghbdciaa.Pure
open Go.RowKit Go.Proofs.Ythfhoccghbdciaa.PAll Go.Proofs.YthfhoccghbdciaaW.PrintWords Go.Proofs.YthfhoccghbdciaaW.PrintLast Go.Proofs.YthfhoccghbdciaaW.PrintMore Go.Proofs.Ythfhoccghbdciaa.Base Go.Proofs.Ythfhoccghbdciaa.Negos

theorem of_some (a b : Int) : ∃ v, nego_Of.f a b = some v := by
  unfold nego_Of.f
  split
  · exact ⟨_, rfl⟩
  · split
    · split
      · exact ⟨_, rfl⟩
      · exact ⟨_, rfl⟩
    · exact ⟨_, rfl⟩
theorem same_right (l h f : Int) (hf : f ≤ 9223372036854775807) : ∃ r, nego_Right.f l h f = some r ∧ careenref09_Right.f l h f = some r := ⟨_, right_eq l h f hf, ref_right_eq l h f⟩
theorem round (c d : Int) (L : List S26) (i : Int) (h0 : 0 ≤ i) (h1 : i < 3) (zL : (L.length : Int) = 3) (K : Nat) (w1 : (rd_T26 L i).f0.f2 ≤ 9223372036854775807) (w2 : (rd_T26 L i).f1.f2 ≤ 9223372036854775807) :
    careenlaw09_NegoTells.l0 (K + 8) c d true L 3 i = careenlaw09_NegoTells.l0 (K + 6) c d true L 3 (i + 1) := by
  obtain ⟨v, e1, e2⟩ := same (rd_T26 L i).f0.f0 (rd_T26 L i).f0.f1 (rd_T26 L i).f0.f2 (rd_T26 L i).f1.f0 (rd_T26 L i).f1.f1 (rd_T26 L i).f1.f2 w1 w2
  obtain ⟨r, e3, e4⟩ := same_right (rd_T26 L i).f0.f0 (rd_T26 L i).f0.f1 (rd_T26 L i).f0.f2 w1
  have e2' := e2 (K + 1)
  rw [careenlaw09_NegoTells.l0, if_pos h1, if_pos h0, if_pos (by omega), e1, Option.bind_some, e2', Option.bind_some, if_neg (by simp), if_pos rfl, e3, Option.bind_some, e4, Option.bind_some, careenlaw09_NegoTells.j1, if_neg (by simp), wrap64_id (by omega) (by omega)]

theorem NegoTells : careenlaw09_NegoTells.Pure := by
  intro p0 p1 p2 q0 q1 q2 x0 x1 x2 y0 y1 y2 c d _ _ hp2 _ _ hq2 hx0 hx1 hx2 hy0 hy1 hy2 hc hd
  refine ⟨20, ?_⟩
  obtain ⟨la, ha, fa, e1, g1⟩ := hello_eq x0 x1 x2 hx0 hx1 hx2
  obtain ⟨lb, hb, fb, e2, g2⟩ := hello_eq y0 y1 y2 hy0 hy1 hy2
  have k1 := g1.2.2.2.2
  have k2 := g2.2.2.2.2
  obtain ⟨_, hp⟩ := wf_i64 hp2
  obtain ⟨_, hq⟩ := wf_i64 hq2
  unfold careenlaw09_NegoTells.f
  rw [awake_eq, Option.bind_some, e1, Option.bind_some, e2, Option.bind_some, Option.bind_some, Option.bind_some]
  dsimp only
  generalize hL : ([(⟨(⟨p0, p1, p2⟩ : S23), (⟨q0, q1, q2⟩ : S23)⟩ : S26), (⟨(⟨la, ha, (fa : Int)⟩ : S23), (⟨lb, hb, (fb : Int)⟩ : S23)⟩ : S26), (⟨(⟨p0, p1, p2⟩ : S23), (⟨la, ha, (fa : Int)⟩ : S23)⟩ : S26)] : List S26) = L
  have zL : (L.length : Int) = 3 := by rw [← hL]; rfl
  rw [zL]
  rw [round c d L 0 (by omega) (by omega) zL 12 (by rw [← hL]; show p2 ≤ _; omega) (by rw [← hL]; show q2 ≤ _; omega), round c d L (0 + 1) (by omega) (by omega) zL 10 (by rw [← hL]; show (fa : Int) ≤ _; omega) (by rw [← hL]; show (fb : Int) ≤ _; omega), round c d L (0 + 1 + 1) (by omega) (by omega) zL 8 (by rw [← hL]; show p2 ≤ _; omega) (by rw [← hL]; show (fa : Int) ≤ _; omega)]
  rw [careenlaw09_NegoTells.l0, if_neg (by decide), if_pos rfl, ref_of_eq c d]
  obtain ⟨⟨v1, v2, v3⟩, ev⟩ := of_some c d
  obtain ⟨⟨u1, u2, u3⟩, eu⟩ := of_some (wrap64 (1 + pickN c 2)) (wrap64 (1 + pickN d 2))
  rw [ev, Option.bind_some, Option.bind_some, if_pos (by simp), pick_eq c 2 hc (by decide), pick_eq d 2 hd (by decide)]
  simp only [Option.bind_some]
  rw [ref_of_eq, eu]
  simp
#print axioms NegoTells
end Go.Proofs.Ythfhoccghbdciaa.Pure
