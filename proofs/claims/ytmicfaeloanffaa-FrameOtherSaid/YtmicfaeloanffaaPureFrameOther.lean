/- FrameOther: what its printed answer is, in plain words. -/
import Derived.Test.YtmicfaeloanffaaFrs3
import Derived.Test.YtmicfaeloanffaaPAllx12
namespace Go.Proofs.Ytmicfaeloanffaa.Pure
open Go.RowKit Go.Proofs.YtmicfaeloanffaaW.PrintWords Go.Proofs.YtmicfaeloanffaaW.PrintLast Go.Proofs.YtmicfaeloanffaaW.PrintMore Go.Proofs.Ytmicfaeloanffaa.PAll Go.Proofs.Ytmicfaeloanffaa.Base Go.Proofs.Ytmicfaeloanffaa.Frs
theorem other_round (l : List S57) (texts : List ByteArray) (hw : ∀ x ∈ l, (Lit.int .i64 x.f0).wf = true ∧ (Lit.int .i64 x.f1).wf = true ∧ (Lit.int .i64 x.f2).wf = true) (v v' : Int) (hv : v = 1 ∧ v' = 2 ∨ v = 2 ∧ v' = 1) (k : Nat) (hk : 40 ≤ k) :
    careenlaw06_FrameOther.l0 (k + 2) l texts true v = careenlaw06_FrameOther.l0 (k + 1) l texts true (v + 1) := by
  have hv1 : v = 1 ∨ v = 2 := by omega
  have ho := okay_all hv1 texts l
  have hl := raws_len v texts l
  have ew : wrap64 (v + 1) = v + 1 := wrap64_id (by omega) (by omega)
  have e3 : wrap64 (3 - v) = v' := by rw [wrap64_id (by omega) (by omega)]; omega
  rw [careenlaw06_FrameOther.l0, if_pos (by omega), frames_eq v l texts hw (k + 1) (by omega), Option.bind_some, bytes_of v _ ho (by omega) (k + 1) (by omega), Option.bind_some, e3]
  rcases scan_other v v' hv _ ho k with ⟨h1, h2⟩ | ⟨h1, h2⟩
  · rw [h2, Option.bind_some, h1, ew]
    dsimp only
    have e : (cat v []).toList = [] := tl_nil
    rw [e]
    rfl
  · have e : (cat v (raws v texts l)).toList ≠ [] := by
      intro e
      have := tl_size (cat v (raws v texts l))
      rw [e] at this
      rw [this] at h1
      exact absurd h1 (by decide)
    have e2 : ((cat v (raws v texts l)).toList != ([] : List UInt8)) = true := bne_iff_ne.mpr e
    rw [h2, Option.bind_some, ew]
    dsimp only
    rw [e2, if_pos rfl, if_neg (by decide), if_pos rfl, if_neg (by decide), if_neg e]
theorem FrameOther : careenlaw06_FrameOther.Pure := by
  intro l texts _ hw _ _
  refine ⟨103, ?_⟩
  unfold careenlaw06_FrameOther.f
  rw [awake_eq 103 (by decide), Option.bind_some, other_round l texts hw 1 2 (.inl ⟨rfl, rfl⟩) 101 (by decide), other_round l texts hw (1 + 1) 1 (.inr ⟨rfl, rfl⟩) 100 (by decide), careenlaw06_FrameOther.l0, if_neg (by decide)]
#print axioms FrameOther
end Go.Proofs.Ytmicfaeloanffaa.Pure
