/- FrameBack: what its printed answer is, in plain words. -/
import Derived.Test.YtmicfaeloanffaaFrs3
namespace Go.Proofs.Ytmicfaeloanffaa.Pure
open Go.RowKit Go.Proofs.YtmicfaeloanffaaW.PrintWords Go.Proofs.YtmicfaeloanffaaW.PrintLast Go.Proofs.YtmicfaeloanffaaW.PrintMore Go.Proofs.Ytmicfaeloanffaa.PAll Go.Proofs.Ytmicfaeloanffaa.Base Go.Proofs.Ytmicfaeloanffaa.Frs
theorem back_round (l : List S57) (texts : List ByteArray) (hw : ∀ x ∈ l, (Lit.int .i64 x.f0).wf = true ∧ (Lit.int .i64 x.f1).wf = true ∧ (Lit.int .i64 x.f2).wf = true) (v : Int) (hv : v = 1 ∨ v = 2) (k : Nat) (hk : 40 ≤ k) :
    careenlaw06_FrameBack.l0 (k + 1) l texts true v = careenlaw06_FrameBack.l0 k l texts true (v + 1) := by
  have ho := okay_all hv texts l
  have hl := raws_len v texts l
  have ew : wrap64 (v + 1) = v + 1 := wrap64_id (by omega) (by omega)
  rw [careenlaw06_FrameBack.l0, if_pos (by omega), frames_eq v l texts hw k (by omega), Option.bind_some, bytes_of v _ ho (by omega) k (by omega), Option.bind_some, scan_cat v hv _ ho hl k (by omega), Option.bind_some, if_pos rfl, if_pos rfl, if_pos rfl, same_eq _ (by omega) k (by omega), Option.bind_some, if_pos rfl, ew]
theorem FrameBack : careenlaw06_FrameBack.Pure := by
  intro l texts _ hw _ _
  refine ⟨103, ?_⟩
  unfold careenlaw06_FrameBack.f
  rw [awake_eq 103 (by decide), Option.bind_some, back_round l texts hw 1 (.inl rfl) 102 (by decide), back_round l texts hw (1 + 1) (.inr rfl) 101 (by decide), careenlaw06_FrameBack.l0, if_neg (by decide)]
#print axioms FrameBack
end Go.Proofs.Ytmicfaeloanffaa.Pure
