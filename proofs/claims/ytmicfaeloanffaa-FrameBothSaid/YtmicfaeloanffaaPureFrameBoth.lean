/- FrameBoth: what its printed answer is, in plain words. -/
import Derived.Test.YtmicfaeloanffaaRaws
import Derived.Test.YtmicfaeloanffaaPBot
namespace Go.Proofs.Ytmicfaeloanffaa.Pure
open Go.RowKit Go.Proofs.YtmicfaeloanffaaW.PrintWords Go.Proofs.YtmicfaeloanffaaW.PrintLast Go.Proofs.YtmicfaeloanffaaW.PrintMore Go.Proofs.Ytmicfaeloanffaa.PAll Go.Proofs.Ytmicfaeloanffaa.Base Go.Proofs.Ytmicfaeloanffaa.Frs
theorem size_one (f : S23) (h : Okay 1 f) : (encB 1 f).size = f.f2.size + 8 := by
  rw [encB_size, (hB_size 1 f h.2.2.2.2.2.1).2.2 rfl]; omega
theorem size_two (f : S23) (h : Okay 1 f) : (encB 2 f).size ≤ f.f2.size + 9 := by
  rw [encB_size]
  have := (hB_size 2 f h.2.2.2.2.2.1).1
  generalize (hB 2 f).size = a at this ⊢
  omega
theorem both_facts (f : S23) (h : Okay 1 f) : wrap64 (((encB 1 f).size : Int) + 1) = ((f.f2.size + 9 : Nat) : Int) ∧ ¬ ((encB 2 f).size : Int) > ((f.f2.size + 9 : Nat) : Int) ∧ ((encB 1 f).size : Int) = wrap64 ((f.f2.size : Int) + 8) := by
  have h6 : f.f2.size ≤ 4000 := h.2.2.2.2.2.1
  have h2 := size_two f h
  rw [size_one f h]
  generalize (encB 2 f).size = a at h2 ⊢
  rw [wrap64_id (by omega) (by omega), wrap64_id (by omega) (by omega)]
  omega
theorem both_loop (x : List S23) (h : ∀ f ∈ x, Okay 1 f) (hx : x.length < 1000000) : ∀ (d i k : Nat), i + d = x.length → d < k → careenlaw06_FrameBoth.l0 k true x (i : Int) = some true := by
  intro d
  induction d with
  | zero =>
    intro i k hi hk
    obtain ⟨k, rfl⟩ : ∃ m, k = m + 1 := ⟨k - 1, by omega⟩
    rw [careenlaw06_FrameBoth.l0, if_neg (by omega)]
  | succ d ih =>
    intro i k hi hk
    obtain ⟨k, rfl⟩ : ∃ m, k = m + 1 := ⟨k - 1, by omega⟩
    have hix : i < x.length := by omega
    have ew : wrap64 ((i : Int) + 1) = ((i + 1 : Nat) : Int) := by rw [wrap64_id (by omega) (by omega)]; omega
    have b1 : (i : Int) < (x.length : Int) := by omega
    have b2 : (0 : Int) ≤ (i : Int) := by omega
    have h1 := h _ (List.getElem_mem hix)
    have h2 : Okay 2 x[i] := ⟨.inr rfl, h1.2.1, h1.2.2.1, h1.2.2.2.1, h1.2.2.2.2.1, h1.2.2.2.2.2.1, .inl rfl⟩
    have go := ih (i + 1) k (by omega) (by omega)
    obtain ⟨f1, f2, f3⟩ := both_facts x[i] h1
    rw [careenlaw06_FrameBoth.l0, if_pos b1, if_pos b2, rd23 x i hix, enc_eq 1 x[i] h1, Option.bind_some, enc_eq 2 x[i] h2, Option.bind_some]
    dsimp only
    rw [if_pos (show (0 : Int) = 0 from rfl), if_pos (show (0 : Int) = 0 from rfl), right_eq 2 _ _ _ h2, Option.bind_some, if_pos (show true = true from rfl), f1, if_neg f2, if_pos f3, ew]
    exact go
theorem FrameBoth : careenlaw06_FrameBoth.Pure := by
  intro l texts _ hw _ _
  refine ⟨100, ?_⟩
  have hl := raws_len 1 texts l
  unfold careenlaw06_FrameBoth.f
  rw [awake_eq 100 (by decide), Option.bind_some, frames_eq 1 l texts hw 100 (by decide), Option.bind_some]
  exact both_loop _ (okay_all (.inl rfl) texts l) (by omega) (raws 1 texts l).length 0 100 (by omega) (by omega)
#print axioms FrameBoth
end Go.Proofs.Ytmicfaeloanffaa.Pure
