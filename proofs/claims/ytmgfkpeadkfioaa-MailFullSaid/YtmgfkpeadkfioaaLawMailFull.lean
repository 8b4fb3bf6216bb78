-- Written by a program of this session (wip/xpatch.py, wip/xprint.sh) for seat Ytmgfkpeadkfioaa.
import Derived.Test.YtmgfkpeadkfioaaRows
import Derived.Test.YtmgfkpeadkfioaaPAllx3
import Derived.Test.YtmgfkpeadkfioaaPAllx0
import Derived.Test.YtmgfkpeadkfioaaPureMailFull
import Derived.Test.YtmgfkpeadkfioaaFits
import Derived.WalkKit
import Derived.ProofKit
import Derived.OpenShut
import Derived.ShutString
import Derived.ChangeOld
import Derived.Below
import Derived.SizedLaws
import Derived.Test.YtmgfkpeadkfioaaWSized
namespace Go.Proofs.Ytmgfkpeadkfioaa.mailFull
open Go.ChangeShapes Go.WideShapes Go.ChangeAt Go.RowKit
open Go.ChangeMaps (open_string shut_string)
open Go.Proofs.YtmgfkpeadkfioaaW.PrintWords Go.Proofs.YtmgfkpeadkfioaaW.PrintLast Go.Proofs.YtmgfkpeadkfioaaW.PrintMore
theorem own : ownKnob Try.prog.godebug = none := by kernel_rfl
theorem laidOut : laidOutB Try.prog = true := by kernel_rfl
set_option maxRecDepth 100000 in
theorem lifted (os : Os) (started : os.Started) (H : Type) (enc : TypeId × Value → H) :
    ReturnsInHanded {} Try.checked os 3 .any (Rows.mailFullSpec.pre6 enc Try.prog Try.f3 Rows.mailFullRow.domain false) (Rows.mailFullSpec.post enc Try.prog Try.f3 false true false false) := by
  refine returnsInHanded_of_change_sized (C := Try.checked) own started (by kernel_rfl) Try.func3
    (ChangeSpec.witness6 (enc := enc) (C := Try.checked) false ⟨#[], #[.int .i64 0, .agg #[.int .i64 0, .int .i64 0, .string ByteArray.empty]], []⟩ 8 (by kernel_rfl) (by kernel_rfl) (by kernel_rfl) (by kernel_rfl)) ?_
  intro W base args ds gs before hval0 hW hcnd hsz0 _
  have hsz : (DataW.weightsEach Try.prog (Try.f3.params.toList ++ Rows.mailFullSpec.plain.varTypes Try.prog) (ds ++ gs)).all (· ≤ reachBytes) = true := hsz0
  have hval : ∀ (j : Nat) t v, Try.f3.params[j]? = some t → args[j]? = some v → Value.okWide Try.prog W .any base t v := hval0
  have hW' := hW
  obtain ⟨p, q, hA0, hV, rfl, hfz, hnd⟩ := hW
  have hA : DataW.TrodAll enc Try.prog W 0 (fun _ => true) true Try.f3.params.toList args.toList ds p := hA0
  rw [Try.params3] at hA hval hsz
  obtain ⟨v0, vs0, d0, ds0, p0, q0, hargs, rfl, rfl, h0, r0⟩ := trodAll_cons hA
  obtain ⟨v1, vs1, d1, ds1, p1, q1, rfl, rfl, rfl, h1, r1⟩ := trodAll_cons r0
  obtain ⟨rfl, rfl, rfl⟩ := trodAll_nil r1
  obtain rfl : args = #[v0, v1] := by cases args; simp_all
  obtain ⟨rfl, rfl⟩ := trodVars_none hV
  obtain ⟨a0, rfl, rfl, rfl, w0⟩ := open_int Try.underlying3 (hval 0 3 v0 rfl rfl) h0
  obtain ⟨cs1, rfl, _⟩ := Fits.okWide_agg_struct Try.underlying23 (hval 1 23 v1 rfl rfl)
  have k1 := h1
  have lt1 : ∀ x ∈ p1, x.block < W.heap.size := by obtain ⟨m, hm⟩ := k1; exact DataW.trod_lt m _ _ _ hm
  obtain ⟨b1, g1, e1⟩ : ∃ b1 : PAll.S23, ((Lit.int .i64 b1.f0).wf = true ∧ (Lit.int .i64 b1.f1).wf = true ∧ b1.f2.size ≤ 9223372036854775807) ∧ cs1 = #[.int .i64 b1.f0, .int .i64 b1.f1, .string b1.f2] := by
    obtain ⟨fuel, hf⟩ := h1
    obtain ⟨b, hk, hg⟩ := (Fits.fits_iso (Fits.fits_struct3 Try.underlying23 (by kernel_rfl) ⟨rfl, rfl, rfl⟩ ⟨by kernel_rfl, by kernel_rfl, by kernel_rfl⟩ (Fits.fits_int (P := Try.prog) Try.underlying3) (Fits.fits_int (P := Try.prog) Try.underlying3) (Fits.fits_string (P := Try.prog) Try.underlying9)) (fun x : PAll.S23 => (x.f0, x.f1, x.f2)) (fun a => ⟨a.1, a.2.1, a.2.2⟩) (fun _ => rfl)) _ _ _ _ _ _ _ _ _ hf
    have hk2 : PAll.k23.K W b cs1.toList := hk
    exact ⟨b, hg, by have := PAll.k23_open hk2; cases cs1; simpa using this⟩
  subst e1
  clear hA0 hval0 hsz0 hsz
  obtain ⟨k, hk⟩ := Pure.MailFull a0 b1.f0 b1.f1 b1.f2 w0 g1.1 g1.2.1 g1.2.2
  refine (PAll.careenlaw11_MailFull.calls k a0 b1.f0 b1.f1 b1.f2 W hk).mono fun e W' ⟨he, bel0⟩ => ?_
  have bel : Below W.heap.size W W' := bel0
  subst he
  exact ⟨_, rfl, _, _, _, [], _, [], hW', trodAll_mk1 (shut_bool Try.underlying4 _), (trodAll_cons_mk (shut_int Try.underlying3 w0) (trodAll_cons_mk (Below.trod laidOut (by kernel_rfl) (of_decide_eq_true (by kernel_rfl)) k1 bel lt1) trodAll_mk0)), rfl, bel.frame _, fun h => by cases h⟩
theorem over : Rows.mailFullRow.holds Try.pinned (OpenSpec.ofChange Rows.mailFullSpec) :=
  OpenClaim.holds_of_wide 3 Try.f3 rfl rfl rfl rfl rfl rfl rfl ⟨rfl, rfl, rfl, rfl, rfl⟩ rfl rfl rfl rfl rfl (by kernel_rfl) Try.func3 (by kernel_rfl)
    (of_decide_eq_true (by kernel_rfl)) (by unfold Func.isWrapper; first | (rw [if_pos (by decide +kernel)]; kernel_rfl) | (rw [if_neg (by decide +kernel)]; exact ⟨rfl, rfl⟩))
    (fun os started H enc _ => lifted os started H enc)
theorem proved : Rows.MailFullSaid := over
#print axioms proved
end Go.Proofs.Ytmgfkpeadkfioaa.mailFull
namespace Go.Proofs.Ytmgfkpeadkfioaa
/-- The row, under a short name, for the claim. -/
theorem mailFull_holds : Rows.MailFullSaid := mailFull.proved
end Go.Proofs.Ytmgfkpeadkfioaa
