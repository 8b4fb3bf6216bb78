-- Written by a program of this session (wip/xpatch.py, wip/xprint.sh) for seat Ytlhkcbcfhmjamaa.
import Derived.Test.YtlhkcbcfhmjamaaRows
import Derived.Test.YtlhkcbcfhmjamaaPAllx5
import Derived.Test.YtlhkcbcfhmjamaaPAllx0
import Derived.Test.YtlhkcbcfhmjamaaPureDiskTorn
import Derived.Test.YtlhkcbcfhmjamaaFits
import Derived.WalkKit
import Derived.ProofKit
import Derived.OpenShut
import Derived.ShutString
import Derived.ChangeOld
import Derived.Below
import Derived.SizedLaws
import Derived.Test.YtlhkcbcfhmjamaaWSized
namespace Go.Proofs.Ytlhkcbcfhmjamaa.diskTorn
open Go.ChangeShapes Go.WideShapes Go.ChangeAt Go.RowKit
open Go.ChangeMaps (open_string shut_string)
open Go.Proofs.YtlhkcbcfhmjamaaW.PrintWords Go.Proofs.YtlhkcbcfhmjamaaW.PrintLast Go.Proofs.YtlhkcbcfhmjamaaW.PrintMore
theorem own : ownKnob Try.prog.godebug = none := by kernel_rfl
theorem laidOut : laidOutB Try.prog = true := by kernel_rfl
set_option maxRecDepth 100000 in
theorem lifted (os : Os) (started : os.Started) (H : Type) (enc : TypeId × Value → H) :
    ReturnsInHanded {} Try.checked os 4 .any (Rows.diskTornSpec.pre6 enc Try.prog Try.f4 Rows.diskTornRow.domain false) (Rows.diskTornSpec.post enc Try.prog Try.f4 false true false false) := by
  refine returnsInHanded_of_change_sized (C := Try.checked) own started (by kernel_rfl) Try.func4
    (ChangeSpec.witness6 (enc := enc) (C := Try.checked) false ⟨#[], #[.agg #[.string ByteArray.empty, .string ByteArray.empty, .string ByteArray.empty], .int .i64 0, .int .i64 0], []⟩ 8 (by kernel_rfl) (by kernel_rfl) (by kernel_rfl) (by kernel_rfl)) ?_
  intro W base args ds gs before hval0 hW hcnd hsz0 _
  have hsz : (DataW.weightsEach Try.prog (Try.f4.params.toList ++ Rows.diskTornSpec.plain.varTypes Try.prog) (ds ++ gs)).all (· ≤ reachBytes) = true := hsz0
  have hval : ∀ (j : Nat) t v, Try.f4.params[j]? = some t → args[j]? = some v → Value.okWide Try.prog W .any base t v := hval0
  have hW' := hW
  obtain ⟨p, q, hA0, hV, rfl, hfz, hnd⟩ := hW
  have hA : DataW.TrodAll enc Try.prog W 0 (fun _ => true) true Try.f4.params.toList args.toList ds p := hA0
  rw [Try.params4] at hA hval hsz
  obtain ⟨v0, vs0, d0, ds0, p0, q0, hargs, rfl, rfl, h0, r0⟩ := trodAll_cons hA
  obtain ⟨v1, vs1, d1, ds1, p1, q1, rfl, rfl, rfl, h1, r1⟩ := trodAll_cons r0
  obtain ⟨v2, vs2, d2, ds2, p2, q2, rfl, rfl, rfl, h2, r2⟩ := trodAll_cons r1
  obtain ⟨rfl, rfl, rfl⟩ := trodAll_nil r2
  obtain rfl : args = #[v0, v1, v2] := by cases args; simp_all
  obtain ⟨rfl, rfl⟩ := trodVars_none hV
  obtain ⟨cs0, rfl, _⟩ := Fits.okWide_agg_struct Try.underlying23 (hval 0 23 v0 rfl rfl)
  have k0 := h0
  have lt0 : ∀ x ∈ p0, x.block < W.heap.size := by obtain ⟨m, hm⟩ := k0; exact DataW.trod_lt m _ _ _ hm
  obtain ⟨b0, g0, e0⟩ : ∃ b0 : PAll.S23, (b0.f0.size ≤ 9223372036854775807 ∧ b0.f1.size ≤ 9223372036854775807 ∧ b0.f2.size ≤ 9223372036854775807) ∧ cs0 = #[.string b0.f0, .string b0.f1, .string b0.f2] := by
    obtain ⟨fuel, hf⟩ := h0
    obtain ⟨b, hk, hg⟩ := (Fits.fits_iso (Fits.fits_struct3 Try.underlying23 (by kernel_rfl) ⟨rfl, rfl, rfl⟩ ⟨by kernel_rfl, by kernel_rfl, by kernel_rfl⟩ (Fits.fits_string (P := Try.prog) Try.underlying9) (Fits.fits_string (P := Try.prog) Try.underlying9) (Fits.fits_string (P := Try.prog) Try.underlying9)) (fun x : PAll.S23 => (x.f0, x.f1, x.f2)) (fun a => ⟨a.1, a.2.1, a.2.2⟩) (fun _ => rfl)) _ _ _ _ _ _ _ _ _ hf
    have hk2 : PAll.k23.K W b cs0.toList := hk
    exact ⟨b, hg, by have := PAll.k23_open hk2; cases cs0; simpa using this⟩
  subst e0
  obtain ⟨a1, rfl, rfl, rfl, w1⟩ := open_int Try.underlying3 (hval 1 3 v1 rfl rfl) h1
  obtain ⟨a2, rfl, rfl, rfl, w2⟩ := open_int Try.underlying3 (hval 2 3 v2 rfl rfl) h2
  clear hA0 hval0 hsz0 hsz
  have hk := Pure.DiskTorn b0.f0 b0.f1 b0.f2 a1 a2 g0.1 g0.2.1 g0.2.2 w1 w2
  refine (PAll.careenlaw07_DiskTorn.calls b0.f0 b0.f1 b0.f2 a1 a2 W hk).mono fun e W' ⟨he, bel0⟩ => ?_
  have bel : Below W.heap.size W W' := bel0
  subst he
  exact ⟨_, rfl, _, _, _, [], _, [], hW', trodAll_mk1 (shut_bool Try.underlying4 _), (trodAll_cons_mk (Below.trod laidOut (by kernel_rfl) (of_decide_eq_true (by kernel_rfl)) k0 bel lt0) (trodAll_cons_mk (shut_int Try.underlying3 w1) (trodAll_cons_mk (shut_int Try.underlying3 w2) trodAll_mk0))), rfl, bel.frame _, fun h => by cases h⟩
theorem over : Rows.diskTornRow.holds Try.pinned (OpenSpec.ofChange Rows.diskTornSpec) :=
  OpenClaim.holds_of_wide 4 Try.f4 rfl rfl rfl rfl rfl rfl rfl ⟨rfl, rfl, rfl, rfl, rfl⟩ rfl rfl rfl rfl rfl (by kernel_rfl) Try.func4 (by kernel_rfl)
    (of_decide_eq_true (by kernel_rfl)) (by unfold Func.isWrapper; first | (rw [if_pos (by decide +kernel)]; kernel_rfl) | (rw [if_neg (by decide +kernel)]; exact ⟨rfl, rfl⟩))
    (fun os started H enc _ => lifted os started H enc)
theorem proved : Rows.DiskTornSaid := over
#print axioms proved
end Go.Proofs.Ytlhkcbcfhmjamaa.diskTorn
namespace Go.Proofs.Ytlhkcbcfhmjamaa
/-- The row, under a short name, for the claim. -/
theorem diskTorn_holds : Rows.DiskTornSaid := diskTorn.proved
end Go.Proofs.Ytlhkcbcfhmjamaa
