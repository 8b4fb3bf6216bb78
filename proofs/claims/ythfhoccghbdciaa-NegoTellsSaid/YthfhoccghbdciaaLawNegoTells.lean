-- Written by a program of this session (wip/xpatch.py, wip/xprint.sh) for seat Ythfhoccghbdciaa.
import Derived.Test.YthfhoccghbdciaaRows
import Derived.Test.YthfhoccghbdciaaPAllx5
import Derived.Test.YthfhoccghbdciaaPAllx0
import Derived.Test.YthfhoccghbdciaaPureNegoTells
import Derived.Test.YthfhoccghbdciaaFits
import Derived.WalkKit
import Derived.ProofKit
import Derived.OpenShut
import Derived.ShutString
import Derived.ChangeOld
import Derived.Below
import Derived.SizedLaws
import Derived.Test.YthfhoccghbdciaaWSized
namespace Go.Proofs.Ythfhoccghbdciaa.PAll
open Go.RowKit Go.Proofs.YthfhoccghbdciaaW.PrintWords Go.Proofs.YthfhoccghbdciaaW.PrintLast Go.Proofs.YthfhoccghbdciaaW.PrintMore
/-- An array of 6 whole numbers. -/
structure S24 where
  f0 : Int
  f1 : Int
  f2 : Int
  f3 : Int
  f4 : Int
  f5 : Int
def k24 : Kd S24 := Kd.iso (Kd.pair (Kd.int .i64) (Kd.pair (Kd.int .i64) (Kd.pair (Kd.int .i64) (Kd.pair (Kd.int .i64) (Kd.pair (Kd.int .i64) (Kd.int .i64)))))) (fun x : S24 => (x.f0, x.f1, x.f2, x.f3, x.f4, x.f5))
theorem k24_open {w : World} {x : S24} {cs : List Value} (h : k24.K w x cs) : cs = [.int .i64 x.f0, .int .i64 x.f1, .int .i64 x.f2, .int .i64 x.f3, .int .i64 x.f4, .int .i64 x.f5] := by
  obtain ⟨_, _, rfl, rfl, ⟨_, _, rfl, rfl, ⟨_, _, rfl, rfl, ⟨_, _, rfl, rfl, ⟨_, _, rfl, rfl, rfl⟩⟩⟩⟩⟩ := h
  exact rfl
end Go.Proofs.Ythfhoccghbdciaa.PAll
namespace Go.Proofs.Ythfhoccghbdciaa.negoTells
open Go.ChangeShapes Go.WideShapes Go.ChangeAt Go.RowKit
open Go.ChangeMaps (open_string shut_string)
open Go.Proofs.YthfhoccghbdciaaW.PrintWords Go.Proofs.YthfhoccghbdciaaW.PrintLast Go.Proofs.YthfhoccghbdciaaW.PrintMore
theorem own : ownKnob Try.prog.godebug = none := by kernel_rfl
theorem laidOut : laidOutB Try.prog = true := by kernel_rfl
set_option maxRecDepth 100000 in
theorem lifted (os : Os) (started : os.Started) (H : Type) (enc : TypeId × Value → H) :
    ReturnsInHanded {} Try.checked os 3 .any (Rows.negoTellsSpec.pre6 enc Try.prog Try.f3 Rows.negoTellsRow.domain false) (Rows.negoTellsSpec.post enc Try.prog Try.f3 false true false false) := by
  refine returnsInHanded_of_change_sized (C := Try.checked) own started (by kernel_rfl) Try.func3
    (ChangeSpec.witness6 (enc := enc) (C := Try.checked) false ⟨#[], #[.agg #[.int .i64 0, .int .i64 0, .int .i64 0], .agg #[.int .i64 0, .int .i64 0, .int .i64 0], .agg #[.int .i64 0, .int .i64 0, .int .i64 0, .int .i64 0, .int .i64 0, .int .i64 0], .int .i64 0, .int .i64 0], []⟩ 8 (by kernel_rfl) (by kernel_rfl) (by kernel_rfl) (by kernel_rfl)) ?_
  intro W base args ds gs before hval0 hW hcnd hsz0 _
  have hsz : (DataW.weightsEach Try.prog (Try.f3.params.toList ++ Rows.negoTellsSpec.plain.varTypes Try.prog) (ds ++ gs)).all (· ≤ reachBytes) = true := hsz0
  have hval : ∀ (j : Nat) t v, Try.f3.params[j]? = some t → args[j]? = some v → Value.okWide Try.prog W .any base t v := hval0
  have hW' := hW
  obtain ⟨p, q, hA0, hV, rfl, hfz, hnd⟩ := hW
  have hA : DataW.TrodAll enc Try.prog W 0 (fun _ => true) true Try.f3.params.toList args.toList ds p := hA0
  rw [Try.params3] at hA hval hsz
  obtain ⟨v0, vs0, d0, ds0, p0, q0, hargs, rfl, rfl, h0, r0⟩ := trodAll_cons hA
  obtain ⟨v1, vs1, d1, ds1, p1, q1, rfl, rfl, rfl, h1, r1⟩ := trodAll_cons r0
  obtain ⟨v2, vs2, d2, ds2, p2, q2, rfl, rfl, rfl, h2, r2⟩ := trodAll_cons r1
  obtain ⟨v3, vs3, d3, ds3, p3, q3, rfl, rfl, rfl, h3, r3⟩ := trodAll_cons r2
  obtain ⟨v4, vs4, d4, ds4, p4, q4, rfl, rfl, rfl, h4, r4⟩ := trodAll_cons r3
  obtain ⟨rfl, rfl, rfl⟩ := trodAll_nil r4
  obtain rfl : args = #[v0, v1, v2, v3, v4] := by cases args; simp_all
  obtain ⟨rfl, rfl⟩ := trodVars_none hV
  obtain ⟨cs0, rfl, _⟩ := Fits.okWide_agg_struct Try.underlying23 (hval 0 23 v0 rfl rfl)
  have k0 := h0
  have lt0 : ∀ x ∈ p0, x.block < W.heap.size := by obtain ⟨m, hm⟩ := k0; exact DataW.trod_lt m _ _ _ hm
  obtain ⟨b0, g0, e0⟩ : ∃ b0 : PAll.S23, ((Lit.int .i64 b0.f0).wf = true ∧ (Lit.int .i64 b0.f1).wf = true ∧ (Lit.int .i64 b0.f2).wf = true) ∧ cs0 = #[.int .i64 b0.f0, .int .i64 b0.f1, .int .i64 b0.f2] := by
    obtain ⟨fuel, hf⟩ := h0
    obtain ⟨b, hk, hg⟩ := (Fits.fits_iso (Fits.fits_struct3 Try.underlying23 (by kernel_rfl) ⟨rfl, rfl, rfl⟩ ⟨by kernel_rfl, by kernel_rfl, by kernel_rfl⟩ (Fits.fits_int (P := Try.prog) Try.underlying3) (Fits.fits_int (P := Try.prog) Try.underlying3) (Fits.fits_int (P := Try.prog) Try.underlying3)) (fun x : PAll.S23 => (x.f0, x.f1, x.f2)) (fun a => ⟨a.1, a.2.1, a.2.2⟩) (fun _ => rfl)) _ _ _ _ _ _ _ _ _ hf
    have hk2 : PAll.k23.K W b cs0.toList := hk
    exact ⟨b, hg, by have := PAll.k23_open hk2; cases cs0; simpa using this⟩
  subst e0
  obtain ⟨cs1, rfl, _⟩ := Fits.okWide_agg_struct Try.underlying23 (hval 1 23 v1 rfl rfl)
  have k1 := h1
  have lt1 : ∀ x ∈ p1, x.block < W.heap.size := by obtain ⟨m, hm⟩ := k1; exact DataW.trod_lt m _ _ _ hm
  obtain ⟨b1, g1, e1⟩ : ∃ b1 : PAll.S23, ((Lit.int .i64 b1.f0).wf = true ∧ (Lit.int .i64 b1.f1).wf = true ∧ (Lit.int .i64 b1.f2).wf = true) ∧ cs1 = #[.int .i64 b1.f0, .int .i64 b1.f1, .int .i64 b1.f2] := by
    obtain ⟨fuel, hf⟩ := h1
    obtain ⟨b, hk, hg⟩ := (Fits.fits_iso (Fits.fits_struct3 Try.underlying23 (by kernel_rfl) ⟨rfl, rfl, rfl⟩ ⟨by kernel_rfl, by kernel_rfl, by kernel_rfl⟩ (Fits.fits_int (P := Try.prog) Try.underlying3) (Fits.fits_int (P := Try.prog) Try.underlying3) (Fits.fits_int (P := Try.prog) Try.underlying3)) (fun x : PAll.S23 => (x.f0, x.f1, x.f2)) (fun a => ⟨a.1, a.2.1, a.2.2⟩) (fun _ => rfl)) _ _ _ _ _ _ _ _ _ hf
    have hk2 : PAll.k23.K W b cs1.toList := hk
    exact ⟨b, hg, by have := PAll.k23_open hk2; cases cs1; simpa using this⟩
  subst e1
  obtain ⟨cs2, rfl, _⟩ := Fits.okWide_agg_array Try.underlying24 (hval 2 24 v2 rfl rfl)
  have k2 := h2
  have lt2 : ∀ x ∈ p2, x.block < W.heap.size := by obtain ⟨m, hm⟩ := k2; exact DataW.trod_lt m _ _ _ hm
  obtain ⟨b2, g2, e2⟩ : ∃ b2 : PAll.S24, ((Lit.int .i64 b2.f0).wf = true ∧ (Lit.int .i64 b2.f1).wf = true ∧ (Lit.int .i64 b2.f2).wf = true ∧ (Lit.int .i64 b2.f3).wf = true ∧ (Lit.int .i64 b2.f4).wf = true ∧ (Lit.int .i64 b2.f5).wf = true) ∧ cs2 = #[.int .i64 b2.f0, .int .i64 b2.f1, .int .i64 b2.f2, .int .i64 b2.f3, .int .i64 b2.f4, .int .i64 b2.f5] := by
    obtain ⟨fuel, hf⟩ := h2
    obtain ⟨b, hk, hg⟩ := (Fits.fits_iso (Fits.fits_array6 Try.underlying24 (by kernel_rfl) (by kernel_rfl) (Fits.fits_int (P := Try.prog) Try.underlying3)) (fun x : PAll.S24 => (x.f0, x.f1, x.f2, x.f3, x.f4, x.f5)) (fun a => ⟨a.1, a.2.1, a.2.2.1, a.2.2.2.1, a.2.2.2.2.1, a.2.2.2.2.2⟩) (fun _ => rfl)) _ _ _ _ _ _ _ _ _ hf
    have hk2 : PAll.k24.K W b cs2.toList := hk
    exact ⟨b, hg, by have := PAll.k24_open hk2; cases cs2; simpa using this⟩
  subst e2
  obtain ⟨a3, rfl, rfl, rfl, w3⟩ := open_int Try.underlying3 (hval 3 3 v3 rfl rfl) h3
  obtain ⟨a4, rfl, rfl, rfl, w4⟩ := open_int Try.underlying3 (hval 4 3 v4 rfl rfl) h4
  clear hA0 hval0 hsz0 hsz
  obtain ⟨k, hk⟩ := Pure.NegoTells b0.f0 b0.f1 b0.f2 b1.f0 b1.f1 b1.f2 b2.f0 b2.f1 b2.f2 b2.f3 b2.f4 b2.f5 a3 a4 g0.1 g0.2.1 g0.2.2 g1.1 g1.2.1 g1.2.2 g2.1 g2.2.1 g2.2.2.1 g2.2.2.2.1 g2.2.2.2.2.1 g2.2.2.2.2.2 w3 w4
  refine (PAll.careenlaw09_NegoTells.calls k b0.f0 b0.f1 b0.f2 b1.f0 b1.f1 b1.f2 b2.f0 b2.f1 b2.f2 b2.f3 b2.f4 b2.f5 a3 a4 W hk).mono fun e W' ⟨he, bel0⟩ => ?_
  have bel : Below W.heap.size W W' := bel0
  subst he
  exact ⟨_, rfl, _, _, _, [], _, [], hW', trodAll_mk1 (shut_bool Try.underlying4 _), (trodAll_cons_mk (Below.trod laidOut (by kernel_rfl) (of_decide_eq_true (by kernel_rfl)) k0 bel lt0) (trodAll_cons_mk (Below.trod laidOut (by kernel_rfl) (of_decide_eq_true (by kernel_rfl)) k1 bel lt1) (trodAll_cons_mk (Below.trod laidOut (by kernel_rfl) (of_decide_eq_true (by kernel_rfl)) k2 bel lt2) (trodAll_cons_mk (shut_int Try.underlying3 w3) (trodAll_cons_mk (shut_int Try.underlying3 w4) trodAll_mk0))))), rfl, bel.frame _, fun h => by cases h⟩
theorem over : Rows.negoTellsRow.holds Try.pinned (OpenSpec.ofChange Rows.negoTellsSpec) :=
  OpenClaim.holds_of_wide 3 Try.f3 rfl rfl rfl rfl rfl rfl rfl ⟨rfl, rfl, rfl, rfl, rfl⟩ rfl rfl rfl rfl rfl (by kernel_rfl) Try.func3 (by kernel_rfl)
    (of_decide_eq_true (by kernel_rfl)) (by unfold Func.isWrapper; first | (rw [if_pos (by decide +kernel)]; kernel_rfl) | (rw [if_neg (by decide +kernel)]; exact ⟨rfl, rfl⟩))
    (fun os started H enc _ => lifted os started H enc)
theorem proved : Rows.NegoTellsSaid := over
#print axioms proved
end Go.Proofs.Ythfhoccghbdciaa.negoTells
namespace Go.Proofs.Ythfhoccghbdciaa
/-- The row, under a short name, for the claim. -/
theorem negoTells_holds : Rows.NegoTellsSaid := negoTells.proved
end Go.Proofs.Ythfhoccghbdciaa
