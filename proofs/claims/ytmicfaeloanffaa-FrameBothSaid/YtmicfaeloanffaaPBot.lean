-- Written by a program of this session (wip/xpatch.py, wip/xprint.sh) for seat Ytmicfaeloanffaa.
import Derived.Test.YtmicfaeloanffaaPAllx0
import Derived.Test.YtmicfaeloanffaaPAllx2
import Derived.Test.YtmicfaeloanffaaPAllx3
import Derived.Test.YtmicfaeloanffaaPAllx5
import Derived.Test.YtmicfaeloanffaaPAllx6
import Derived.Test.YtmicfaeloanffaaPFrx
namespace Go.Proofs.Ytmicfaeloanffaa.PAll
attribute [local go_sem high] Go.Proofs.Ytmicfaeloanffaa.Hand.unary_xor_u32
open Go.RowKit Go.Proofs.YtmicfaeloanffaaW.PrintWords Go.Proofs.YtmicfaeloanffaaW.PrintLast Go.Proofs.YtmicfaeloanffaaW.PrintMore
attribute [local go_sem] max2_int min2_int max_two min_two max_three min_three max_four min_four   -- for this text's walks alone
set_option linter.unusedVariables false
set_option linter.unusedSimpArgs false

/-! ### careenlaw06_FrameBoth: function 10 -/
def careenlaw06_FrameBoth.l0 : Nat → Bool → List (S23) → Int → Option (Bool)
  | 0, _, _, _ => none
  | k + 1, x5, x6, x7 => if x7 < (x6.length : Int) then (if 0 ≤ x7 then ((frame_Encode.f 1 ((rd_T23 x6 x7).f0) ((rd_T23 x6 x7).f1) ((rd_T23 x6 x7).f2)).bind fun bt374 => ((frame_Encode.f 2 ((rd_T23 x6 x7).f0) ((rd_T23 x6 x7).f1) ((rd_T23 x6 x7).f2)).bind fun bt377 => (if bt374.2 = 0 then (if bt377.2 = 0 then ((frame_Right.f 2 ((rd_T23 x6 x7).f0) ((rd_T23 x6 x7).f1) ((rd_T23 x6 x7).f2)).bind fun t380 => (if t380 = true then (if (bt377.1.size : Int) > (wrap64 ((bt374.1.size : Int) + 1)) then (some false) else (if (bt374.1.size : Int) = (wrap64 ((((rd_T23 x6 x7).f2).size : Int) + 8)) then (careenlaw06_FrameBoth.l0 k x5 x6 (wrap64 (x7 + 1))) else (some false))) else (some false))) else (some false)) else (some false)))) else (none)) else (some x5)
def careenlaw06_FrameBoth.f (k : Nat) (l0 : List (S57)) (l1 : List ByteArray) : Option (Bool) := (careenlaw06_awake.f k).bind fun t369 => ((careenlaw06_Frames.f k 1 l0 l1).bind fun t370 => (careenlaw06_FrameBoth.l0 k t369 t370 0))
theorem careenlaw06_FrameBoth.mono_l : ∀ k, (∀ y0 y1 y2, LeO (careenlaw06_FrameBoth.l0 k y0 y1 y2) (careenlaw06_FrameBoth.l0 (k + 1) y0 y1 y2))
  | 0 => (fun _ _ _ r h => by cases (show (none : Option _) = some r from h))
  | k + 1 => by
    have ih0 := careenlaw06_FrameBoth.mono_l k
    · intro y0 y1 y2
      unfold careenlaw06_FrameBoth.l0
      repeat' first
      | (with_reducible exact ih0 _ _ _)
      | (with_reducible exact careenlaw06_Frames.mono _ _ _ _)
      | (with_reducible exact careenlaw06_awake.mono _)
      | (with_reducible exact LeO.refl _)
      | (with_reducible exact LeO.none _)
      | (with_reducible refine LeO.ite ?_ ?_)
      | (with_reducible refine LeO.bind ?_ (fun _ => ?_))
      | exact ih0 _ _ _
      | exact careenlaw06_Frames.mono _ _ _ _
      | exact careenlaw06_awake.mono _
      | exact LeO.none _
      | refine LeO.ite ?_ ?_
      | refine LeO.bind ?_ (fun _ => ?_)
theorem careenlaw06_FrameBoth.mono : ∀ a0 a1 k, LeO (careenlaw06_FrameBoth.f k a0 a1) (careenlaw06_FrameBoth.f (k + 1) a0 a1) := by
  intro a0 a1 k
  have ih0 := careenlaw06_FrameBoth.mono_l k
  unfold careenlaw06_FrameBoth.f
  repeat' first
      | (with_reducible exact ih0 _ _ _)
      | (with_reducible exact careenlaw06_Frames.mono _ _ _ _)
      | (with_reducible exact careenlaw06_awake.mono _)
      | (with_reducible exact LeO.refl _)
      | (with_reducible exact LeO.none _)
      | (with_reducible refine LeO.ite ?_ ?_)
      | (with_reducible refine LeO.bind ?_ (fun _ => ?_))
      | exact ih0 _ _ _
      | exact careenlaw06_Frames.mono _ _ _ _
      | exact careenlaw06_awake.mono _
      | exact LeO.none _
      | refine LeO.ite ?_ ?_
      | refine LeO.bind ?_ (fun _ => ?_)
set_option maxHeartbeats 8000000 in
set_option maxRecDepth 100000 in
theorem careenlaw06_FrameBoth.calls (k : Nat) (A0 : Option Addr) (c0 : Nat) (l0 : List (S57)) (A1 : Option Addr) (c1 : Nat) (l1 : List ByteArray) (w : World) (hr0 : Kd.C k57 w A0 l0.length l0) (hc0 : l0.length ≤ c0) (hr1 : Kd.C Kd.string w A1 l1.length l1) (hc1 : l1.length ≤ c1) (h : careenlaw06_FrameBoth.f k l0 l1 = some true) :
    Calls Try.prog 10 #[.slice A0 l0.length c0, .slice A1 l1.length c1] w fun e w' => e = .returned (.bool true) ∧ Below w.heap.size w w' := by
  have hu23 := Try.underlying23
  have HR0 := Aside0.mk hr0
  have HC0 := Aside0.mk hc0
  clear hr0 hc0
  have HR1 := Aside0.mk hr1
  have HC1 := Aside0.mk hc1
  clear hr1 hc1
  have HB := Aside0.mk (Below.refl w.heap.size w)
  have H : ((careenlaw06_awake.f k).bind fun t369 => ((careenlaw06_Frames.f k 1 l0 l1).bind fun t370 => (careenlaw06_FrameBoth.l0 k t369 t370 0))) = some true := h
  clear h
  replace H := Option.bind_eq_some_iff.mp H
  obtain ⟨t369, A30, H⟩ := H
  replace H : ((careenlaw06_Frames.f k 1 l0 l1).bind fun t370 => (careenlaw06_FrameBoth.l0 k t369 t370 0)) = some true := H
  have A3 := Aside0.mk A30
  clear A30
  replace H := Option.bind_eq_some_iff.mp H
  obtain ⟨t370, A40, H⟩ := H
  replace H : (careenlaw06_FrameBoth.l0 k t369 t370 0) = some true := H
  have A4 := Aside0.mk A40
  clear A40
  have H' := Aside0.mk H
  clear H
  go_enter Try.func10, Try.ntmps10
  go_wp2_with (first | ((with_reducible refine gate_callee (f := 11) rfl ?_); refine goesL_ (some 12) rfl rfl Try.func11 (by kernel_rfl) rfl #[] rfl (by (try simp only [List.map_toArray, List.map_cons, List.map_nil]); first | done | rfl | (simp only [List.length_drop, List.length_take]; rfl)) ?_; (with_reducible refine (careenlaw06_awake.calls k  t369 _ A3.out).mono ?_); rintro e w5 ⟨rfl, hb⟩; refine ⟨_, rfl, ?_⟩; have n0_ := Aside0.mk (below_step (by repeat (first | (with_reducible first | exact HB.out | apply below_alloc | apply pw_below_drewN | apply below_drew1) | exact HB.out)) hb); clear HB; have HB := n0_; clear n0_; (try clear hb); (try clear hb2); (try clear hk); (try clear hi)) | ((with_reducible refine gate_callee (f := 16) rfl ?_); refine goesL_ (some 15) rfl rfl Try.func16 (by kernel_rfl) rfl #[.int .i64 1, .slice A0 l0.length c0, .slice A1 l1.length c1] rfl (by (try simp only [List.map_toArray, List.map_cons, List.map_nil]); first | done | rfl | (simp only [List.length_drop, List.length_take]; rfl)) ?_; (with_reducible refine (careenlaw06_Frames.calls k 1 _ _ l0 _ _ l1 t370 _ ?side1 ?side2 ?side3 ?side4 A4.out).mono ?_); (case side1 => repeat (first | exact (Kd.C_below HR0.out HB.out) | (with_reducible refine Kd.C_alloc ?_ _) | (with_reducible refine Kd.C_drewN ?_ _) | (with_reducible refine Kd.C_drew ?_))); (case side2 => exact HC0.out); (case side3 => repeat (first | exact (Kd.C_below HR1.out HB.out) | (with_reducible refine Kd.C_alloc ?_ _) | (with_reducible refine Kd.C_drewN ?_ _) | (with_reducible refine Kd.C_drew ?_))); (case side4 => exact HC1.out); rintro e w6 ⟨v371, rfl, ho0, hb⟩; refine ⟨_, rfl, ?_⟩; have n0_ := Aside0.mk (Kd.R_lower ho0 (below_size (by repeat (first | (with_reducible first | exact HB.out | apply below_alloc | apply pw_below_drewN | apply below_drew1) | exact HB.out)))); have n1_ := Aside0.mk (below_step (by repeat (first | (with_reducible first | exact HB.out | apply below_alloc | apply pw_below_drewN | apply below_drew1) | exact HB.out)) hb); clear HB; have HO372 := n0_; have HB := n1_; clear n0_ n1_; (try clear hb); (try clear hb2); (try clear hk); (try clear hi); (try clear ho0)))
  go_loopg [7] k (fun kq v7 w' => ∃ (x7_1 : Int), v7 = .int .i64 x7_1 ∧ Aside0 (careenlaw06_FrameBoth.l0 kq t369 t370 x7_1 = some true) ∧ Aside0 (kq ≤ k) ∧ Aside0 (Kd.R k23 23 w' w.heap.size (fun _ => True) v371 t370) ∧ Aside0 (Below w.heap.size w w'))
  case atStart => exact ⟨(0), (by first | rfl | (simp; done) | (simp [*]; done)), H', ⟨Nat.le_refl _⟩, ⟨by (with_reducible repeat (first | apply Kd.R_alloc | apply Kd.R_drewN | apply Kd.R_drew)); exact HO372.out⟩, ⟨by repeat (first | (with_reducible first | exact HB.out | apply below_alloc | apply pw_below_drewN | apply below_drew1) | exact HB.out)⟩⟩
  case round =>
    clear H'
    try clear c1
    try clear p2
    obtain ⟨x7_1, rfl, HA, HK1, HO_6, HB⟩ := hrel
    cases gk with
    | zero => cases (show (none : Option _) = some _ from HA.out)
    | succ k1 =>
      have H := HA.out
      clear HA
      simp only [careenlaw06_FrameBoth.l0] at H
      by_cases c7 : x7_1 < (t370.length : Int)
      · rw [if_pos c7] at H
        have c7b0 : decide (x7_1 < (t370.length : Int)) = true := decide_eq_true c7
        clear c7
        by_cases c8 : 0 ≤ x7_1
        · rw [if_pos c8] at H
          have c8b0 : decide (0 ≤ x7_1) = true := decide_eq_true c8
          clear c8
          replace H := Option.bind_eq_some_iff.mp H
          obtain ⟨⟨t374, t375⟩, A90, H⟩ := H
          replace H : ((frame_Encode.f 2 ((rd_T23 t370 x7_1).f0) ((rd_T23 t370 x7_1).f1) ((rd_T23 t370 x7_1).f2)).bind fun bt377 => (if t375 = 0 then (if bt377.2 = 0 then ((frame_Right.f 2 ((rd_T23 t370 x7_1).f0) ((rd_T23 t370 x7_1).f1) ((rd_T23 t370 x7_1).f2)).bind fun t380 => (if t380 = true then (if (bt377.1.size : Int) > (wrap64 ((t374.size : Int) + 1)) then (some false) else (if (t374.size : Int) = (wrap64 ((((rd_T23 t370 x7_1).f2).size : Int) + 8)) then (careenlaw06_FrameBoth.l0 k1 t369 t370 (wrap64 (x7_1 + 1))) else (some false))) else (some false))) else (some false)) else (some false))) = some true := H
          have A9 := Aside0.mk A90
          clear A90
          replace H := Option.bind_eq_some_iff.mp H
          obtain ⟨⟨t377, t378⟩, A100, H⟩ := H
          replace H : (if t375 = 0 then (if t378 = 0 then ((frame_Right.f 2 ((rd_T23 t370 x7_1).f0) ((rd_T23 t370 x7_1).f1) ((rd_T23 t370 x7_1).f2)).bind fun t380 => (if t380 = true then (if (t377.size : Int) > (wrap64 ((t374.size : Int) + 1)) then (some false) else (if (t374.size : Int) = (wrap64 ((((rd_T23 t370 x7_1).f2).size : Int) + 8)) then (careenlaw06_FrameBoth.l0 k1 t369 t370 (wrap64 (x7_1 + 1))) else (some false))) else (some false))) else (some false)) else (some false)) = some true := H
          have A10 := Aside0.mk A100
          clear A100
          by_cases c11 : t375 = 0
          · rw [if_pos c11] at H
            have c11b0 : (t375 == 0) = true := beq_iff_eq.mpr c11
            have c11b1 : (t375 != 0) = false := bne_eq_false_iff_eq.mpr c11
            clear c11
            by_cases c12 : t378 = 0
            · rw [if_pos c12] at H
              have c12b0 : (t378 == 0) = true := beq_iff_eq.mpr c12
              have c12b1 : (t378 != 0) = false := bne_eq_false_iff_eq.mpr c12
              clear c12
              replace H := Option.bind_eq_some_iff.mp H
              obtain ⟨t380, A130, H⟩ := H
              replace H : (if t380 = true then (if (t377.size : Int) > (wrap64 ((t374.size : Int) + 1)) then (some false) else (if (t374.size : Int) = (wrap64 ((((rd_T23 t370 x7_1).f2).size : Int) + 8)) then (careenlaw06_FrameBoth.l0 k1 t369 t370 (wrap64 (x7_1 + 1))) else (some false))) else (some false)) = some true := H
              have A13 := Aside0.mk A130
              clear A130
              by_cases c14 : t380 = true
              · subst c14
                have H1 : (if (t377.size : Int) > (wrap64 ((t374.size : Int) + 1)) then (some false) else (if (t374.size : Int) = (wrap64 ((((rd_T23 t370 x7_1).f2).size : Int) + 8)) then (careenlaw06_FrameBoth.l0 k1 t369 t370 (wrap64 (x7_1 + 1))) else (some false))) = some true := by rw [if_pos rfl] at H; exact H
                clear H
                have H := H1
                clear H1
                by_cases c15 : (t377.size : Int) > (wrap64 ((t374.size : Int) + 1))
                · rw [if_pos c15] at H
                  have c15b0 : decide ((wrap64 ((t374.size : Int) + 1)) < (t377.size : Int)) = true := decide_eq_true c15
                  clear c15
                  exact absurd H (by simp)
                · rw [if_neg c15] at H
                  have c15b0 : decide ((wrap64 ((t374.size : Int) + 1)) < (t377.size : Int)) = false := decide_eq_false c15
                  clear c15
                  by_cases c16 : (t374.size : Int) = (wrap64 ((((rd_T23 t370 x7_1).f2).size : Int) + 8))
                  · rw [if_pos c16] at H
                    have c16b0 : ((t374.size : Int) == (wrap64 ((((rd_T23 t370 x7_1).f2).size : Int) + 8))) = true := beq_iff_eq.mpr c16
                    have c16b1 : ((t374.size : Int) != (wrap64 ((((rd_T23 t370 x7_1).f2).size : Int) + 8))) = false := bne_eq_false_iff_eq.mpr c16
                    clear c16
                    have H' := Aside0.mk H
                    clear H
                    obtain ⟨Ao17, co17, eo17⟩ := Kd.R_slice HO_6.out
                    subst eo17
                    have p373 : 0 ≤ (x7_1 : Int) := of_decide_eq_true (by first | (with_reducible assumption) | assumption)
                    have q373 : x7_1 < (t370.length : Int) := of_decide_eq_true (by first | (with_reducible assumption) | assumption)
                    obtain ⟨ad373, e373, hx373_0, hx373_1, hx373_2⟩ := at_T23 (Kd.R_reads' HO_6.out).2.2 x7_1 p373 q373
                    cases e373
                    replace p373 := eq_true p373
                    replace q373 := eq_true q373
                    go_wp2_with (first | ((with_reducible refine gate_callee (f := 12) rfl ?_); refine goesL_ (some 27) rfl rfl Try.func12 (by kernel_rfl) rfl #[.int .i64 1, .agg #[.int .i64 ((rd_T23 t370 x7_1).f0), .int .i64 ((rd_T23 t370 x7_1).f1), .string ((rd_T23 t370 x7_1).f2)]] rfl (by (try simp only [List.map_toArray, List.map_cons, List.map_nil]); first | done | rfl | (simp only [List.length_drop, List.length_take]; rfl)) ?_; (with_reducible refine (frame_Encode.calls 1 ((rd_T23 t370 x7_1).f0) ((rd_T23 t370 x7_1).f1) ((rd_T23 t370 x7_1).f2) t374 t375 _ A9.out).mono ?_); rintro e w18 ⟨rfl, hb⟩; refine ⟨_, rfl, ?_⟩; have n0_ := Aside0.mk (Kd.R_below (by (with_reducible repeat (first | apply Kd.R_alloc | apply Kd.R_drewN | apply Kd.R_drew)); exact HO_6.out) hb); have n1_ := Aside0.mk (below_step (by repeat (first | (with_reducible first | exact HB.out | apply below_alloc | apply pw_below_drewN | apply below_drew1) | exact HB.out)) hb); clear HO_6; clear HB; have HO_6 := n0_; have HB := n1_; clear n0_ n1_; (try clear hb); (try clear hb2); (try clear hk); (try clear hi); have p376 : 0 ≤ (x7_1 : Int) := of_decide_eq_true (by first | (with_reducible assumption) | assumption); have q376 : x7_1 < (t370.length : Int) := of_decide_eq_true (by first | (with_reducible assumption) | assumption); obtain ⟨ad376, e376, hx376_0, hx376_1, hx376_2⟩ := at_T23 (Kd.R_reads' HO_6.out).2.2 x7_1 p376 q376; obtain rfl : ad373 = ad376 := (by injection e376); replace p376 := eq_true p376; replace q376 := eq_true q376) | ((with_reducible refine gate_callee (f := 12) rfl ?_); refine goesL_ (some 35) rfl rfl Try.func12 (by kernel_rfl) rfl #[.int .i64 2, .agg #[.int .i64 ((rd_T23 t370 x7_1).f0), .int .i64 ((rd_T23 t370 x7_1).f1), .string ((rd_T23 t370 x7_1).f2)]] rfl (by (try simp only [List.map_toArray, List.map_cons, List.map_nil]); first | done | rfl | (simp only [List.length_drop, List.length_take]; rfl)) ?_; (with_reducible refine (frame_Encode.calls 2 ((rd_T23 t370 x7_1).f0) ((rd_T23 t370 x7_1).f1) ((rd_T23 t370 x7_1).f2) t377 t378 _ A10.out).mono ?_); rintro e w19 ⟨rfl, hb⟩; refine ⟨_, rfl, ?_⟩; have n0_ := Aside0.mk (Kd.R_below (by (with_reducible repeat (first | apply Kd.R_alloc | apply Kd.R_drewN | apply Kd.R_drew)); exact HO_6.out) hb); have n1_ := Aside0.mk (below_step (by repeat (first | (with_reducible first | exact HB.out | apply below_alloc | apply pw_below_drewN | apply below_drew1) | exact HB.out)) hb); clear HO_6; clear HB; have HO_6 := n0_; have HB := n1_; clear n0_ n1_; (try clear hb); (try clear hb2); (try clear hk); (try clear hi); have p379 : 0 ≤ (x7_1 : Int) := of_decide_eq_true (by first | (with_reducible assumption) | assumption); have q379 : x7_1 < (t370.length : Int) := of_decide_eq_true (by first | (with_reducible assumption) | assumption); obtain ⟨ad379, e379, hx379_0, hx379_1, hx379_2⟩ := at_T23 (Kd.R_reads' HO_6.out).2.2 x7_1 p379 q379; obtain rfl : ad373 = ad379 := (by injection e379); replace p379 := eq_true p379; replace q379 := eq_true q379) | (go_at_call 14; (with_reducible refine (frame_Right.calls 2 ((rd_T23 t370 x7_1).f0) ((rd_T23 t370 x7_1).f1) ((rd_T23 t370 x7_1).f2) true _ A13.out).mono ?_); rintro e w20 ⟨rfl, hb⟩; have n0_ := Aside0.mk (Kd.R_below (by (with_reducible repeat (first | apply Kd.R_alloc | apply Kd.R_drewN | apply Kd.R_drew)); exact HO_6.out) hb); have n1_ := Aside0.mk (below_step (by repeat (first | (with_reducible first | exact HB.out | apply below_alloc | apply pw_below_drewN | apply below_drew1) | exact HB.out)) hb); clear HO_6; clear HB; have HO_6 := n0_; have HB := n1_; clear n0_ n1_; (try clear hb); (try clear hb2); (try clear hk); (try clear hi); have p381 : 0 ≤ (x7_1 : Int) := of_decide_eq_true (by first | (with_reducible assumption) | assumption); have q381 : x7_1 < (t370.length : Int) := of_decide_eq_true (by first | (with_reducible assumption) | assumption); obtain ⟨ad381, e381, hx381_0, hx381_1, hx381_2⟩ := at_T23 (Kd.R_reads' HO_6.out).2.2 x7_1 p381 q381; obtain rfl : ad373 = ad381 := (by injection e381); replace p381 := eq_true p381; replace q381 := eq_true q381))
                    go_roundg k1
                    case measure => have := HK1.out; omega
                    case rel => exact ⟨(wrap64 (x7_1 + 1)), (by first | rfl | (simp; done) | (simp [*]; done)), H', ⟨by have := HK1.out; omega⟩, ⟨by (with_reducible repeat (first | apply Kd.R_alloc | apply Kd.R_drewN | apply Kd.R_drew)); exact HO_6.out⟩, ⟨by repeat (first | (with_reducible first | exact HB.out | apply below_alloc | apply pw_below_drewN | apply below_drew1) | exact HB.out)⟩⟩
                  · rw [if_neg c16] at H
                    have c16b0 : ((t374.size : Int) == (wrap64 ((((rd_T23 t370 x7_1).f2).size : Int) + 8))) = false := beq_eq_false_iff_ne.mpr c16
                    have c16b1 : ((t374.size : Int) != (wrap64 ((((rd_T23 t370 x7_1).f2).size : Int) + 8))) = true := bne_iff_ne.mpr c16
                    exact absurd H (by simp)
              · replace c14 := Bool.eq_false_iff.mpr c14
                subst c14
                have H1 : (some false) = some true := by rw [if_neg (show ¬ (false = true) by decide)] at H; exact H
                clear H
                have H := H1
                clear H1
                exact absurd H (by simp)
            · rw [if_neg c12] at H
              have c12b0 : (t378 == 0) = false := beq_eq_false_iff_ne.mpr c12
              have c12b1 : (t378 != 0) = true := bne_iff_ne.mpr c12
              exact absurd H (by simp)
          · rw [if_neg c11] at H
            have c11b0 : (t375 == 0) = false := beq_eq_false_iff_ne.mpr c11
            have c11b1 : (t375 != 0) = true := bne_iff_ne.mpr c11
            exact absurd H (by simp)
        · rw [if_neg c8] at H
          exact absurd H (by simp)
      · rw [if_neg c7] at H
        have c7b0 : decide (x7_1 < (t370.length : Int)) = false := decide_eq_false c7
        clear c7
        have HV_ := Aside0.mk (Option.some.inj H)
        clear H
        obtain ⟨Ao21, co21, eo21⟩ := Kd.R_slice HO_6.out
        subst eo21
        go_wp2
        go_ret
        exact ⟨by first | exact congrArg (fun b_ => Ending.returned (Value.bool b_)) HV_.out | (have hv_ := HV_.out; simp only [Bool.and_eq_true, beq_iff_eq] at hv_; simp [hv_]; done) | (have hv_ := HV_.out; simp at hv_; simp [*]; done) | rfl | (simp [errW_none, errW_some] <;> rfl) | (simp [*, errW_none, errW_some] <;> rfl), by repeat (first | (with_reducible first | exact HB.out | apply below_alloc | apply pw_below_drewN | apply below_drew1) | exact HB.out)⟩

/-- THE ONE PURE STATEMENT of careenlaw06_FrameBoth. -/
def careenlaw06_FrameBoth.Pure : Prop := ∀ (l0 : List (S57)) (l1 : List ByteArray), l0.length * 24 ≤ 140737488351232 → (∀ x ∈ l0, (Lit.int .i64 x.f0).wf = true ∧ (Lit.int .i64 x.f1).wf = true ∧ (Lit.int .i64 x.f2).wf = true) → l1.length * 16 ≤ 140737488351232 → (∀ x ∈ l1, x.size ≤ 9223372036854775807) → ∃ k, careenlaw06_FrameBoth.f k l0 l1 = some true

end Go.Proofs.Ytmicfaeloanffaa.PAll
