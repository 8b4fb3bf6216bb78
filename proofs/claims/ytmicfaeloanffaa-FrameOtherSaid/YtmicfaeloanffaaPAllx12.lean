-- Written by a program of this session (wip/xpatch.py, wip/xprint.sh) for seat Ytmicfaeloanffaa.
import Derived.Test.YtmicfaeloanffaaPAllx0
import Derived.Test.YtmicfaeloanffaaPAllx5
import Derived.Test.YtmicfaeloanffaaPAllx7
import Derived.Test.YtmicfaeloanffaaPFrx
import Derived.Test.YtmicfaeloanffaaPAllx9
import Derived.Test.YtmicfaeloanffaaPAllx11
namespace Go.Proofs.Ytmicfaeloanffaa.PAll
attribute [local go_sem high] Go.Proofs.Ytmicfaeloanffaa.Hand.unary_xor_u32
open Go.RowKit Go.Proofs.YtmicfaeloanffaaW.PrintWords Go.Proofs.YtmicfaeloanffaaW.PrintLast Go.Proofs.YtmicfaeloanffaaW.PrintMore
attribute [local go_sem] max2_int min2_int max_two min_two max_three min_three max_four min_four   -- for this text's walks alone
set_option linter.unusedVariables false
set_option linter.unusedSimpArgs false

/-! ### careenlaw06_FrameOther: function 7 -/
def careenlaw06_FrameOther.l0 : Nat → List (S57) → List ByteArray → Bool → Int → Option (Bool)
  | 0, _, _, _, _ => none
  | k + 1, x0, x1, x5, x6 => if x6 ≤ 2 then ((careenlaw06_Frames.f k x6 x0 x1).bind fun t315 => ((careenlaw06_bytes.f k x6 t315).bind fun bt318 => ((frame_Scan.f k (wrap64 (3 - x6)) bt318.1).bind fun bt320 => (if bt318.2 = true then (if (bt320.1.length : Int) > 0 then (some false) else (if bt320.2.1 = 0 then (if ((bt320.2.2 == 22) != (bt318.1.toList != ([] : List UInt8))) = true then (some false) else (if bt318.1.toList = ([] : List UInt8) then (if bt320.2.2 = 0 then (careenlaw06_FrameOther.l0 k x0 x1 x5 (wrap64 (x6 + 1))) else (some false)) else (careenlaw06_FrameOther.l0 k x0 x1 x5 (wrap64 (x6 + 1))))) else (some false))) else (some false))))) else (some x5)
def careenlaw06_FrameOther.f (k : Nat) (l0 : List (S57)) (l1 : List ByteArray) : Option (Bool) := (careenlaw06_awake.f k).bind fun t314 => (careenlaw06_FrameOther.l0 k l0 l1 t314 1)
theorem careenlaw06_FrameOther.mono_l : ∀ k, (∀ y0 y1 y2 y3, LeO (careenlaw06_FrameOther.l0 k y0 y1 y2 y3) (careenlaw06_FrameOther.l0 (k + 1) y0 y1 y2 y3))
  | 0 => (fun _ _ _ _ r h => by cases (show (none : Option _) = some r from h))
  | k + 1 => by
    have ih0 := careenlaw06_FrameOther.mono_l k
    · intro y0 y1 y2 y3
      unfold careenlaw06_FrameOther.l0
      repeat' first
      | (with_reducible exact ih0 _ _ _ _)
      | (with_reducible exact careenlaw06_Frames.mono _ _ _ _)
      | (with_reducible exact careenlaw06_awake.mono _)
      | (with_reducible exact careenlaw06_bytes.mono _ _ _)
      | (with_reducible exact frame_Scan.mono _ _ _)
      | (with_reducible exact LeO.refl _)
      | (with_reducible exact LeO.none _)
      | (with_reducible refine LeO.ite ?_ ?_)
      | (with_reducible refine LeO.bind ?_ (fun _ => ?_))
      | exact ih0 _ _ _ _
      | exact careenlaw06_Frames.mono _ _ _ _
      | exact careenlaw06_awake.mono _
      | exact careenlaw06_bytes.mono _ _ _
      | exact frame_Scan.mono _ _ _
      | exact LeO.none _
      | refine LeO.ite ?_ ?_
      | refine LeO.bind ?_ (fun _ => ?_)
theorem careenlaw06_FrameOther.mono : ∀ a0 a1 k, LeO (careenlaw06_FrameOther.f k a0 a1) (careenlaw06_FrameOther.f (k + 1) a0 a1) := by
  intro a0 a1 k
  have ih0 := careenlaw06_FrameOther.mono_l k
  unfold careenlaw06_FrameOther.f
  repeat' first
      | (with_reducible exact ih0 _ _ _ _)
      | (with_reducible exact careenlaw06_Frames.mono _ _ _ _)
      | (with_reducible exact careenlaw06_awake.mono _)
      | (with_reducible exact careenlaw06_bytes.mono _ _ _)
      | (with_reducible exact frame_Scan.mono _ _ _)
      | (with_reducible exact LeO.refl _)
      | (with_reducible exact LeO.none _)
      | (with_reducible refine LeO.ite ?_ ?_)
      | (with_reducible refine LeO.bind ?_ (fun _ => ?_))
      | exact ih0 _ _ _ _
      | exact careenlaw06_Frames.mono _ _ _ _
      | exact careenlaw06_awake.mono _
      | exact careenlaw06_bytes.mono _ _ _
      | exact frame_Scan.mono _ _ _
      | exact LeO.none _
      | refine LeO.ite ?_ ?_
      | refine LeO.bind ?_ (fun _ => ?_)
set_option maxHeartbeats 8000000 in
set_option maxRecDepth 100000 in
theorem careenlaw06_FrameOther.calls (k : Nat) (A0 : Option Addr) (c0 : Nat) (l0 : List (S57)) (A1 : Option Addr) (c1 : Nat) (l1 : List ByteArray) (w : World) (hr0 : Kd.C k57 w A0 l0.length l0) (hc0 : l0.length ≤ c0) (hr1 : Kd.C Kd.string w A1 l1.length l1) (hc1 : l1.length ≤ c1) (h : careenlaw06_FrameOther.f k l0 l1 = some true) :
    Calls Try.prog 7 #[.slice A0 l0.length c0, .slice A1 l1.length c1] w fun e w' => e = .returned (.bool true) ∧ Below w.heap.size w w' := by
  have HR0 := Aside0.mk hr0
  have HC0 := Aside0.mk hc0
  clear hr0 hc0
  have HR1 := Aside0.mk hr1
  have HC1 := Aside0.mk hc1
  clear hr1 hc1
  have HB := Aside0.mk (Below.refl w.heap.size w)
  have H : ((careenlaw06_awake.f k).bind fun t314 => (careenlaw06_FrameOther.l0 k l0 l1 t314 1)) = some true := h
  clear h
  replace H := Option.bind_eq_some_iff.mp H
  obtain ⟨t314, A30, H⟩ := H
  replace H : (careenlaw06_FrameOther.l0 k l0 l1 t314 1) = some true := H
  have A3 := Aside0.mk A30
  clear A30
  have H' := Aside0.mk H
  clear H
  go_enter Try.func7, Try.ntmps7
  go_wp2_with (first | ((with_reducible refine gate_callee (f := 11) rfl ?_); refine goesL_ (some 12) rfl rfl Try.func11 (by kernel_rfl) rfl #[] rfl (by (try simp only [List.map_toArray, List.map_cons, List.map_nil]); first | done | rfl | (simp only [List.length_drop, List.length_take]; rfl)) ?_; (with_reducible refine (careenlaw06_awake.calls k  t314 _ A3.out).mono ?_); rintro e w4 ⟨rfl, hb⟩; refine ⟨_, rfl, ?_⟩; have n0_ := Aside0.mk (below_step (by repeat (first | (with_reducible first | exact HB.out | apply below_alloc | apply pw_below_drewN | apply below_drew1) | exact HB.out)) hb); clear HB; have HB := n0_; clear n0_; (try clear hb); (try clear hb2); (try clear hk); (try clear hi)))
  go_loopg [6] k (fun kq v6 w' => ∃ (x6_1 : Int), v6 = .int .i64 x6_1 ∧ Aside0 (careenlaw06_FrameOther.l0 kq l0 l1 t314 x6_1 = some true) ∧ Aside0 (kq ≤ k) ∧ Aside0 (Below w.heap.size w w'))
  case atStart => exact ⟨(1), (by first | rfl | (simp; done) | (simp [*]; done)), H', ⟨Nat.le_refl _⟩, ⟨by repeat (first | (with_reducible first | exact HB.out | apply below_alloc | apply pw_below_drewN | apply below_drew1) | exact HB.out)⟩⟩
  case round =>
    clear H'
    try clear c1
    try clear p2
    obtain ⟨x6_1, rfl, HA, HK1, HB⟩ := hrel
    cases gk with
    | zero => cases (show (none : Option _) = some _ from HA.out)
    | succ k1 =>
      have H := HA.out
      clear HA
      simp only [careenlaw06_FrameOther.l0] at H
      by_cases c5 : x6_1 ≤ 2
      · rw [if_pos c5] at H
        have c5b0 : decide (x6_1 ≤ 2) = true := decide_eq_true c5
        clear c5
        replace H := Option.bind_eq_some_iff.mp H
        obtain ⟨t315, A60, H⟩ := H
        replace H : ((careenlaw06_bytes.f k1 x6_1 t315).bind fun bt318 => ((frame_Scan.f k1 (wrap64 (3 - x6_1)) bt318.1).bind fun bt320 => (if bt318.2 = true then (if (bt320.1.length : Int) > 0 then (some false) else (if bt320.2.1 = 0 then (if ((bt320.2.2 == 22) != (bt318.1.toList != ([] : List UInt8))) = true then (some false) else (if bt318.1.toList = ([] : List UInt8) then (if bt320.2.2 = 0 then (careenlaw06_FrameOther.l0 k1 l0 l1 t314 (wrap64 (x6_1 + 1))) else (some false)) else (careenlaw06_FrameOther.l0 k1 l0 l1 t314 (wrap64 (x6_1 + 1))))) else (some false))) else (some false)))) = some true := H
        have A6 := Aside0.mk A60
        clear A60
        replace H := Option.bind_eq_some_iff.mp H
        obtain ⟨⟨t318, t319⟩, A70, H⟩ := H
        replace H : ((frame_Scan.f k1 (wrap64 (3 - x6_1)) t318).bind fun bt320 => (if t319 = true then (if (bt320.1.length : Int) > 0 then (some false) else (if bt320.2.1 = 0 then (if ((bt320.2.2 == 22) != (t318.toList != ([] : List UInt8))) = true then (some false) else (if t318.toList = ([] : List UInt8) then (if bt320.2.2 = 0 then (careenlaw06_FrameOther.l0 k1 l0 l1 t314 (wrap64 (x6_1 + 1))) else (some false)) else (careenlaw06_FrameOther.l0 k1 l0 l1 t314 (wrap64 (x6_1 + 1))))) else (some false))) else (some false))) = some true := H
        have A7 := Aside0.mk A70
        clear A70
        replace H := Option.bind_eq_some_iff.mp H
        obtain ⟨⟨t320, t321, t322⟩, A80, H⟩ := H
        replace H : (if t319 = true then (if (t320.length : Int) > 0 then (some false) else (if t321 = 0 then (if ((t322 == 22) != (t318.toList != ([] : List UInt8))) = true then (some false) else (if t318.toList = ([] : List UInt8) then (if t322 = 0 then (careenlaw06_FrameOther.l0 k1 l0 l1 t314 (wrap64 (x6_1 + 1))) else (some false)) else (careenlaw06_FrameOther.l0 k1 l0 l1 t314 (wrap64 (x6_1 + 1))))) else (some false))) else (some false)) = some true := H
        have A8 := Aside0.mk A80
        clear A80
        by_cases c9 : t319 = true
        · subst c9
          have H1 : (if (t320.length : Int) > 0 then (some false) else (if t321 = 0 then (if ((t322 == 22) != (t318.toList != ([] : List UInt8))) = true then (some false) else (if t318.toList = ([] : List UInt8) then (if t322 = 0 then (careenlaw06_FrameOther.l0 k1 l0 l1 t314 (wrap64 (x6_1 + 1))) else (some false)) else (careenlaw06_FrameOther.l0 k1 l0 l1 t314 (wrap64 (x6_1 + 1))))) else (some false))) = some true := by rw [if_pos rfl] at H; exact H
          clear H
          have H := H1
          clear H1
          by_cases c10 : (t320.length : Int) > 0
          · rw [if_pos c10] at H
            have c10b0 : decide (0 < (t320.length : Int)) = true := decide_eq_true c10
            have c10b1 : decide (0 < t320.length) = true := decide_eq_true (by omega)
            clear c10
            exact absurd H (by simp)
          · rw [if_neg c10] at H
            have c10b0 : decide (0 < (t320.length : Int)) = false := decide_eq_false c10
            have c10b1 : decide (0 < t320.length) = false := decide_eq_false (by omega)
            clear c10
            by_cases c11 : t321 = 0
            · rw [if_pos c11] at H
              have c11b0 : (t321 == 0) = true := beq_iff_eq.mpr c11
              have c11b1 : (t321 != 0) = false := bne_eq_false_iff_eq.mpr c11
              clear c11
              by_cases c12 : ((t322 == 22) != (t318.toList != ([] : List UInt8))) = true
              · rw [if_pos c12] at H
                have c12b0 : ((t322 == 22) != (t318.toList != ([] : List UInt8))) = true := c12
                (try (have c12b1 : decide ((t322 == 22) = (t318.toList != ([] : List UInt8))) = false := by simpa using c12))
                (try (have c12b2 : ((t322 == 22) == (t318.toList != ([] : List UInt8))) = false := by simpa using c12))
                (try (have c12b3 : ¬ ((t322 == 22) = (t318.toList != ([] : List UInt8))) := by simpa using c12))
                clear c12
                exact absurd H (by simp)
              · rw [if_neg c12] at H
                have c12b0 : ((t322 == 22) != (t318.toList != ([] : List UInt8))) = false := by simpa using c12
                (try (have c12b1 : decide ((t322 == 22) = (t318.toList != ([] : List UInt8))) = true := by simpa using c12))
                (try (have c12b2 : ((t322 == 22) == (t318.toList != ([] : List UInt8))) = true := by simpa using c12))
                clear c12
                by_cases c13 : t318.toList = ([] : List UInt8)
                · rw [if_pos c13] at H
                  have c13b0 : (t318.toList == ([] : List UInt8)) = true := beq_iff_eq.mpr c13
                  have c13b1 : (t318.toList != ([] : List UInt8)) = false := bne_eq_false_iff_eq.mpr c13
                  clear c13
                  by_cases c14 : t322 = 0
                  · rw [if_pos c14] at H
                    have c14b0 : (t322 == 0) = true := beq_iff_eq.mpr c14
                    have c14b1 : (t322 != 0) = false := bne_eq_false_iff_eq.mpr c14
                    subst c14
                    have H' := Aside0.mk H
                    clear H
                    go_wp2_with (first | ((with_reducible refine gate_callee (f := 16) rfl ?_); refine goesL_ (some 22) rfl rfl Try.func16 (by kernel_rfl) rfl #[.int .i64 x6_1, .slice A0 l0.length c0, .slice A1 l1.length c1] rfl (by (try simp only [List.map_toArray, List.map_cons, List.map_nil]); first | done | rfl | (simp only [List.length_drop, List.length_take]; rfl)) ?_; (with_reducible refine (careenlaw06_Frames.calls k1 x6_1 _ _ l0 _ _ l1 t315 _ ?side1 ?side2 ?side3 ?side4 A6.out).mono ?_); (case side1 => repeat (first | exact (Kd.C_below HR0.out HB.out) | (with_reducible refine Kd.C_alloc ?_ _) | (with_reducible refine Kd.C_drewN ?_ _) | (with_reducible refine Kd.C_drew ?_))); (case side2 => exact HC0.out); (case side3 => repeat (first | exact (Kd.C_below HR1.out HB.out) | (with_reducible refine Kd.C_alloc ?_ _) | (with_reducible refine Kd.C_drewN ?_ _) | (with_reducible refine Kd.C_drew ?_))); (case side4 => exact HC1.out); rintro e w15 ⟨v316, rfl, ho0, hb⟩; refine ⟨_, rfl, ?_⟩; have n0_ := Aside0.mk (Kd.R_lower ho0 (below_size (by repeat (first | (with_reducible first | exact HB.out | apply below_alloc | apply pw_below_drewN | apply below_drew1) | exact HB.out)))); have n1_ := Aside0.mk (below_step (by repeat (first | (with_reducible first | exact HB.out | apply below_alloc | apply pw_below_drewN | apply below_drew1) | exact HB.out)) hb); clear HB; have HO317 := n0_; have HB := n1_; clear n0_ n1_; (try clear hb); (try clear hb2); (try clear hk); (try clear hi); (try clear ho0); obtain ⟨Ao16, co16, eo16⟩ := Kd.R_slice HO317.out; subst eo16) | ((with_reducible refine gate_callee (f := 21) rfl ?_); refine goesL_ (some 23) rfl rfl Try.func21 (by kernel_rfl) rfl #[.int .i64 x6_1, .slice Ao16 t315.length co16] rfl (by (try simp only [List.map_toArray, List.map_cons, List.map_nil]); first | done | rfl | (simp only [List.length_drop, List.length_take]; rfl)) ?_; (with_reducible refine (careenlaw06_bytes.calls k1 x6_1 _ _ t315 t318 true _ ?side1 ?side2 A7.out).mono ?_); (case side1 => repeat (first | exact (Kd.R_reads' HO317.out).2.2 | (with_reducible refine Kd.C_alloc ?_ _) | (with_reducible refine Kd.C_drewN ?_ _) | (with_reducible refine Kd.C_drew ?_))); (case side2 => exact (Kd.R_reads' HO317.out).2.1); rintro e w17 ⟨rfl, hb⟩; refine ⟨_, rfl, ?_⟩; have n0_ := Aside0.mk (Kd.R_below (by (with_reducible repeat (first | apply Kd.R_alloc | apply Kd.R_drewN | apply Kd.R_drew)); exact HO317.out) hb); have n1_ := Aside0.mk (below_step (by repeat (first | (with_reducible first | exact HB.out | apply below_alloc | apply pw_below_drewN | apply below_drew1) | exact HB.out)) hb); clear HO317; clear HB; have HO317 := n0_; have HB := n1_; clear n0_ n1_; (try clear hb); (try clear hb2); (try clear hk); (try clear hi)) | ((with_reducible refine gate_callee (f := 18) rfl ?_); refine goesL_ (some 30) rfl rfl Try.func18 (by kernel_rfl) rfl #[.int .i64 (wrap64 (3 - x6_1)), .string t318] rfl (by (try simp only [List.map_toArray, List.map_cons, List.map_nil]); first | done | rfl | (simp only [List.length_drop, List.length_take]; rfl)) ?_; (with_reducible refine (frame_Scan.calls k1 (wrap64 (3 - x6_1)) t318 t320 t321 0 _ A8.out).mono ?_); rintro e w18 ⟨v323, rfl, ho0, hb⟩; refine ⟨_, rfl, ?_⟩; have n0_ := Aside0.mk (Kd.R_elder' (by (with_reducible repeat (first | apply Kd.R_alloc | apply Kd.R_drewN | apply Kd.R_drew)); exact HO317.out) (Kd.R_base ho0) hb); have n1_ := Aside0.mk (Kd.R_lower (Kd.R_new' ho0 (Kd.R_lt (by (with_reducible repeat (first | apply Kd.R_alloc | apply Kd.R_drewN | apply Kd.R_drew)); exact HO317.out))) (below_size (by repeat (first | (with_reducible first | exact HB.out | apply below_alloc | apply pw_below_drewN | apply below_drew1) | exact HB.out)))); have n2_ := Aside0.mk (below_step (by repeat (first | (with_reducible first | exact HB.out | apply below_alloc | apply pw_below_drewN | apply below_drew1) | exact HB.out)) hb); clear HO317; clear HB; have HO317 := n0_; have HO324 := n1_; have HB := n2_; clear n0_ n1_ n2_; (try clear hb); (try clear hb2); (try clear hk); (try clear hi); (try clear ho0); obtain ⟨Ao19, co19, eo19⟩ := Kd.R_slice HO324.out; subst eo19))
                    go_roundg k1
                    case measure => have := HK1.out; omega
                    case rel => exact ⟨(wrap64 (x6_1 + 1)), (by first | rfl | (simp; done) | (simp [*]; done)), H', ⟨by have := HK1.out; omega⟩, ⟨by repeat (first | (with_reducible first | exact HB.out | apply below_alloc | apply pw_below_drewN | apply below_drew1) | exact HB.out)⟩⟩
                  · rw [if_neg c14] at H
                    have c14b0 : (t322 == 0) = false := beq_eq_false_iff_ne.mpr c14
                    have c14b1 : (t322 != 0) = true := bne_iff_ne.mpr c14
                    exact absurd H (by simp)
                · rw [if_neg c13] at H
                  have c22 : t322 = 22 := by have := c12b0; rw [show (t318.toList != ([] : List UInt8)) = true from bne_iff_ne.mpr c13] at this; simpa using this
                  subst c22
                  have c13b0 : (t318.toList == ([] : List UInt8)) = false := beq_eq_false_iff_ne.mpr c13
                  have c13b1 : (t318.toList != ([] : List UInt8)) = true := bne_iff_ne.mpr c13
                  have H' := Aside0.mk H
                  clear H
                  go_wp2_with (first | ((with_reducible refine gate_callee (f := 16) rfl ?_); refine goesL_ (some 22) rfl rfl Try.func16 (by kernel_rfl) rfl #[.int .i64 x6_1, .slice A0 l0.length c0, .slice A1 l1.length c1] rfl (by (try simp only [List.map_toArray, List.map_cons, List.map_nil]); first | done | rfl | (simp only [List.length_drop, List.length_take]; rfl)) ?_; (with_reducible refine (careenlaw06_Frames.calls k1 x6_1 _ _ l0 _ _ l1 t315 _ ?side1 ?side2 ?side3 ?side4 A6.out).mono ?_); (case side1 => repeat (first | exact (Kd.C_below HR0.out HB.out) | (with_reducible refine Kd.C_alloc ?_ _) | (with_reducible refine Kd.C_drewN ?_ _) | (with_reducible refine Kd.C_drew ?_))); (case side2 => exact HC0.out); (case side3 => repeat (first | exact (Kd.C_below HR1.out HB.out) | (with_reducible refine Kd.C_alloc ?_ _) | (with_reducible refine Kd.C_drewN ?_ _) | (with_reducible refine Kd.C_drew ?_))); (case side4 => exact HC1.out); rintro e w20 ⟨v316, rfl, ho0, hb⟩; refine ⟨_, rfl, ?_⟩; have n0_ := Aside0.mk (Kd.R_lower ho0 (below_size (by repeat (first | (with_reducible first | exact HB.out | apply below_alloc | apply pw_below_drewN | apply below_drew1) | exact HB.out)))); have n1_ := Aside0.mk (below_step (by repeat (first | (with_reducible first | exact HB.out | apply below_alloc | apply pw_below_drewN | apply below_drew1) | exact HB.out)) hb); clear HB; have HO317 := n0_; have HB := n1_; clear n0_ n1_; (try clear hb); (try clear hb2); (try clear hk); (try clear hi); (try clear ho0); obtain ⟨Ao21, co21, eo21⟩ := Kd.R_slice HO317.out; subst eo21) | ((with_reducible refine gate_callee (f := 21) rfl ?_); refine goesL_ (some 23) rfl rfl Try.func21 (by kernel_rfl) rfl #[.int .i64 x6_1, .slice Ao21 t315.length co21] rfl (by (try simp only [List.map_toArray, List.map_cons, List.map_nil]); first | done | rfl | (simp only [List.length_drop, List.length_take]; rfl)) ?_; (with_reducible refine (careenlaw06_bytes.calls k1 x6_1 _ _ t315 t318 true _ ?side1 ?side2 A7.out).mono ?_); (case side1 => repeat (first | exact (Kd.R_reads' HO317.out).2.2 | (with_reducible refine Kd.C_alloc ?_ _) | (with_reducible refine Kd.C_drewN ?_ _) | (with_reducible refine Kd.C_drew ?_))); (case side2 => exact (Kd.R_reads' HO317.out).2.1); rintro e w22 ⟨rfl, hb⟩; refine ⟨_, rfl, ?_⟩; have n0_ := Aside0.mk (Kd.R_below (by (with_reducible repeat (first | apply Kd.R_alloc | apply Kd.R_drewN | apply Kd.R_drew)); exact HO317.out) hb); have n1_ := Aside0.mk (below_step (by repeat (first | (with_reducible first | exact HB.out | apply below_alloc | apply pw_below_drewN | apply below_drew1) | exact HB.out)) hb); clear HO317; clear HB; have HO317 := n0_; have HB := n1_; clear n0_ n1_; (try clear hb); (try clear hb2); (try clear hk); (try clear hi)) | ((with_reducible refine gate_callee (f := 18) rfl ?_); refine goesL_ (some 30) rfl rfl Try.func18 (by kernel_rfl) rfl #[.int .i64 (wrap64 (3 - x6_1)), .string t318] rfl (by (try simp only [List.map_toArray, List.map_cons, List.map_nil]); first | done | rfl | (simp only [List.length_drop, List.length_take]; rfl)) ?_; (with_reducible refine (frame_Scan.calls k1 (wrap64 (3 - x6_1)) t318 t320 t321 22 _ A8.out).mono ?_); rintro e w23 ⟨v323, rfl, ho0, hb⟩; refine ⟨_, rfl, ?_⟩; have n0_ := Aside0.mk (Kd.R_elder' (by (with_reducible repeat (first | apply Kd.R_alloc | apply Kd.R_drewN | apply Kd.R_drew)); exact HO317.out) (Kd.R_base ho0) hb); have n1_ := Aside0.mk (Kd.R_lower (Kd.R_new' ho0 (Kd.R_lt (by (with_reducible repeat (first | apply Kd.R_alloc | apply Kd.R_drewN | apply Kd.R_drew)); exact HO317.out))) (below_size (by repeat (first | (with_reducible first | exact HB.out | apply below_alloc | apply pw_below_drewN | apply below_drew1) | exact HB.out)))); have n2_ := Aside0.mk (below_step (by repeat (first | (with_reducible first | exact HB.out | apply below_alloc | apply pw_below_drewN | apply below_drew1) | exact HB.out)) hb); clear HO317; clear HB; have HO317 := n0_; have HO324 := n1_; have HB := n2_; clear n0_ n1_ n2_; (try clear hb); (try clear hb2); (try clear hk); (try clear hi); (try clear ho0); obtain ⟨Ao24, co24, eo24⟩ := Kd.R_slice HO324.out; subst eo24))
                  go_roundg k1
                  case measure => have := HK1.out; omega
                  case rel => exact ⟨(wrap64 (x6_1 + 1)), (by first | rfl | (simp; done) | (simp [*]; done)), H', ⟨by have := HK1.out; omega⟩, ⟨by repeat (first | (with_reducible first | exact HB.out | apply below_alloc | apply pw_below_drewN | apply below_drew1) | exact HB.out)⟩⟩
            · rw [if_neg c11] at H
              have c11b0 : (t321 == 0) = false := beq_eq_false_iff_ne.mpr c11
              have c11b1 : (t321 != 0) = true := bne_iff_ne.mpr c11
              exact absurd H (by simp)
        · replace c9 := Bool.eq_false_iff.mpr c9
          subst c9
          have H1 : (some false) = some true := by rw [if_neg (show ¬ (false = true) by decide)] at H; exact H
          clear H
          have H := H1
          clear H1
          exact absurd H (by simp)
      · rw [if_neg c5] at H
        have c5b0 : decide (x6_1 ≤ 2) = false := decide_eq_false c5
        clear c5
        have HV_ := Aside0.mk (Option.some.inj H)
        clear H
        go_wp2
        go_ret
        exact ⟨by first | exact congrArg (fun b_ => Ending.returned (Value.bool b_)) HV_.out | (have hv_ := HV_.out; simp only [Bool.and_eq_true, beq_iff_eq] at hv_; simp [hv_]; done) | (have hv_ := HV_.out; simp at hv_; simp [*]; done) | rfl | (simp [errW_none, errW_some] <;> rfl) | (simp [*, errW_none, errW_some] <;> rfl), by repeat (first | (with_reducible first | exact HB.out | apply below_alloc | apply pw_below_drewN | apply below_drew1) | exact HB.out)⟩

/-- THE ONE PURE STATEMENT of careenlaw06_FrameOther. -/
def careenlaw06_FrameOther.Pure : Prop := ∀ (l0 : List (S57)) (l1 : List ByteArray), l0.length * 24 ≤ 140737488351232 → (∀ x ∈ l0, (Lit.int .i64 x.f0).wf = true ∧ (Lit.int .i64 x.f1).wf = true ∧ (Lit.int .i64 x.f2).wf = true) → l1.length * 16 ≤ 140737488351232 → (∀ x ∈ l1, x.size ≤ 9223372036854775807) → ∃ k, careenlaw06_FrameOther.f k l0 l1 = some true

end Go.Proofs.Ytmicfaeloanffaa.PAll
