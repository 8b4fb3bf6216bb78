-- Written by a program of this session (wip/xpatch.py, wip/xprint.sh) for seat Ytpkcofmoplnahaa.
import Derived.Test.YtpkcofmoplnahaaPAllx0
import Derived.Test.YtpkcofmoplnahaaPAllx3
namespace Go.Proofs.Ytpkcofmoplnahaa.PAll
attribute [local go_sem high] Go.Proofs.Ytpkcofmoplnahaa.Hand.unary_xor_u32
open Go.RowKit Go.Proofs.YtpkcofmoplnahaaW.PrintWords Go.Proofs.YtpkcofmoplnahaaW.PrintLast Go.Proofs.YtpkcofmoplnahaaW.PrintMore
attribute [local go_sem] max2_int min2_int max_two min_two max_three min_three max_four min_four   -- for this text's walks alone
set_option linter.unusedVariables false
set_option linter.unusedSimpArgs false

/-! ### careenlaw19_RouteEnds: function 6 -/
def careenlaw19_RouteEnds.l0 : Nat → List Int → Bool → Bool → Int → Option (Bool)
  | 0, _, _, _, _ => none
  | k + 1, x0, x3, x4, x5 => if x5 < 6 then (if x5 < (x0.length : Int) then (if 0 ≤ x5 then ((careenlaw19_pick.f (rd x0 x5) 120).bind fun t217 => ((route_Next.f k t217 (wrap64 (x5 + 1))).bind fun t218 => (if t218 < 0 then (some false) else (if t218 > 3 then (some false) else (if x5 ≥ 4 then (if t218 = 1 then (some false) else (if t218 = 2 then (some false) else (if t217 = 0 then (if t218 = 0 then (if x4 = true then (careenlaw19_RouteEnds.l0 k x0 x3 true (wrap64 (x5 + 1))) else (careenlaw19_RouteEnds.l0 k x0 x3 true (wrap64 (x5 + 1)))) else (some false)) else (if x4 = true then (careenlaw19_RouteEnds.l0 k x0 x3 true (wrap64 (x5 + 1))) else (if t218 = 0 then (careenlaw19_RouteEnds.l0 k x0 x3 true (wrap64 (x5 + 1))) else (careenlaw19_RouteEnds.l0 k x0 x3 (t218 == 3) (wrap64 (x5 + 1)))))))) else (if t217 = 0 then (if t218 = 0 then (if x4 = true then (careenlaw19_RouteEnds.l0 k x0 x3 true (wrap64 (x5 + 1))) else (careenlaw19_RouteEnds.l0 k x0 x3 true (wrap64 (x5 + 1)))) else (some false)) else (if x4 = true then (careenlaw19_RouteEnds.l0 k x0 x3 true (wrap64 (x5 + 1))) else (if t218 = 0 then (careenlaw19_RouteEnds.l0 k x0 x3 true (wrap64 (x5 + 1))) else (careenlaw19_RouteEnds.l0 k x0 x3 (t218 == 3) (wrap64 (x5 + 1))))))))))) else (none)) else ((route_Next.f k 0 (wrap64 (x5 + 1))).bind fun t219 => (if t219 < 0 then (some false) else (if t219 > 3 then (some false) else (if x5 ≥ 4 then (if t219 = 1 then (some false) else (if t219 = 2 then (some false) else (if 0 = 0 then (if t219 = 0 then (if x4 = true then (careenlaw19_RouteEnds.l0 k x0 x3 true (wrap64 (x5 + 1))) else (careenlaw19_RouteEnds.l0 k x0 x3 true (wrap64 (x5 + 1)))) else (some false)) else (if x4 = true then (careenlaw19_RouteEnds.l0 k x0 x3 true (wrap64 (x5 + 1))) else (if t219 = 0 then (careenlaw19_RouteEnds.l0 k x0 x3 true (wrap64 (x5 + 1))) else (careenlaw19_RouteEnds.l0 k x0 x3 (t219 == 3) (wrap64 (x5 + 1)))))))) else (if 0 = 0 then (if t219 = 0 then (if x4 = true then (careenlaw19_RouteEnds.l0 k x0 x3 true (wrap64 (x5 + 1))) else (careenlaw19_RouteEnds.l0 k x0 x3 true (wrap64 (x5 + 1)))) else (some false)) else (if x4 = true then (careenlaw19_RouteEnds.l0 k x0 x3 true (wrap64 (x5 + 1))) else (if t219 = 0 then (careenlaw19_RouteEnds.l0 k x0 x3 true (wrap64 (x5 + 1))) else (careenlaw19_RouteEnds.l0 k x0 x3 (t219 == 3) (wrap64 (x5 + 1))))))))))) else (if x3 = true then (some x4) else (some false))
def careenlaw19_RouteEnds.f (k : Nat) (l0 : List Int) : Option (Bool) := (careenlaw19_awake.f k).bind fun t215 => (careenlaw19_RouteEnds.l0 k l0 t215 false 0)
theorem careenlaw19_RouteEnds.mono_l : ∀ k, (∀ y0 y1 y2 y3, LeO (careenlaw19_RouteEnds.l0 k y0 y1 y2 y3) (careenlaw19_RouteEnds.l0 (k + 1) y0 y1 y2 y3))
  | 0 => (fun _ _ _ _ r h => by cases (show (none : Option _) = some r from h))
  | k + 1 => by
    have ih0 := careenlaw19_RouteEnds.mono_l k
    · intro y0 y1 y2 y3
      unfold careenlaw19_RouteEnds.l0
      repeat' first
      | (with_reducible exact ih0 _ _ _ _)
      | (with_reducible exact careenlaw19_awake.mono _)
      | (with_reducible exact route_Next.mono _ _ _)
      | (with_reducible exact LeO.refl _)
      | (with_reducible exact LeO.none _)
      | (with_reducible refine LeO.ite ?_ ?_)
      | (with_reducible refine LeO.bind ?_ (fun _ => ?_))
      | exact ih0 _ _ _ _
      | exact careenlaw19_awake.mono _
      | exact route_Next.mono _ _ _
      | exact LeO.none _
      | refine LeO.ite ?_ ?_
      | refine LeO.bind ?_ (fun _ => ?_)
theorem careenlaw19_RouteEnds.mono : ∀ a0 k, LeO (careenlaw19_RouteEnds.f k a0) (careenlaw19_RouteEnds.f (k + 1) a0) := by
  intro a0 k
  have ih0 := careenlaw19_RouteEnds.mono_l k
  unfold careenlaw19_RouteEnds.f
  repeat' first
      | (with_reducible exact ih0 _ _ _ _)
      | (with_reducible exact careenlaw19_awake.mono _)
      | (with_reducible exact route_Next.mono _ _ _)
      | (with_reducible exact LeO.refl _)
      | (with_reducible exact LeO.none _)
      | (with_reducible refine LeO.ite ?_ ?_)
      | (with_reducible refine LeO.bind ?_ (fun _ => ?_))
      | exact ih0 _ _ _ _
      | exact careenlaw19_awake.mono _
      | exact route_Next.mono _ _ _
      | exact LeO.none _
      | refine LeO.ite ?_ ?_
      | refine LeO.bind ?_ (fun _ => ?_)
set_option maxHeartbeats 8000000 in
set_option maxRecDepth 100000 in
theorem careenlaw19_RouteEnds.calls (k : Nat) (A0 : Option Addr) (c0 : Nat) (l0 : List Int) (w : World) (hr0 : Kd.C (Kd.int .i64) w A0 l0.length l0) (hc0 : l0.length ≤ c0) (h : careenlaw19_RouteEnds.f k l0 = some true) :
    Calls Try.prog 6 #[.slice A0 l0.length c0] w fun e w' => e = .returned (.bool true) ∧ Below w.heap.size w w' := by
  have HR0 := Aside0.mk hr0
  have HC0 := Aside0.mk hc0
  clear hr0 hc0
  have HB := Aside0.mk (Below.refl w.heap.size w)
  have H : ((careenlaw19_awake.f k).bind fun t215 => (careenlaw19_RouteEnds.l0 k l0 t215 false 0)) = some true := h
  clear h
  replace H := Option.bind_eq_some_iff.mp H
  obtain ⟨t215, A20, H⟩ := H
  replace H : (careenlaw19_RouteEnds.l0 k l0 t215 false 0) = some true := H
  have A2 := Aside0.mk A20
  clear A20
  have H' := Aside0.mk H
  clear H
  go_enter Try.func6, Try.ntmps6
  go_wp2_with (first | ((with_reducible refine gate_callee (f := 8) rfl ?_); refine goesL_ (some 8) rfl rfl Try.func8 (by kernel_rfl) rfl #[] rfl (by (try simp only [List.map_toArray, List.map_cons, List.map_nil]); first | done | rfl | (simp only [List.length_drop, List.length_take]; rfl)) ?_; (with_reducible refine (careenlaw19_awake.calls k  t215 _ A2.out).mono ?_); rintro e w3 ⟨rfl, hb⟩; refine ⟨_, rfl, ?_⟩; have n0_ := Aside0.mk (below_step (by repeat (first | (with_reducible first | exact HB.out | apply below_alloc | apply pw_below_drewN | apply below_drew1) | exact HB.out)) hb); clear HB; have HB := n0_; clear n0_; (try clear hb); (try clear hb2); (try clear hk); (try clear hi)))
  go_loopg [4, 5] k (fun kq v4 v5 w' => ∃ (x4_1 : Bool) (x5_1 : Int), v4 = .bool x4_1 ∧ v5 = .int .i64 x5_1 ∧ Aside0 (careenlaw19_RouteEnds.l0 kq l0 t215 x4_1 x5_1 = some true) ∧ Aside0 (kq ≤ k) ∧ Aside0 (Below w.heap.size w w'))
  case atStart => exact ⟨(false), (0), (by first | rfl | (simp; done) | (simp [*]; done)), (by first | rfl | (simp; done) | (simp [*]; done)), H', ⟨Nat.le_refl _⟩, ⟨by repeat (first | (with_reducible first | exact HB.out | apply below_alloc | apply pw_below_drewN | apply below_drew1) | exact HB.out)⟩⟩
  case round =>
    clear H'
    try clear p2
    obtain ⟨x4_1, x5_1, rfl, rfl, HA, HK1, HB⟩ := hrel
    cases gk with
    | zero => cases (show (none : Option _) = some _ from HA.out)
    | succ k1 =>
      have H := HA.out
      clear HA
      simp only [careenlaw19_RouteEnds.l0] at H
      by_cases c4 : x5_1 < 6
      · rw [if_pos c4] at H
        have c4b0 : decide (x5_1 < 6) = true := decide_eq_true c4
        clear c4
        by_cases c5 : x5_1 < (l0.length : Int)
        · rw [if_pos c5] at H
          have c5b0 : decide (x5_1 < (l0.length : Int)) = true := decide_eq_true c5
          clear c5
          by_cases c6 : 0 ≤ x5_1
          · rw [if_pos c6] at H
            have c6b0 : decide (0 ≤ x5_1) = true := decide_eq_true c6
            clear c6
            replace H := Option.bind_eq_some_iff.mp H
            obtain ⟨t217, A70, H⟩ := H
            replace H : ((route_Next.f k1 t217 (wrap64 (x5_1 + 1))).bind fun t218 => (if t218 < 0 then (some false) else (if t218 > 3 then (some false) else (if x5_1 ≥ 4 then (if t218 = 1 then (some false) else (if t218 = 2 then (some false) else (if t217 = 0 then (if t218 = 0 then (if x4_1 = true then (careenlaw19_RouteEnds.l0 k1 l0 t215 true (wrap64 (x5_1 + 1))) else (careenlaw19_RouteEnds.l0 k1 l0 t215 true (wrap64 (x5_1 + 1)))) else (some false)) else (if x4_1 = true then (careenlaw19_RouteEnds.l0 k1 l0 t215 true (wrap64 (x5_1 + 1))) else (if t218 = 0 then (careenlaw19_RouteEnds.l0 k1 l0 t215 true (wrap64 (x5_1 + 1))) else (careenlaw19_RouteEnds.l0 k1 l0 t215 (t218 == 3) (wrap64 (x5_1 + 1)))))))) else (if t217 = 0 then (if t218 = 0 then (if x4_1 = true then (careenlaw19_RouteEnds.l0 k1 l0 t215 true (wrap64 (x5_1 + 1))) else (careenlaw19_RouteEnds.l0 k1 l0 t215 true (wrap64 (x5_1 + 1)))) else (some false)) else (if x4_1 = true then (careenlaw19_RouteEnds.l0 k1 l0 t215 true (wrap64 (x5_1 + 1))) else (if t218 = 0 then (careenlaw19_RouteEnds.l0 k1 l0 t215 true (wrap64 (x5_1 + 1))) else (careenlaw19_RouteEnds.l0 k1 l0 t215 (t218 == 3) (wrap64 (x5_1 + 1)))))))))) = some true := H
            have A7 := Aside0.mk A70
            clear A70
            replace H := Option.bind_eq_some_iff.mp H
            obtain ⟨t218, A80, H⟩ := H
            replace H : (if t218 < 0 then (some false) else (if t218 > 3 then (some false) else (if x5_1 ≥ 4 then (if t218 = 1 then (some false) else (if t218 = 2 then (some false) else (if t217 = 0 then (if t218 = 0 then (if x4_1 = true then (careenlaw19_RouteEnds.l0 k1 l0 t215 true (wrap64 (x5_1 + 1))) else (careenlaw19_RouteEnds.l0 k1 l0 t215 true (wrap64 (x5_1 + 1)))) else (some false)) else (if x4_1 = true then (careenlaw19_RouteEnds.l0 k1 l0 t215 true (wrap64 (x5_1 + 1))) else (if t218 = 0 then (careenlaw19_RouteEnds.l0 k1 l0 t215 true (wrap64 (x5_1 + 1))) else (careenlaw19_RouteEnds.l0 k1 l0 t215 (t218 == 3) (wrap64 (x5_1 + 1)))))))) else (if t217 = 0 then (if t218 = 0 then (if x4_1 = true then (careenlaw19_RouteEnds.l0 k1 l0 t215 true (wrap64 (x5_1 + 1))) else (careenlaw19_RouteEnds.l0 k1 l0 t215 true (wrap64 (x5_1 + 1)))) else (some false)) else (if x4_1 = true then (careenlaw19_RouteEnds.l0 k1 l0 t215 true (wrap64 (x5_1 + 1))) else (if t218 = 0 then (careenlaw19_RouteEnds.l0 k1 l0 t215 true (wrap64 (x5_1 + 1))) else (careenlaw19_RouteEnds.l0 k1 l0 t215 (t218 == 3) (wrap64 (x5_1 + 1))))))))) = some true := H
            have A8 := Aside0.mk A80
            clear A80
            by_cases c9 : t218 < 0
            · rw [if_pos c9] at H
              have c9b0 : decide (t218 < 0) = true := decide_eq_true c9
              clear c9
              exact absurd H (by simp)
            · rw [if_neg c9] at H
              have c9b0 : decide (t218 < 0) = false := decide_eq_false c9
              clear c9
              by_cases c10 : t218 > 3
              · rw [if_pos c10] at H
                have c10b0 : decide (3 < t218) = true := decide_eq_true c10
                clear c10
                exact absurd H (by simp)
              · rw [if_neg c10] at H
                have c10b0 : decide (3 < t218) = false := decide_eq_false c10
                clear c10
                by_cases c11 : x5_1 ≥ 4
                · rw [if_pos c11] at H
                  have c11b0 : decide (4 ≤ x5_1) = true := decide_eq_true c11
                  clear c11
                  by_cases c12 : t218 = 1
                  · rw [if_pos c12] at H
                    have c12b0 : (t218 == 1) = true := beq_iff_eq.mpr c12
                    have c12b1 : (t218 != 1) = false := bne_eq_false_iff_eq.mpr c12
                    clear c12
                    exact absurd H (by simp)
                  · rw [if_neg c12] at H
                    have c12b0 : (t218 == 1) = false := beq_eq_false_iff_ne.mpr c12
                    have c12b1 : (t218 != 1) = true := bne_iff_ne.mpr c12
                    by_cases c13 : t218 = 2
                    · rw [if_pos c13] at H
                      have c13b0 : (t218 == 2) = true := beq_iff_eq.mpr c13
                      have c13b1 : (t218 != 2) = false := bne_eq_false_iff_eq.mpr c13
                      clear c13
                      exact absurd H (by simp)
                    · rw [if_neg c13] at H
                      have c13b0 : (t218 == 2) = false := beq_eq_false_iff_ne.mpr c13
                      have c13b1 : (t218 != 2) = true := bne_iff_ne.mpr c13
                      by_cases c14 : t217 = 0
                      · rw [if_pos c14] at H
                        have c14b0 : (t217 == 0) = true := beq_iff_eq.mpr c14
                        have c14b1 : (t217 != 0) = false := bne_eq_false_iff_eq.mpr c14
                        clear c14
                        by_cases c15 : t218 = 0
                        · rw [if_pos c15] at H
                          have c15b0 : (t218 == 0) = true := beq_iff_eq.mpr c15
                          have c15b1 : (t218 != 0) = false := bne_eq_false_iff_eq.mpr c15
                          clear c15
                          by_cases c16 : x4_1 = true
                          · subst c16
                            have H1 : (careenlaw19_RouteEnds.l0 k1 l0 t215 true (wrap64 (x5_1 + 1))) = some true := by rw [if_pos rfl] at H; exact H
                            clear H
                            have H := H1
                            clear H1
                            have H' := Aside0.mk H
                            clear H
                            have p216 : 0 ≤ (x5_1 : Int) := of_decide_eq_true (by first | (with_reducible assumption) | assumption)
                            have q216 : x5_1 < (l0.length : Int) := of_decide_eq_true (by first | (with_reducible assumption) | assumption)
                            obtain ⟨ad216, e216, hx216_0⟩ := Kd.at_int HR0.out x5_1 p216 q216
                            cases e216
                            replace hx216_0 := (HB.out.cell (World.block_lt_of_cell? w _ hx216_0)).trans hx216_0
                            replace p216 := eq_true p216
                            replace q216 := eq_true q216
                            go_wp2_with (first | ((with_reducible refine gate_callee (f := 9) rfl ?_); refine goesL_ (some 21) rfl rfl Try.func9 (by kernel_rfl) rfl #[.int .i64 (rd l0 x5_1), .int .i64 120] rfl (by (try simp only [List.map_toArray, List.map_cons, List.map_nil]); first | done | rfl | (simp only [List.length_drop, List.length_take]; rfl)) ?_; (with_reducible refine (careenlaw19_pick.calls (rd l0 x5_1) 120 t217 _ A7.out).mono ?_); rintro e w' ⟨rfl, ⟨nd, rfl⟩⟩; refine ⟨_, rfl, ?_⟩) | ((with_reducible refine gate_callee (f := 18) rfl ?_); refine goesL_ (some 25) rfl rfl Try.func18 (by kernel_rfl) rfl #[.int .i64 t217, .int .i64 (wrap64 (x5_1 + 1))] rfl (by (try simp only [List.map_toArray, List.map_cons, List.map_nil]); first | done | rfl | (simp only [List.length_drop, List.length_take]; rfl)) ?_; (with_reducible refine (route_Next.calls k1 t217 (wrap64 (x5_1 + 1)) t218 _ A8.out).mono ?_); rintro e w' ⟨rfl, ⟨nd, rfl⟩⟩; refine ⟨_, rfl, ?_⟩))
                            go_roundg k1
                            case measure => have := HK1.out; omega
                            case rel => exact ⟨(true), (wrap64 (x5_1 + 1)), (by first | rfl | (simp; done) | (simp [*]; done)), (by first | rfl | (simp; done) | (simp [*]; done)), H', ⟨by have := HK1.out; omega⟩, ⟨by repeat (first | (with_reducible first | exact HB.out | apply below_alloc | apply pw_below_drewN | apply below_drew1) | exact HB.out)⟩⟩
                          · replace c16 := Bool.eq_false_iff.mpr c16
                            subst c16
                            have H1 : (careenlaw19_RouteEnds.l0 k1 l0 t215 true (wrap64 (x5_1 + 1))) = some true := by rw [if_neg (show ¬ (false = true) by decide)] at H; exact H
                            clear H
                            have H := H1
                            clear H1
                            have H' := Aside0.mk H
                            clear H
                            have p216 : 0 ≤ (x5_1 : Int) := of_decide_eq_true (by first | (with_reducible assumption) | assumption)
                            have q216 : x5_1 < (l0.length : Int) := of_decide_eq_true (by first | (with_reducible assumption) | assumption)
                            obtain ⟨ad216, e216, hx216_0⟩ := Kd.at_int HR0.out x5_1 p216 q216
                            cases e216
                            replace hx216_0 := (HB.out.cell (World.block_lt_of_cell? w _ hx216_0)).trans hx216_0
                            replace p216 := eq_true p216
                            replace q216 := eq_true q216
                            go_wp2_with (first | ((with_reducible refine gate_callee (f := 9) rfl ?_); refine goesL_ (some 21) rfl rfl Try.func9 (by kernel_rfl) rfl #[.int .i64 (rd l0 x5_1), .int .i64 120] rfl (by (try simp only [List.map_toArray, List.map_cons, List.map_nil]); first | done | rfl | (simp only [List.length_drop, List.length_take]; rfl)) ?_; (with_reducible refine (careenlaw19_pick.calls (rd l0 x5_1) 120 t217 _ A7.out).mono ?_); rintro e w' ⟨rfl, ⟨nd, rfl⟩⟩; refine ⟨_, rfl, ?_⟩) | ((with_reducible refine gate_callee (f := 18) rfl ?_); refine goesL_ (some 25) rfl rfl Try.func18 (by kernel_rfl) rfl #[.int .i64 t217, .int .i64 (wrap64 (x5_1 + 1))] rfl (by (try simp only [List.map_toArray, List.map_cons, List.map_nil]); first | done | rfl | (simp only [List.length_drop, List.length_take]; rfl)) ?_; (with_reducible refine (route_Next.calls k1 t217 (wrap64 (x5_1 + 1)) t218 _ A8.out).mono ?_); rintro e w' ⟨rfl, ⟨nd, rfl⟩⟩; refine ⟨_, rfl, ?_⟩))
                            go_roundg k1
                            case measure => have := HK1.out; omega
                            case rel => exact ⟨(true), (wrap64 (x5_1 + 1)), (by first | rfl | (simp; done) | (simp [*]; done)), (by first | rfl | (simp; done) | (simp [*]; done)), H', ⟨by have := HK1.out; omega⟩, ⟨by repeat (first | (with_reducible first | exact HB.out | apply below_alloc | apply pw_below_drewN | apply below_drew1) | exact HB.out)⟩⟩
                        · rw [if_neg c15] at H
                          have c15b0 : (t218 == 0) = false := beq_eq_false_iff_ne.mpr c15
                          have c15b1 : (t218 != 0) = true := bne_iff_ne.mpr c15
                          exact absurd H (by simp)
                      · rw [if_neg c14] at H
                        have c14b0 : (t217 == 0) = false := beq_eq_false_iff_ne.mpr c14
                        have c14b1 : (t217 != 0) = true := bne_iff_ne.mpr c14
                        by_cases c17 : x4_1 = true
                        · subst c17
                          have H1 : (careenlaw19_RouteEnds.l0 k1 l0 t215 true (wrap64 (x5_1 + 1))) = some true := by rw [if_pos rfl] at H; exact H
                          clear H
                          have H := H1
                          clear H1
                          have H' := Aside0.mk H
                          clear H
                          have p216 : 0 ≤ (x5_1 : Int) := of_decide_eq_true (by first | (with_reducible assumption) | assumption)
                          have q216 : x5_1 < (l0.length : Int) := of_decide_eq_true (by first | (with_reducible assumption) | assumption)
                          obtain ⟨ad216, e216, hx216_0⟩ := Kd.at_int HR0.out x5_1 p216 q216
                          cases e216
                          replace hx216_0 := (HB.out.cell (World.block_lt_of_cell? w _ hx216_0)).trans hx216_0
                          replace p216 := eq_true p216
                          replace q216 := eq_true q216
                          go_wp2_with (first | ((with_reducible refine gate_callee (f := 9) rfl ?_); refine goesL_ (some 21) rfl rfl Try.func9 (by kernel_rfl) rfl #[.int .i64 (rd l0 x5_1), .int .i64 120] rfl (by (try simp only [List.map_toArray, List.map_cons, List.map_nil]); first | done | rfl | (simp only [List.length_drop, List.length_take]; rfl)) ?_; (with_reducible refine (careenlaw19_pick.calls (rd l0 x5_1) 120 t217 _ A7.out).mono ?_); rintro e w' ⟨rfl, ⟨nd, rfl⟩⟩; refine ⟨_, rfl, ?_⟩) | ((with_reducible refine gate_callee (f := 18) rfl ?_); refine goesL_ (some 25) rfl rfl Try.func18 (by kernel_rfl) rfl #[.int .i64 t217, .int .i64 (wrap64 (x5_1 + 1))] rfl (by (try simp only [List.map_toArray, List.map_cons, List.map_nil]); first | done | rfl | (simp only [List.length_drop, List.length_take]; rfl)) ?_; (with_reducible refine (route_Next.calls k1 t217 (wrap64 (x5_1 + 1)) t218 _ A8.out).mono ?_); rintro e w' ⟨rfl, ⟨nd, rfl⟩⟩; refine ⟨_, rfl, ?_⟩))
                          go_roundg k1
                          case measure => have := HK1.out; omega
                          case rel => exact ⟨(true), (wrap64 (x5_1 + 1)), (by first | rfl | (simp; done) | (simp [*]; done)), (by first | rfl | (simp; done) | (simp [*]; done)), H', ⟨by have := HK1.out; omega⟩, ⟨by repeat (first | (with_reducible first | exact HB.out | apply below_alloc | apply pw_below_drewN | apply below_drew1) | exact HB.out)⟩⟩
                        · replace c17 := Bool.eq_false_iff.mpr c17
                          subst c17
                          have H1 : (if t218 = 0 then (careenlaw19_RouteEnds.l0 k1 l0 t215 true (wrap64 (x5_1 + 1))) else (careenlaw19_RouteEnds.l0 k1 l0 t215 (t218 == 3) (wrap64 (x5_1 + 1)))) = some true := by rw [if_neg (show ¬ (false = true) by decide)] at H; exact H
                          clear H
                          have H := H1
                          clear H1
                          by_cases c18 : t218 = 0
                          · rw [if_pos c18] at H
                            have c18b0 : (t218 == 0) = true := beq_iff_eq.mpr c18
                            have c18b1 : (t218 != 0) = false := bne_eq_false_iff_eq.mpr c18
                            clear c18
                            have H' := Aside0.mk H
                            clear H
                            have p216 : 0 ≤ (x5_1 : Int) := of_decide_eq_true (by first | (with_reducible assumption) | assumption)
                            have q216 : x5_1 < (l0.length : Int) := of_decide_eq_true (by first | (with_reducible assumption) | assumption)
                            obtain ⟨ad216, e216, hx216_0⟩ := Kd.at_int HR0.out x5_1 p216 q216
                            cases e216
                            replace hx216_0 := (HB.out.cell (World.block_lt_of_cell? w _ hx216_0)).trans hx216_0
                            replace p216 := eq_true p216
                            replace q216 := eq_true q216
                            go_wp2_with (first | ((with_reducible refine gate_callee (f := 9) rfl ?_); refine goesL_ (some 21) rfl rfl Try.func9 (by kernel_rfl) rfl #[.int .i64 (rd l0 x5_1), .int .i64 120] rfl (by (try simp only [List.map_toArray, List.map_cons, List.map_nil]); first | done | rfl | (simp only [List.length_drop, List.length_take]; rfl)) ?_; (with_reducible refine (careenlaw19_pick.calls (rd l0 x5_1) 120 t217 _ A7.out).mono ?_); rintro e w' ⟨rfl, ⟨nd, rfl⟩⟩; refine ⟨_, rfl, ?_⟩) | ((with_reducible refine gate_callee (f := 18) rfl ?_); refine goesL_ (some 25) rfl rfl Try.func18 (by kernel_rfl) rfl #[.int .i64 t217, .int .i64 (wrap64 (x5_1 + 1))] rfl (by (try simp only [List.map_toArray, List.map_cons, List.map_nil]); first | done | rfl | (simp only [List.length_drop, List.length_take]; rfl)) ?_; (with_reducible refine (route_Next.calls k1 t217 (wrap64 (x5_1 + 1)) t218 _ A8.out).mono ?_); rintro e w' ⟨rfl, ⟨nd, rfl⟩⟩; refine ⟨_, rfl, ?_⟩))
                            go_roundg k1
                            case measure => have := HK1.out; omega
                            case rel => exact ⟨(true), (wrap64 (x5_1 + 1)), (by first | rfl | (simp; done) | (simp [*]; done)), (by first | rfl | (simp; done) | (simp [*]; done)), H', ⟨by have := HK1.out; omega⟩, ⟨by repeat (first | (with_reducible first | exact HB.out | apply below_alloc | apply pw_below_drewN | apply below_drew1) | exact HB.out)⟩⟩
                          · rw [if_neg c18] at H
                            have c18b0 : (t218 == 0) = false := beq_eq_false_iff_ne.mpr c18
                            have c18b1 : (t218 != 0) = true := bne_iff_ne.mpr c18
                            have H' := Aside0.mk H
                            clear H
                            have p216 : 0 ≤ (x5_1 : Int) := of_decide_eq_true (by first | (with_reducible assumption) | assumption)
                            have q216 : x5_1 < (l0.length : Int) := of_decide_eq_true (by first | (with_reducible assumption) | assumption)
                            obtain ⟨ad216, e216, hx216_0⟩ := Kd.at_int HR0.out x5_1 p216 q216
                            cases e216
                            replace hx216_0 := (HB.out.cell (World.block_lt_of_cell? w _ hx216_0)).trans hx216_0
                            replace p216 := eq_true p216
                            replace q216 := eq_true q216
                            go_wp2_with (first | ((with_reducible refine gate_callee (f := 9) rfl ?_); refine goesL_ (some 21) rfl rfl Try.func9 (by kernel_rfl) rfl #[.int .i64 (rd l0 x5_1), .int .i64 120] rfl (by (try simp only [List.map_toArray, List.map_cons, List.map_nil]); first | done | rfl | (simp only [List.length_drop, List.length_take]; rfl)) ?_; (with_reducible refine (careenlaw19_pick.calls (rd l0 x5_1) 120 t217 _ A7.out).mono ?_); rintro e w' ⟨rfl, ⟨nd, rfl⟩⟩; refine ⟨_, rfl, ?_⟩) | ((with_reducible refine gate_callee (f := 18) rfl ?_); refine goesL_ (some 25) rfl rfl Try.func18 (by kernel_rfl) rfl #[.int .i64 t217, .int .i64 (wrap64 (x5_1 + 1))] rfl (by (try simp only [List.map_toArray, List.map_cons, List.map_nil]); first | done | rfl | (simp only [List.length_drop, List.length_take]; rfl)) ?_; (with_reducible refine (route_Next.calls k1 t217 (wrap64 (x5_1 + 1)) t218 _ A8.out).mono ?_); rintro e w' ⟨rfl, ⟨nd, rfl⟩⟩; refine ⟨_, rfl, ?_⟩))
                            go_roundg k1
                            case measure => have := HK1.out; omega
                            case rel => exact ⟨((t218 == 3)), (wrap64 (x5_1 + 1)), (by first | rfl | (simp; done) | (simp [*]; done)), (by first | rfl | (simp; done) | (simp [*]; done)), H', ⟨by have := HK1.out; omega⟩, ⟨by repeat (first | (with_reducible first | exact HB.out | apply below_alloc | apply pw_below_drewN | apply below_drew1) | exact HB.out)⟩⟩
                · rw [if_neg c11] at H
                  have c11b0 : decide (4 ≤ x5_1) = false := decide_eq_false c11
                  clear c11
                  by_cases c19 : t217 = 0
                  · rw [if_pos c19] at H
                    have c19b0 : (t217 == 0) = true := beq_iff_eq.mpr c19
                    have c19b1 : (t217 != 0) = false := bne_eq_false_iff_eq.mpr c19
                    clear c19
                    by_cases c20 : t218 = 0
                    · rw [if_pos c20] at H
                      have c20b0 : (t218 == 0) = true := beq_iff_eq.mpr c20
                      have c20b1 : (t218 != 0) = false := bne_eq_false_iff_eq.mpr c20
                      clear c20
                      by_cases c21 : x4_1 = true
                      · subst c21
                        have H1 : (careenlaw19_RouteEnds.l0 k1 l0 t215 true (wrap64 (x5_1 + 1))) = some true := by rw [if_pos rfl] at H; exact H
                        clear H
                        have H := H1
                        clear H1
                        have H' := Aside0.mk H
                        clear H
                        have p216 : 0 ≤ (x5_1 : Int) := of_decide_eq_true (by first | (with_reducible assumption) | assumption)
                        have q216 : x5_1 < (l0.length : Int) := of_decide_eq_true (by first | (with_reducible assumption) | assumption)
                        obtain ⟨ad216, e216, hx216_0⟩ := Kd.at_int HR0.out x5_1 p216 q216
                        cases e216
                        replace hx216_0 := (HB.out.cell (World.block_lt_of_cell? w _ hx216_0)).trans hx216_0
                        replace p216 := eq_true p216
                        replace q216 := eq_true q216
                        go_wp2_with (first | ((with_reducible refine gate_callee (f := 9) rfl ?_); refine goesL_ (some 21) rfl rfl Try.func9 (by kernel_rfl) rfl #[.int .i64 (rd l0 x5_1), .int .i64 120] rfl (by (try simp only [List.map_toArray, List.map_cons, List.map_nil]); first | done | rfl | (simp only [List.length_drop, List.length_take]; rfl)) ?_; (with_reducible refine (careenlaw19_pick.calls (rd l0 x5_1) 120 t217 _ A7.out).mono ?_); rintro e w' ⟨rfl, ⟨nd, rfl⟩⟩; refine ⟨_, rfl, ?_⟩) | ((with_reducible refine gate_callee (f := 18) rfl ?_); refine goesL_ (some 25) rfl rfl Try.func18 (by kernel_rfl) rfl #[.int .i64 t217, .int .i64 (wrap64 (x5_1 + 1))] rfl (by (try simp only [List.map_toArray, List.map_cons, List.map_nil]); first | done | rfl | (simp only [List.length_drop, List.length_take]; rfl)) ?_; (with_reducible refine (route_Next.calls k1 t217 (wrap64 (x5_1 + 1)) t218 _ A8.out).mono ?_); rintro e w' ⟨rfl, ⟨nd, rfl⟩⟩; refine ⟨_, rfl, ?_⟩))
                        go_roundg k1
                        case measure => have := HK1.out; omega
                        case rel => exact ⟨(true), (wrap64 (x5_1 + 1)), (by first | rfl | (simp; done) | (simp [*]; done)), (by first | rfl | (simp; done) | (simp [*]; done)), H', ⟨by have := HK1.out; omega⟩, ⟨by repeat (first | (with_reducible first | exact HB.out | apply below_alloc | apply pw_below_drewN | apply below_drew1) | exact HB.out)⟩⟩
                      · replace c21 := Bool.eq_false_iff.mpr c21
                        subst c21
                        have H1 : (careenlaw19_RouteEnds.l0 k1 l0 t215 true (wrap64 (x5_1 + 1))) = some true := by rw [if_neg (show ¬ (false = true) by decide)] at H; exact H
                        clear H
                        have H := H1
                        clear H1
                        have H' := Aside0.mk H
                        clear H
                        have p216 : 0 ≤ (x5_1 : Int) := of_decide_eq_true (by first | (with_reducible assumption) | assumption)
                        have q216 : x5_1 < (l0.length : Int) := of_decide_eq_true (by first | (with_reducible assumption) | assumption)
                        obtain ⟨ad216, e216, hx216_0⟩ := Kd.at_int HR0.out x5_1 p216 q216
                        cases e216
                        replace hx216_0 := (HB.out.cell (World.block_lt_of_cell? w _ hx216_0)).trans hx216_0
                        replace p216 := eq_true p216
                        replace q216 := eq_true q216
                        go_wp2_with (first | ((with_reducible refine gate_callee (f := 9) rfl ?_); refine goesL_ (some 21) rfl rfl Try.func9 (by kernel_rfl) rfl #[.int .i64 (rd l0 x5_1), .int .i64 120] rfl (by (try simp only [List.map_toArray, List.map_cons, List.map_nil]); first | done | rfl | (simp only [List.length_drop, List.length_take]; rfl)) ?_; (with_reducible refine (careenlaw19_pick.calls (rd l0 x5_1) 120 t217 _ A7.out).mono ?_); rintro e w' ⟨rfl, ⟨nd, rfl⟩⟩; refine ⟨_, rfl, ?_⟩) | ((with_reducible refine gate_callee (f := 18) rfl ?_); refine goesL_ (some 25) rfl rfl Try.func18 (by kernel_rfl) rfl #[.int .i64 t217, .int .i64 (wrap64 (x5_1 + 1))] rfl (by (try simp only [List.map_toArray, List.map_cons, List.map_nil]); first | done | rfl | (simp only [List.length_drop, List.length_take]; rfl)) ?_; (with_reducible refine (route_Next.calls k1 t217 (wrap64 (x5_1 + 1)) t218 _ A8.out).mono ?_); rintro e w' ⟨rfl, ⟨nd, rfl⟩⟩; refine ⟨_, rfl, ?_⟩))
                        go_roundg k1
                        case measure => have := HK1.out; omega
                        case rel => exact ⟨(true), (wrap64 (x5_1 + 1)), (by first | rfl | (simp; done) | (simp [*]; done)), (by first | rfl | (simp; done) | (simp [*]; done)), H', ⟨by have := HK1.out; omega⟩, ⟨by repeat (first | (with_reducible first | exact HB.out | apply below_alloc | apply pw_below_drewN | apply below_drew1) | exact HB.out)⟩⟩
                    · rw [if_neg c20] at H
                      have c20b0 : (t218 == 0) = false := beq_eq_false_iff_ne.mpr c20
                      have c20b1 : (t218 != 0) = true := bne_iff_ne.mpr c20
                      exact absurd H (by simp)
                  · rw [if_neg c19] at H
                    have c19b0 : (t217 == 0) = false := beq_eq_false_iff_ne.mpr c19
                    have c19b1 : (t217 != 0) = true := bne_iff_ne.mpr c19
                    by_cases c22 : x4_1 = true
                    · subst c22
                      have H1 : (careenlaw19_RouteEnds.l0 k1 l0 t215 true (wrap64 (x5_1 + 1))) = some true := by rw [if_pos rfl] at H; exact H
                      clear H
                      have H := H1
                      clear H1
                      have H' := Aside0.mk H
                      clear H
                      have p216 : 0 ≤ (x5_1 : Int) := of_decide_eq_true (by first | (with_reducible assumption) | assumption)
                      have q216 : x5_1 < (l0.length : Int) := of_decide_eq_true (by first | (with_reducible assumption) | assumption)
                      obtain ⟨ad216, e216, hx216_0⟩ := Kd.at_int HR0.out x5_1 p216 q216
                      cases e216
                      replace hx216_0 := (HB.out.cell (World.block_lt_of_cell? w _ hx216_0)).trans hx216_0
                      replace p216 := eq_true p216
                      replace q216 := eq_true q216
                      go_wp2_with (first | ((with_reducible refine gate_callee (f := 9) rfl ?_); refine goesL_ (some 21) rfl rfl Try.func9 (by kernel_rfl) rfl #[.int .i64 (rd l0 x5_1), .int .i64 120] rfl (by (try simp only [List.map_toArray, List.map_cons, List.map_nil]); first | done | rfl | (simp only [List.length_drop, List.length_take]; rfl)) ?_; (with_reducible refine (careenlaw19_pick.calls (rd l0 x5_1) 120 t217 _ A7.out).mono ?_); rintro e w' ⟨rfl, ⟨nd, rfl⟩⟩; refine ⟨_, rfl, ?_⟩) | ((with_reducible refine gate_callee (f := 18) rfl ?_); refine goesL_ (some 25) rfl rfl Try.func18 (by kernel_rfl) rfl #[.int .i64 t217, .int .i64 (wrap64 (x5_1 + 1))] rfl (by (try simp only [List.map_toArray, List.map_cons, List.map_nil]); first | done | rfl | (simp only [List.length_drop, List.length_take]; rfl)) ?_; (with_reducible refine (route_Next.calls k1 t217 (wrap64 (x5_1 + 1)) t218 _ A8.out).mono ?_); rintro e w' ⟨rfl, ⟨nd, rfl⟩⟩; refine ⟨_, rfl, ?_⟩))
                      go_roundg k1
                      case measure => have := HK1.out; omega
                      case rel => exact ⟨(true), (wrap64 (x5_1 + 1)), (by first | rfl | (simp; done) | (simp [*]; done)), (by first | rfl | (simp; done) | (simp [*]; done)), H', ⟨by have := HK1.out; omega⟩, ⟨by repeat (first | (with_reducible first | exact HB.out | apply below_alloc | apply pw_below_drewN | apply below_drew1) | exact HB.out)⟩⟩
                    · replace c22 := Bool.eq_false_iff.mpr c22
                      subst c22
                      have H1 : (if t218 = 0 then (careenlaw19_RouteEnds.l0 k1 l0 t215 true (wrap64 (x5_1 + 1))) else (careenlaw19_RouteEnds.l0 k1 l0 t215 (t218 == 3) (wrap64 (x5_1 + 1)))) = some true := by rw [if_neg (show ¬ (false = true) by decide)] at H; exact H
                      clear H
                      have H := H1
                      clear H1
                      by_cases c23 : t218 = 0
                      · rw [if_pos c23] at H
                        have c23b0 : (t218 == 0) = true := beq_iff_eq.mpr c23
                        have c23b1 : (t218 != 0) = false := bne_eq_false_iff_eq.mpr c23
                        clear c23
                        have H' := Aside0.mk H
                        clear H
                        have p216 : 0 ≤ (x5_1 : Int) := of_decide_eq_true (by first | (with_reducible assumption) | assumption)
                        have q216 : x5_1 < (l0.length : Int) := of_decide_eq_true (by first | (with_reducible assumption) | assumption)
                        obtain ⟨ad216, e216, hx216_0⟩ := Kd.at_int HR0.out x5_1 p216 q216
                        cases e216
                        replace hx216_0 := (HB.out.cell (World.block_lt_of_cell? w _ hx216_0)).trans hx216_0
                        replace p216 := eq_true p216
                        replace q216 := eq_true q216
                        go_wp2_with (first | ((with_reducible refine gate_callee (f := 9) rfl ?_); refine goesL_ (some 21) rfl rfl Try.func9 (by kernel_rfl) rfl #[.int .i64 (rd l0 x5_1), .int .i64 120] rfl (by (try simp only [List.map_toArray, List.map_cons, List.map_nil]); first | done | rfl | (simp only [List.length_drop, List.length_take]; rfl)) ?_; (with_reducible refine (careenlaw19_pick.calls (rd l0 x5_1) 120 t217 _ A7.out).mono ?_); rintro e w' ⟨rfl, ⟨nd, rfl⟩⟩; refine ⟨_, rfl, ?_⟩) | ((with_reducible refine gate_callee (f := 18) rfl ?_); refine goesL_ (some 25) rfl rfl Try.func18 (by kernel_rfl) rfl #[.int .i64 t217, .int .i64 (wrap64 (x5_1 + 1))] rfl (by (try simp only [List.map_toArray, List.map_cons, List.map_nil]); first | done | rfl | (simp only [List.length_drop, List.length_take]; rfl)) ?_; (with_reducible refine (route_Next.calls k1 t217 (wrap64 (x5_1 + 1)) t218 _ A8.out).mono ?_); rintro e w' ⟨rfl, ⟨nd, rfl⟩⟩; refine ⟨_, rfl, ?_⟩))
                        go_roundg k1
                        case measure => have := HK1.out; omega
                        case rel => exact ⟨(true), (wrap64 (x5_1 + 1)), (by first | rfl | (simp; done) | (simp [*]; done)), (by first | rfl | (simp; done) | (simp [*]; done)), H', ⟨by have := HK1.out; omega⟩, ⟨by repeat (first | (with_reducible first | exact HB.out | apply below_alloc | apply pw_below_drewN | apply below_drew1) | exact HB.out)⟩⟩
                      · rw [if_neg c23] at H
                        have c23b0 : (t218 == 0) = false := beq_eq_false_iff_ne.mpr c23
                        have c23b1 : (t218 != 0) = true := bne_iff_ne.mpr c23
                        have H' := Aside0.mk H
                        clear H
                        have p216 : 0 ≤ (x5_1 : Int) := of_decide_eq_true (by first | (with_reducible assumption) | assumption)
                        have q216 : x5_1 < (l0.length : Int) := of_decide_eq_true (by first | (with_reducible assumption) | assumption)
                        obtain ⟨ad216, e216, hx216_0⟩ := Kd.at_int HR0.out x5_1 p216 q216
                        cases e216
                        replace hx216_0 := (HB.out.cell (World.block_lt_of_cell? w _ hx216_0)).trans hx216_0
                        replace p216 := eq_true p216
                        replace q216 := eq_true q216
                        go_wp2_with (first | ((with_reducible refine gate_callee (f := 9) rfl ?_); refine goesL_ (some 21) rfl rfl Try.func9 (by kernel_rfl) rfl #[.int .i64 (rd l0 x5_1), .int .i64 120] rfl (by (try simp only [List.map_toArray, List.map_cons, List.map_nil]); first | done | rfl | (simp only [List.length_drop, List.length_take]; rfl)) ?_; (with_reducible refine (careenlaw19_pick.calls (rd l0 x5_1) 120 t217 _ A7.out).mono ?_); rintro e w' ⟨rfl, ⟨nd, rfl⟩⟩; refine ⟨_, rfl, ?_⟩) | ((with_reducible refine gate_callee (f := 18) rfl ?_); refine goesL_ (some 25) rfl rfl Try.func18 (by kernel_rfl) rfl #[.int .i64 t217, .int .i64 (wrap64 (x5_1 + 1))] rfl (by (try simp only [List.map_toArray, List.map_cons, List.map_nil]); first | done | rfl | (simp only [List.length_drop, List.length_take]; rfl)) ?_; (with_reducible refine (route_Next.calls k1 t217 (wrap64 (x5_1 + 1)) t218 _ A8.out).mono ?_); rintro e w' ⟨rfl, ⟨nd, rfl⟩⟩; refine ⟨_, rfl, ?_⟩))
                        go_roundg k1
                        case measure => have := HK1.out; omega
                        case rel => exact ⟨((t218 == 3)), (wrap64 (x5_1 + 1)), (by first | rfl | (simp; done) | (simp [*]; done)), (by first | rfl | (simp; done) | (simp [*]; done)), H', ⟨by have := HK1.out; omega⟩, ⟨by repeat (first | (with_reducible first | exact HB.out | apply below_alloc | apply pw_below_drewN | apply below_drew1) | exact HB.out)⟩⟩
          · rw [if_neg c6] at H
            exact absurd H (by simp)
        · rw [if_neg c5] at H
          have c5b0 : decide (x5_1 < (l0.length : Int)) = false := decide_eq_false c5
          clear c5
          replace H := Option.bind_eq_some_iff.mp H
          obtain ⟨t219, A240, H⟩ := H
          replace H : (if t219 < 0 then (some false) else (if t219 > 3 then (some false) else (if x5_1 ≥ 4 then (if t219 = 1 then (some false) else (if t219 = 2 then (some false) else (if 0 = 0 then (if t219 = 0 then (if x4_1 = true then (careenlaw19_RouteEnds.l0 k1 l0 t215 true (wrap64 (x5_1 + 1))) else (careenlaw19_RouteEnds.l0 k1 l0 t215 true (wrap64 (x5_1 + 1)))) else (some false)) else (if x4_1 = true then (careenlaw19_RouteEnds.l0 k1 l0 t215 true (wrap64 (x5_1 + 1))) else (if t219 = 0 then (careenlaw19_RouteEnds.l0 k1 l0 t215 true (wrap64 (x5_1 + 1))) else (careenlaw19_RouteEnds.l0 k1 l0 t215 (t219 == 3) (wrap64 (x5_1 + 1)))))))) else (if 0 = 0 then (if t219 = 0 then (if x4_1 = true then (careenlaw19_RouteEnds.l0 k1 l0 t215 true (wrap64 (x5_1 + 1))) else (careenlaw19_RouteEnds.l0 k1 l0 t215 true (wrap64 (x5_1 + 1)))) else (some false)) else (if x4_1 = true then (careenlaw19_RouteEnds.l0 k1 l0 t215 true (wrap64 (x5_1 + 1))) else (if t219 = 0 then (careenlaw19_RouteEnds.l0 k1 l0 t215 true (wrap64 (x5_1 + 1))) else (careenlaw19_RouteEnds.l0 k1 l0 t215 (t219 == 3) (wrap64 (x5_1 + 1))))))))) = some true := H
          have A24 := Aside0.mk A240
          clear A240
          by_cases c25 : t219 < 0
          · rw [if_pos c25] at H
            have c25b0 : decide (t219 < 0) = true := decide_eq_true c25
            clear c25
            exact absurd H (by simp)
          · rw [if_neg c25] at H
            have c25b0 : decide (t219 < 0) = false := decide_eq_false c25
            clear c25
            by_cases c26 : t219 > 3
            · rw [if_pos c26] at H
              have c26b0 : decide (3 < t219) = true := decide_eq_true c26
              clear c26
              exact absurd H (by simp)
            · rw [if_neg c26] at H
              have c26b0 : decide (3 < t219) = false := decide_eq_false c26
              clear c26
              by_cases c27 : x5_1 ≥ 4
              · rw [if_pos c27] at H
                have c27b0 : decide (4 ≤ x5_1) = true := decide_eq_true c27
                clear c27
                by_cases c28 : t219 = 1
                · rw [if_pos c28] at H
                  have c28b0 : (t219 == 1) = true := beq_iff_eq.mpr c28
                  have c28b1 : (t219 != 1) = false := bne_eq_false_iff_eq.mpr c28
                  clear c28
                  exact absurd H (by simp)
                · rw [if_neg c28] at H
                  have c28b0 : (t219 == 1) = false := beq_eq_false_iff_ne.mpr c28
                  have c28b1 : (t219 != 1) = true := bne_iff_ne.mpr c28
                  by_cases c29 : t219 = 2
                  · rw [if_pos c29] at H
                    have c29b0 : (t219 == 2) = true := beq_iff_eq.mpr c29
                    have c29b1 : (t219 != 2) = false := bne_eq_false_iff_eq.mpr c29
                    clear c29
                    exact absurd H (by simp)
                  · rw [if_neg c29] at H
                    have c29b0 : (t219 == 2) = false := beq_eq_false_iff_ne.mpr c29
                    have c29b1 : (t219 != 2) = true := bne_iff_ne.mpr c29
                    by_cases c30 : 0 = 0
                    · rw [if_pos c30] at H
                      have c30b0 : (0 == 0) = true := beq_iff_eq.mpr c30
                      have c30b1 : (0 != 0) = false := bne_eq_false_iff_eq.mpr c30
                      clear c30
                      by_cases c31 : t219 = 0
                      · rw [if_pos c31] at H
                        have c31b0 : (t219 == 0) = true := beq_iff_eq.mpr c31
                        have c31b1 : (t219 != 0) = false := bne_eq_false_iff_eq.mpr c31
                        clear c31
                        by_cases c32 : x4_1 = true
                        · subst c32
                          have H1 : (careenlaw19_RouteEnds.l0 k1 l0 t215 true (wrap64 (x5_1 + 1))) = some true := by rw [if_pos rfl] at H; exact H
                          clear H
                          have H := H1
                          clear H1
                          have H' := Aside0.mk H
                          clear H
                          go_wp2_with (first | ((with_reducible refine gate_callee (f := 18) rfl ?_); refine goesL_ (some 25) rfl rfl Try.func18 (by kernel_rfl) rfl #[.int .i64 0, .int .i64 (wrap64 (x5_1 + 1))] rfl (by (try simp only [List.map_toArray, List.map_cons, List.map_nil]); first | done | rfl | (simp only [List.length_drop, List.length_take]; rfl)) ?_; (with_reducible refine (route_Next.calls k1 0 (wrap64 (x5_1 + 1)) t219 _ A24.out).mono ?_); rintro e w' ⟨rfl, ⟨nd, rfl⟩⟩; refine ⟨_, rfl, ?_⟩))
                          go_roundg k1
                          case measure => have := HK1.out; omega
                          case rel => exact ⟨(true), (wrap64 (x5_1 + 1)), (by first | rfl | (simp; done) | (simp [*]; done)), (by first | rfl | (simp; done) | (simp [*]; done)), H', ⟨by have := HK1.out; omega⟩, ⟨by repeat (first | (with_reducible first | exact HB.out | apply below_alloc | apply pw_below_drewN | apply below_drew1) | exact HB.out)⟩⟩
                        · replace c32 := Bool.eq_false_iff.mpr c32
                          subst c32
                          have H1 : (careenlaw19_RouteEnds.l0 k1 l0 t215 true (wrap64 (x5_1 + 1))) = some true := by rw [if_neg (show ¬ (false = true) by decide)] at H; exact H
                          clear H
                          have H := H1
                          clear H1
                          have H' := Aside0.mk H
                          clear H
                          go_wp2_with (first | ((with_reducible refine gate_callee (f := 18) rfl ?_); refine goesL_ (some 25) rfl rfl Try.func18 (by kernel_rfl) rfl #[.int .i64 0, .int .i64 (wrap64 (x5_1 + 1))] rfl (by (try simp only [List.map_toArray, List.map_cons, List.map_nil]); first | done | rfl | (simp only [List.length_drop, List.length_take]; rfl)) ?_; (with_reducible refine (route_Next.calls k1 0 (wrap64 (x5_1 + 1)) t219 _ A24.out).mono ?_); rintro e w' ⟨rfl, ⟨nd, rfl⟩⟩; refine ⟨_, rfl, ?_⟩))
                          go_roundg k1
                          case measure => have := HK1.out; omega
                          case rel => exact ⟨(true), (wrap64 (x5_1 + 1)), (by first | rfl | (simp; done) | (simp [*]; done)), (by first | rfl | (simp; done) | (simp [*]; done)), H', ⟨by have := HK1.out; omega⟩, ⟨by repeat (first | (with_reducible first | exact HB.out | apply below_alloc | apply pw_below_drewN | apply below_drew1) | exact HB.out)⟩⟩
                      · rw [if_neg c31] at H
                        have c31b0 : (t219 == 0) = false := beq_eq_false_iff_ne.mpr c31
                        have c31b1 : (t219 != 0) = true := bne_iff_ne.mpr c31
                        exact absurd H (by simp)
                    · rw [if_neg c30] at H
                      exact absurd rfl c30
              · rw [if_neg c27] at H
                have c27b0 : decide (4 ≤ x5_1) = false := decide_eq_false c27
                clear c27
                by_cases c35 : 0 = 0
                · rw [if_pos c35] at H
                  have c35b0 : (0 == 0) = true := beq_iff_eq.mpr c35
                  have c35b1 : (0 != 0) = false := bne_eq_false_iff_eq.mpr c35
                  clear c35
                  by_cases c36 : t219 = 0
                  · rw [if_pos c36] at H
                    have c36b0 : (t219 == 0) = true := beq_iff_eq.mpr c36
                    have c36b1 : (t219 != 0) = false := bne_eq_false_iff_eq.mpr c36
                    clear c36
                    by_cases c37 : x4_1 = true
                    · subst c37
                      have H1 : (careenlaw19_RouteEnds.l0 k1 l0 t215 true (wrap64 (x5_1 + 1))) = some true := by rw [if_pos rfl] at H; exact H
                      clear H
                      have H := H1
                      clear H1
                      have H' := Aside0.mk H
                      clear H
                      go_wp2_with (first | ((with_reducible refine gate_callee (f := 18) rfl ?_); refine goesL_ (some 25) rfl rfl Try.func18 (by kernel_rfl) rfl #[.int .i64 0, .int .i64 (wrap64 (x5_1 + 1))] rfl (by (try simp only [List.map_toArray, List.map_cons, List.map_nil]); first | done | rfl | (simp only [List.length_drop, List.length_take]; rfl)) ?_; (with_reducible refine (route_Next.calls k1 0 (wrap64 (x5_1 + 1)) t219 _ A24.out).mono ?_); rintro e w' ⟨rfl, ⟨nd, rfl⟩⟩; refine ⟨_, rfl, ?_⟩))
                      go_roundg k1
                      case measure => have := HK1.out; omega
                      case rel => exact ⟨(true), (wrap64 (x5_1 + 1)), (by first | rfl | (simp; done) | (simp [*]; done)), (by first | rfl | (simp; done) | (simp [*]; done)), H', ⟨by have := HK1.out; omega⟩, ⟨by repeat (first | (with_reducible first | exact HB.out | apply below_alloc | apply pw_below_drewN | apply below_drew1) | exact HB.out)⟩⟩
                    · replace c37 := Bool.eq_false_iff.mpr c37
                      subst c37
                      have H1 : (careenlaw19_RouteEnds.l0 k1 l0 t215 true (wrap64 (x5_1 + 1))) = some true := by rw [if_neg (show ¬ (false = true) by decide)] at H; exact H
                      clear H
                      have H := H1
                      clear H1
                      have H' := Aside0.mk H
                      clear H
                      go_wp2_with (first | ((with_reducible refine gate_callee (f := 18) rfl ?_); refine goesL_ (some 25) rfl rfl Try.func18 (by kernel_rfl) rfl #[.int .i64 0, .int .i64 (wrap64 (x5_1 + 1))] rfl (by (try simp only [List.map_toArray, List.map_cons, List.map_nil]); first | done | rfl | (simp only [List.length_drop, List.length_take]; rfl)) ?_; (with_reducible refine (route_Next.calls k1 0 (wrap64 (x5_1 + 1)) t219 _ A24.out).mono ?_); rintro e w' ⟨rfl, ⟨nd, rfl⟩⟩; refine ⟨_, rfl, ?_⟩))
                      go_roundg k1
                      case measure => have := HK1.out; omega
                      case rel => exact ⟨(true), (wrap64 (x5_1 + 1)), (by first | rfl | (simp; done) | (simp [*]; done)), (by first | rfl | (simp; done) | (simp [*]; done)), H', ⟨by have := HK1.out; omega⟩, ⟨by repeat (first | (with_reducible first | exact HB.out | apply below_alloc | apply pw_below_drewN | apply below_drew1) | exact HB.out)⟩⟩
                  · rw [if_neg c36] at H
                    have c36b0 : (t219 == 0) = false := beq_eq_false_iff_ne.mpr c36
                    have c36b1 : (t219 != 0) = true := bne_iff_ne.mpr c36
                    exact absurd H (by simp)
                · rw [if_neg c35] at H
                  exact absurd rfl c35
      · rw [if_neg c4] at H
        have c4b0 : decide (x5_1 < 6) = false := decide_eq_false c4
        clear c4
        by_cases c40 : t215 = true
        · subst c40
          have H1 : (some x4_1) = some true := by rw [if_pos rfl] at H; exact H
          clear H
          have H := H1
          clear H1
          have HV_ := Aside0.mk (Option.some.inj H)
          clear H
          go_wp2
          go_ret
          exact ⟨by first | exact congrArg (fun b_ => Ending.returned (Value.bool b_)) HV_.out | (have hv_ := HV_.out; simp only [Bool.and_eq_true, beq_iff_eq] at hv_; simp [hv_]; done) | (have hv_ := HV_.out; simp at hv_; simp [*]; done) | rfl | (simp [errW_none, errW_some] <;> rfl) | (simp [*, errW_none, errW_some] <;> rfl), by repeat (first | (with_reducible first | exact HB.out | apply below_alloc | apply pw_below_drewN | apply below_drew1) | exact HB.out)⟩
        · replace c40 := Bool.eq_false_iff.mpr c40
          subst c40
          have H1 : (some false) = some true := by rw [if_neg (show ¬ (false = true) by decide)] at H; exact H
          clear H
          have H := H1
          clear H1
          exact absurd H (by simp)

/-- THE ONE PURE STATEMENT of careenlaw19_RouteEnds: yours. -/
def careenlaw19_RouteEnds.Pure : Prop := ∀ (l0 : List Int), l0.length ≤ maxLen → l0.length * 8 ≤ 140737488351232 → (∀ x ∈ l0, (Lit.int .i64 x).wf = true) → ∃ k, careenlaw19_RouteEnds.f k l0 = some true
theorem careenlaw19_RouteEnds.walk (P : careenlaw19_RouteEnds.Pure) (a0 : Option Addr) (len0 cap0 : Nat) (z0 : List Int) (w : World) (w0 : (a0 = none ∧ len0 = 0 ∧ cap0 = 0 ∧ z0 = []) ∨ ∃ x, a0 = some x ∧ len0 ≤ cap0 ∧ cap0 ≤ maxLen ∧ z0.length = cap0 ∧ (∀ i, i < z0.length → w.cell? (x.add i) = some (.int .i64 (z0.getD i 0))) ∧ ∀ n ∈ z0, (Lit.int .i64 n).wf = true) (y0 : len0 * 8 ≤ 140737488351232) :
    Calls Try.prog 6 #[.slice a0 len0 cap0] w fun e w' => e = .returned (.bool true) ∧ Below w.heap.size w w' := by
  obtain ⟨l0, rfl, hr0, hm0, hw0, hc0⟩ := ReadsInt.ofRowC w0
  obtain ⟨k, h⟩ := P l0 hm0 y0 hw0
  refine (careenlaw19_RouteEnds.calls k _ _ l0 w (Kd.C_of_reads (d := (0 : Int)) (h1 := fun _ => rfl) hr0) hc0 h).mono ?_
  rintro e w' ⟨rfl, hd⟩
  exact ⟨rfl, hd⟩

end Go.Proofs.Ytpkcofmoplnahaa.PAll
