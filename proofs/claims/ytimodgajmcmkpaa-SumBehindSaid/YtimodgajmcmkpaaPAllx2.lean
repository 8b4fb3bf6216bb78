-- Written by a program of this session (wip/xpatch.py, wip/xprint.sh) for seat Ytimodgajmcmkpaa.
import Derived.Test.YtimodgajmcmkpaaPAllx0
import Derived.Test.YtimodgajmcmkpaaPAllx1
namespace Go.Proofs.Ytimodgajmcmkpaa.PAll
attribute [local go_sem high] Go.Proofs.Ytimodgajmcmkpaa.Hand.unary_xor_u32
open Go.RowKit Go.Proofs.YtimodgajmcmkpaaW.PrintWords Go.Proofs.YtimodgajmcmkpaaW.PrintLast Go.Proofs.YtimodgajmcmkpaaW.PrintMore
attribute [local go_sem] max2_int min2_int max_two min_two max_three min_three max_four min_four   -- for this text's walks alone
set_option linter.unusedVariables false
set_option linter.unusedSimpArgs false

/-! ### careenlaw05_SumTells: function 3 -/
def careenlaw05_SumTells.j0 : Nat → ByteArray → Int → Bool → Option (Bool)
  | 0, _, _, _ => none
  | k + 1, x0, x1, x5 => if x5 = true then ((sum_Of.f k x0).bind fun t114 => ((careenref05_Of.f k x0).bind fun t115 => (if t114 = t115 then ((sum_Bytes.f k x1).bind fun t116 => ((careenref05_Bytes.f k x1).bind fun t117 => (if t116.toList = t117.toList then ((careenlaw05_pick.f x1 4294967296).bind fun t118 => ((sum_Bytes.f k t118).bind fun t119 => ((careenlaw05_pick.f x1 4294967296).bind fun t120 => ((careenref05_Bytes.f k t120).bind fun t121 => (some (t119.toList == t121.toList)))))) else (some false)))) else (some false)))) else (some false)
def careenlaw05_SumTells.f (k : Nat) (a0 : ByteArray) (a1 : Int) : Option (Bool) := (careenlaw05_awake.f k).bind fun t113 => (if (a0.size : Int) > 3000 then (if 0 ≤ 3000 then (if 3000 ≤ (a0.size : Int) then (careenlaw05_SumTells.j0 k (a0.extract 0 3000) a1 t113) else (none)) else (none)) else (careenlaw05_SumTells.j0 k a0 a1 t113))
theorem careenlaw05_SumTells.mono_l : ∀ k, (∀ y0 y1 y2, LeO (careenlaw05_SumTells.j0 k y0 y1 y2) (careenlaw05_SumTells.j0 (k + 1) y0 y1 y2))
  | 0 => fun _ _ _ r h => by simp [careenlaw05_SumTells.j0] at h
  | k + 1 => by
    have ih0 := careenlaw05_SumTells.mono_l k
    · intro y0 y1 y2
      unfold careenlaw05_SumTells.j0
      repeat' first
      | (with_reducible exact ih0 _ _ _)
      | (with_reducible exact careenlaw05_awake.mono _)
      | (with_reducible exact careenref05_Bytes.mono _ _)
      | (with_reducible exact careenref05_Of.mono _ _)
      | (with_reducible exact sum_Bytes.mono _ _)
      | (with_reducible exact sum_Of.mono _ _)
      | (with_reducible exact LeO.refl _)
      | (with_reducible exact LeO.none _)
      | (with_reducible refine LeO.ite ?_ ?_)
      | (with_reducible refine LeO.bind ?_ (fun _ => ?_))
      | exact ih0 _ _ _
      | exact careenlaw05_awake.mono _
      | exact careenref05_Bytes.mono _ _
      | exact careenref05_Of.mono _ _
      | exact sum_Bytes.mono _ _
      | exact sum_Of.mono _ _
      | exact LeO.none _
      | refine LeO.ite ?_ ?_
      | refine LeO.bind ?_ (fun _ => ?_)
theorem careenlaw05_SumTells.mono : ∀ a0 a1 k, LeO (careenlaw05_SumTells.f k a0 a1) (careenlaw05_SumTells.f (k + 1) a0 a1) := by
  intro a0 a1 k
  have ih0 := careenlaw05_SumTells.mono_l k
  unfold careenlaw05_SumTells.f
  repeat' first
      | (with_reducible exact ih0 _ _ _)
      | (with_reducible exact careenlaw05_awake.mono _)
      | (with_reducible exact careenref05_Bytes.mono _ _)
      | (with_reducible exact careenref05_Of.mono _ _)
      | (with_reducible exact sum_Bytes.mono _ _)
      | (with_reducible exact sum_Of.mono _ _)
      | (with_reducible exact LeO.refl _)
      | (with_reducible exact LeO.none _)
      | (with_reducible refine LeO.ite ?_ ?_)
      | (with_reducible refine LeO.bind ?_ (fun _ => ?_))
      | exact ih0 _ _ _
      | exact careenlaw05_awake.mono _
      | exact careenref05_Bytes.mono _ _
      | exact careenref05_Of.mono _ _
      | exact sum_Bytes.mono _ _
      | exact sum_Of.mono _ _
      | exact LeO.none _
      | refine LeO.ite ?_ ?_
      | refine LeO.bind ?_ (fun _ => ?_)
set_option maxHeartbeats 8000000 in
set_option maxRecDepth 100000 in
theorem careenlaw05_SumTells.calls (k : Nat) (a0 : ByteArray) (a1 : Int) (r : Bool) (w : World) (h : careenlaw05_SumTells.f k a0 a1 = some r) :
    Calls Try.prog 3 #[.string a0, .int .i64 a1] w fun e w' => e = .returned (.bool r) ∧ Below w.heap.size w w' := by
  have HB := Aside0.mk (Below.refl w.heap.size w)
  have H : ((careenlaw05_awake.f k).bind fun t113 => (if (a0.size : Int) > 3000 then (if 0 ≤ 3000 then (if 3000 ≤ (a0.size : Int) then (careenlaw05_SumTells.j0 k (a0.extract 0 3000) a1 t113) else (none)) else (none)) else (careenlaw05_SumTells.j0 k a0 a1 t113))) = some r := h
  clear h
  replace H := Option.bind_eq_some_iff.mp H
  obtain ⟨t113, A30, H⟩ := H
  replace H : (if (a0.size : Int) > 3000 then (if 0 ≤ 3000 then (if 3000 ≤ (a0.size : Int) then (careenlaw05_SumTells.j0 k (a0.extract 0 3000) a1 t113) else (none)) else (none)) else (careenlaw05_SumTells.j0 k a0 a1 t113)) = some r := H
  have A3 := Aside0.mk A30
  clear A30
  have HC4 := Aside0.mk H
  clear H
  go_enter Try.func3, Try.ntmps3
  go_upto_if 9 with (first | ((with_reducible refine gate_callee (f := 9) rfl ?_); refine goesL_ (some 6) rfl rfl Try.func9 (by kernel_rfl) rfl #[] rfl (by (try simp only [List.map_toArray, List.map_cons, List.map_nil]); first | done | rfl | (simp only [List.length_drop, List.length_take]; rfl)) ?_; (with_reducible refine (careenlaw05_awake.calls k  t113 _ A3.out).mono ?_); rintro e w5 ⟨rfl, hb⟩; refine ⟨_, rfl, ?_⟩; have n0_ := Aside0.mk (below_step (by repeat (first | (with_reducible first | exact HB.out | apply below_alloc | apply pw_below_drewN | apply below_drew1) | exact HB.out)) hb); clear HB; have HB := n0_; clear n0_; (try clear hb); (try clear hb2); (try clear hk); (try clear hi)))
  (try simp only [Act.put, List.setIfInBounds_toArray, List.set_cons_zero, List.set_cons_succ])
  go_cut [0] (fun v0 wc => ∃ (kq : Nat) (x0_3 : ByteArray), v0 = .string x0_3 ∧ Aside0 (careenlaw05_SumTells.j0 kq x0_3 a1 t113 = some r) ∧ Aside0 (kq ≤ k) ∧ Aside0 (Below w.heap.size w wc))
  case first =>
    have H := HC4.out
    clear HC4
    by_cases c6 : (a0.size : Int) > 3000
    · rw [if_pos c6] at H
      have c6b0 : decide (3000 < (a0.size : Int)) = true := decide_eq_true c6
      have c6b1 : decide (3000 < a0.size) = true := decide_eq_true (by omega)
      clear c6
      (first | rw [c6b0] | (simp only [i64_w, i32_w]; rw [c6b0]) | skip)
      by_cases c7 : 0 ≤ 3000
      · rw [if_pos c7] at H
        have c7b0 := eq_true c7
        have c7b1 : decide (0 ≤ 3000) = true := decide_eq_true c7
        clear c7
        by_cases c8 : 3000 ≤ (a0.size : Int)
        · rw [if_pos c8] at H
          have c8b0 := eq_true c8
          have c8b1 : decide (3000 ≤ (a0.size : Int)) = true := decide_eq_true c8
          clear c8
          have H' := Aside0.mk H
          clear H
          go_wp2
          go_meet
          case rel => exact ⟨_, (a0.extract 0 3000), (by first | rfl | (simp; done) | (simp [*]; done)), H', ⟨by first | omega | exact Nat.le_refl _⟩, ⟨by repeat (first | (with_reducible first | exact HB.out | apply below_alloc | apply pw_below_drewN | apply below_drew1) | exact HB.out)⟩⟩
        · rw [if_neg c8] at H
          exact absurd H (by simp)
      · rw [if_neg c7] at H
        exact absurd H (by simp)
    · rw [if_neg c6] at H
      have c6b0 : decide (3000 < (a0.size : Int)) = false := decide_eq_false c6
      have c6b1 : decide (3000 < a0.size) = false := decide_eq_false (by omega)
      clear c6
      (first | rw [c6b0] | (simp only [i64_w, i32_w]; rw [c6b0]) | skip)
      have H' := Aside0.mk H
      clear H
      go_wp2
      go_meet
      case rel => exact ⟨_, (a0), (by first | rfl | (simp; done) | (simp [*]; done)), H', ⟨by first | omega | exact Nat.le_refl _⟩, ⟨by repeat (first | (with_reducible first | exact HB.out | apply below_alloc | apply pw_below_drewN | apply below_drew1) | exact HB.out)⟩⟩
  case rest =>
    clear HC4
    try clear p2
    try clear c3
    try clear c6
    try clear c6b0
    try clear c6b1
    try clear c7
    try clear c7b0
    try clear c7b1
    try clear c8
    try clear c8b0
    try clear c8b1
    obtain ⟨kq, x0_3, rfl, HA, HJ3, HB⟩ := hcut
    cases kq with
    | zero => exact absurd HA.out (by simp [careenlaw05_SumTells.j0])
    | succ kj3 =>
      have H := HA.out
      clear HA
      simp only [careenlaw05_SumTells.j0] at H
      by_cases c9 : t113 = true
      · subst c9
        have H1 : ((sum_Of.f kj3 x0_3).bind fun t114 => ((careenref05_Of.f kj3 x0_3).bind fun t115 => (if t114 = t115 then ((sum_Bytes.f kj3 a1).bind fun t116 => ((careenref05_Bytes.f kj3 a1).bind fun t117 => (if t116.toList = t117.toList then ((careenlaw05_pick.f a1 4294967296).bind fun t118 => ((sum_Bytes.f kj3 t118).bind fun t119 => ((careenlaw05_pick.f a1 4294967296).bind fun t120 => ((careenref05_Bytes.f kj3 t120).bind fun t121 => (some (t119.toList == t121.toList)))))) else (some false)))) else (some false)))) = some r := by rw [if_pos rfl] at H; exact H
        clear H
        have H := H1
        clear H1
        replace H := Option.bind_eq_some_iff.mp H
        obtain ⟨t114, A100, H⟩ := H
        replace H : ((careenref05_Of.f kj3 x0_3).bind fun t115 => (if t114 = t115 then ((sum_Bytes.f kj3 a1).bind fun t116 => ((careenref05_Bytes.f kj3 a1).bind fun t117 => (if t116.toList = t117.toList then ((careenlaw05_pick.f a1 4294967296).bind fun t118 => ((sum_Bytes.f kj3 t118).bind fun t119 => ((careenlaw05_pick.f a1 4294967296).bind fun t120 => ((careenref05_Bytes.f kj3 t120).bind fun t121 => (some (t119.toList == t121.toList)))))) else (some false)))) else (some false))) = some r := H
        have A10 := Aside0.mk A100
        clear A100
        replace H := Option.bind_eq_some_iff.mp H
        obtain ⟨t115, A110, H⟩ := H
        replace H : (if t114 = t115 then ((sum_Bytes.f kj3 a1).bind fun t116 => ((careenref05_Bytes.f kj3 a1).bind fun t117 => (if t116.toList = t117.toList then ((careenlaw05_pick.f a1 4294967296).bind fun t118 => ((sum_Bytes.f kj3 t118).bind fun t119 => ((careenlaw05_pick.f a1 4294967296).bind fun t120 => ((careenref05_Bytes.f kj3 t120).bind fun t121 => (some (t119.toList == t121.toList)))))) else (some false)))) else (some false)) = some r := H
        have A11 := Aside0.mk A110
        clear A110
        by_cases c12 : t114 = t115
        · rw [if_pos c12] at H
          have c12b0 : (t114 == t115) = true := beq_iff_eq.mpr c12
          have c12b1 : (t114 != t115) = false := bne_eq_false_iff_eq.mpr c12
          clear c12
          replace H := Option.bind_eq_some_iff.mp H
          obtain ⟨t116, A130, H⟩ := H
          replace H : ((careenref05_Bytes.f kj3 a1).bind fun t117 => (if t116.toList = t117.toList then ((careenlaw05_pick.f a1 4294967296).bind fun t118 => ((sum_Bytes.f kj3 t118).bind fun t119 => ((careenlaw05_pick.f a1 4294967296).bind fun t120 => ((careenref05_Bytes.f kj3 t120).bind fun t121 => (some (t119.toList == t121.toList)))))) else (some false))) = some r := H
          have A13 := Aside0.mk A130
          clear A130
          replace H := Option.bind_eq_some_iff.mp H
          obtain ⟨t117, A140, H⟩ := H
          replace H : (if t116.toList = t117.toList then ((careenlaw05_pick.f a1 4294967296).bind fun t118 => ((sum_Bytes.f kj3 t118).bind fun t119 => ((careenlaw05_pick.f a1 4294967296).bind fun t120 => ((careenref05_Bytes.f kj3 t120).bind fun t121 => (some (t119.toList == t121.toList)))))) else (some false)) = some r := H
          have A14 := Aside0.mk A140
          clear A140
          by_cases c15 : t116.toList = t117.toList
          · rw [if_pos c15] at H
            have c15b0 : (t116.toList == t117.toList) = true := beq_iff_eq.mpr c15
            have c15b1 : (t116.toList != t117.toList) = false := bne_eq_false_iff_eq.mpr c15
            clear c15
            replace H := Option.bind_eq_some_iff.mp H
            obtain ⟨t118, A160, H⟩ := H
            replace H : ((sum_Bytes.f kj3 t118).bind fun t119 => ((careenlaw05_pick.f a1 4294967296).bind fun t120 => ((careenref05_Bytes.f kj3 t120).bind fun t121 => (some (t119.toList == t121.toList))))) = some r := H
            have A16 := Aside0.mk A160
            clear A160
            replace H := Option.bind_eq_some_iff.mp H
            obtain ⟨t119, A170, H⟩ := H
            replace H : ((careenlaw05_pick.f a1 4294967296).bind fun t120 => ((careenref05_Bytes.f kj3 t120).bind fun t121 => (some (t119.toList == t121.toList)))) = some r := H
            have A17 := Aside0.mk A170
            clear A170
            replace H := Option.bind_eq_some_iff.mp H
            obtain ⟨t120, A180, H⟩ := H
            replace H : ((careenref05_Bytes.f kj3 t120).bind fun t121 => (some (t119.toList == t121.toList))) = some r := H
            have A18 := Aside0.mk A180
            clear A180
            obtain rfl : t118 = t120 := Option.some.inj (A16.out.symm.trans A18.out)
            replace H := Option.bind_eq_some_iff.mp H
            obtain ⟨t121, A190, H⟩ := H
            replace H : (some (t119.toList == t121.toList)) = some r := H
            have A19 := Aside0.mk A190
            clear A190
            obtain rfl := Option.some.inj H
            go_wp2_with (first | (go_at_call 10; (with_reducible refine (sum_Of.calls kj3 x0_3 t114 _ A10.out).mono ?_); rintro e w' ⟨rfl, ⟨nd, rfl⟩⟩) | (go_at_call 11; (with_reducible refine (careenref05_Of.calls kj3 x0_3 t115 _ A11.out).mono ?_); rintro e w' ⟨rfl, ⟨nd, rfl⟩⟩) | (go_at_call 12; (with_reducible refine (sum_Bytes.calls kj3 a1 t116 _ A13.out).mono ?_); rintro e w20 ⟨rfl, hb⟩; have n0_ := Aside0.mk (below_step (by repeat (first | (with_reducible first | exact HB.out | apply below_alloc | apply pw_below_drewN | apply below_drew1) | exact HB.out)) hb); clear HB; have HB := n0_; clear n0_; (try clear hb); (try clear hb2); (try clear hk); (try clear hi)) | (go_at_call 13; (with_reducible refine (careenref05_Bytes.calls kj3 a1 t117 _ A14.out).mono ?_); rintro e w21 ⟨rfl, hb⟩; have n0_ := Aside0.mk (below_step (by repeat (first | (with_reducible first | exact HB.out | apply below_alloc | apply pw_below_drewN | apply below_drew1) | exact HB.out)) hb); clear HB; have HB := n0_; clear n0_; (try clear hb); (try clear hb2); (try clear hk); (try clear hi)) | (go_at_call 14; (with_reducible refine (careenlaw05_pick.calls a1 4294967296 t118 _ A16.out).mono ?_); rintro e w' ⟨rfl, ⟨nd, rfl⟩⟩) | (go_at_call 12; (with_reducible refine (sum_Bytes.calls kj3 t118 t119 _ A17.out).mono ?_); rintro e w22 ⟨rfl, hb⟩; have n0_ := Aside0.mk (below_step (by repeat (first | (with_reducible first | exact HB.out | apply below_alloc | apply pw_below_drewN | apply below_drew1) | exact HB.out)) hb); clear HB; have HB := n0_; clear n0_; (try clear hb); (try clear hb2); (try clear hk); (try clear hi)) | (go_at_call 14; (with_reducible refine (careenlaw05_pick.calls a1 4294967296 t118 _ A18.out).mono ?_); rintro e w' ⟨rfl, ⟨nd, rfl⟩⟩) | (go_at_call 13; (with_reducible refine (careenref05_Bytes.calls kj3 t118 t121 _ A19.out).mono ?_); rintro e w23 ⟨rfl, hb⟩; have n0_ := Aside0.mk (below_step (by repeat (first | (with_reducible first | exact HB.out | apply below_alloc | apply pw_below_drewN | apply below_drew1) | exact HB.out)) hb); clear HB; have HB := n0_; clear n0_; (try clear hb); (try clear hb2); (try clear hk); (try clear hi)))
            go_ret
            exact ⟨by first | rfl | (simp [errW_none, errW_some] <;> rfl) | (simp [*, errW_none, errW_some] <;> rfl), by repeat (first | (with_reducible first | exact HB.out | apply below_alloc | apply pw_below_drewN | apply below_drew1) | exact HB.out)⟩
          · rw [if_neg c15] at H
            have c15b0 : (t116.toList == t117.toList) = false := beq_eq_false_iff_ne.mpr c15
            have c15b1 : (t116.toList != t117.toList) = true := bne_iff_ne.mpr c15
            obtain rfl := Option.some.inj H
            go_wp2_with (first | (go_at_call 10; (with_reducible refine (sum_Of.calls kj3 x0_3 t114 _ A10.out).mono ?_); rintro e w' ⟨rfl, ⟨nd, rfl⟩⟩) | (go_at_call 11; (with_reducible refine (careenref05_Of.calls kj3 x0_3 t115 _ A11.out).mono ?_); rintro e w' ⟨rfl, ⟨nd, rfl⟩⟩) | (go_at_call 12; (with_reducible refine (sum_Bytes.calls kj3 a1 t116 _ A13.out).mono ?_); rintro e w24 ⟨rfl, hb⟩; have n0_ := Aside0.mk (below_step (by repeat (first | (with_reducible first | exact HB.out | apply below_alloc | apply pw_below_drewN | apply below_drew1) | exact HB.out)) hb); clear HB; have HB := n0_; clear n0_; (try clear hb); (try clear hb2); (try clear hk); (try clear hi)) | (go_at_call 13; (with_reducible refine (careenref05_Bytes.calls kj3 a1 t117 _ A14.out).mono ?_); rintro e w25 ⟨rfl, hb⟩; have n0_ := Aside0.mk (below_step (by repeat (first | (with_reducible first | exact HB.out | apply below_alloc | apply pw_below_drewN | apply below_drew1) | exact HB.out)) hb); clear HB; have HB := n0_; clear n0_; (try clear hb); (try clear hb2); (try clear hk); (try clear hi)))
            go_ret
            exact ⟨by first | rfl | (simp [errW_none, errW_some] <;> rfl) | (simp [*, errW_none, errW_some] <;> rfl), by repeat (first | (with_reducible first | exact HB.out | apply below_alloc | apply pw_below_drewN | apply below_drew1) | exact HB.out)⟩
        · rw [if_neg c12] at H
          have c12b0 : (t114 == t115) = false := beq_eq_false_iff_ne.mpr c12
          have c12b1 : (t114 != t115) = true := bne_iff_ne.mpr c12
          obtain rfl := Option.some.inj H
          go_wp2_with (first | (go_at_call 10; (with_reducible refine (sum_Of.calls kj3 x0_3 t114 _ A10.out).mono ?_); rintro e w' ⟨rfl, ⟨nd, rfl⟩⟩) | (go_at_call 11; (with_reducible refine (careenref05_Of.calls kj3 x0_3 t115 _ A11.out).mono ?_); rintro e w' ⟨rfl, ⟨nd, rfl⟩⟩))
          go_ret
          exact ⟨by first | rfl | (simp [errW_none, errW_some] <;> rfl) | (simp [*, errW_none, errW_some] <;> rfl), by repeat (first | (with_reducible first | exact HB.out | apply below_alloc | apply pw_below_drewN | apply below_drew1) | exact HB.out)⟩
      · replace c9 := Bool.eq_false_iff.mpr c9
        subst c9
        have H1 : (some false) = some r := by rw [if_neg (show ¬ (false = true) by decide)] at H; exact H
        clear H
        have H := H1
        clear H1
        obtain rfl := Option.some.inj H
        go_wp2
        go_ret
        exact ⟨by first | rfl | (simp [errW_none, errW_some] <;> rfl) | (simp [*, errW_none, errW_some] <;> rfl), by repeat (first | (with_reducible first | exact HB.out | apply below_alloc | apply pw_below_drewN | apply below_drew1) | exact HB.out)⟩

/-- THE ONE PURE STATEMENT of careenlaw05_SumTells: yours. -/
def careenlaw05_SumTells.Pure : Prop := ∀ (a0 : ByteArray) (a1 : Int), a0.size ≤ 140737488351232 → (Lit.int .i64 a1).wf = true → ∃ k, careenlaw05_SumTells.f k a0 a1 = some true
theorem careenlaw05_SumTells.walk (P : careenlaw05_SumTells.Pure) (a0 : ByteArray) (a1 : Int) (w : World) (w0 : a0.size ≤ 140737488351232) (w1 : (Lit.int .i64 a1).wf = true) :
    Calls Try.prog 3 #[.string a0, .int .i64 a1] w fun e w' => e = .returned (.bool true) ∧ Below w.heap.size w w' := by
  obtain ⟨k, h⟩ := P a0 a1 w0 w1
  refine (careenlaw05_SumTells.calls k a0 a1 true w h).mono ?_
  rintro e w' ⟨rfl, hd⟩
  exact ⟨rfl, hd⟩

-- NOT PRINTED: function 4 (careenlaw05_SumChanged)

/-! ### careenlaw05_SumBehind: function 5 -/
def careenlaw05_SumBehind.f (k : Nat) (a0 : ByteArray) (a1 : ByteArray) (a2 : ByteArray) : Option (Bool) := (careenlaw05_awake.f k).bind fun t123 => (if 0 ≤ (mn (a0.size : Int) 1000) then (if (mn (a0.size : Int) 1000) ≤ (a0.size : Int) then (if 0 ≤ (mn (a1.size : Int) 1000) then (if (mn (a1.size : Int) 1000) ≤ (a1.size : Int) then (if 0 ≤ (mn (a2.size : Int) 1000) then (if (mn (a2.size : Int) 1000) ≤ (a2.size : Int) then ((sum_Of.f k (a0.extract 0 ((mn (a0.size : Int) 1000) : Int).toNat)).bind fun t124 => ((sum_Bytes.f k t124).bind fun t125 => (if (a0.extract 0 ((mn (a0.size : Int) 1000) : Int).toNat).size + t125.size ≤ 9223372036854775807 then ((sum_Of.f k (a1.extract 0 ((mn (a1.size : Int) 1000) : Int).toNat)).bind fun t126 => ((sum_Bytes.f k t126).bind fun t127 => (if (a1.extract 0 ((mn (a1.size : Int) 1000) : Int).toNat).size + t127.size ≤ 9223372036854775807 then (if t123 = true then ((sum_Of.f k ((a0.extract 0 ((mn (a0.size : Int) 1000) : Int).toNat) ++ t125)).bind fun t128 => ((sum_Of.f k ((a1.extract 0 ((mn (a1.size : Int) 1000) : Int).toNat) ++ t127)).bind fun t129 => (if t128 = t129 then (if ((a0.extract 0 ((mn (a0.size : Int) 1000) : Int).toNat) ++ t125).size + (a2.extract 0 ((mn (a2.size : Int) 1000) : Int).toNat).size ≤ 9223372036854775807 then ((sum_Of.f k (((a0.extract 0 ((mn (a0.size : Int) 1000) : Int).toNat) ++ t125) ++ (a2.extract 0 ((mn (a2.size : Int) 1000) : Int).toNat))).bind fun t130 => (if ((a1.extract 0 ((mn (a1.size : Int) 1000) : Int).toNat) ++ t127).size + (a2.extract 0 ((mn (a2.size : Int) 1000) : Int).toNat).size ≤ 9223372036854775807 then ((sum_Of.f k (((a1.extract 0 ((mn (a1.size : Int) 1000) : Int).toNat) ++ t127) ++ (a2.extract 0 ((mn (a2.size : Int) 1000) : Int).toNat))).bind fun t131 => (if t130 = t131 then ((sum_Of.f k (a0.extract 0 ((mn (a0.size : Int) 1000) : Int).toNat)).bind fun t132 => ((sum_Of.f k (a1.extract 0 ((mn (a1.size : Int) 1000) : Int).toNat)).bind fun t133 => (if (a0.extract 0 ((mn (a0.size : Int) 1000) : Int).toNat).size + (a2.extract 0 ((mn (a2.size : Int) 1000) : Int).toNat).size ≤ 9223372036854775807 then ((sum_Of.f k ((a0.extract 0 ((mn (a0.size : Int) 1000) : Int).toNat) ++ (a2.extract 0 ((mn (a2.size : Int) 1000) : Int).toNat))).bind fun t134 => (if (a1.extract 0 ((mn (a1.size : Int) 1000) : Int).toNat).size + (a2.extract 0 ((mn (a2.size : Int) 1000) : Int).toNat).size ≤ 9223372036854775807 then ((sum_Of.f k ((a1.extract 0 ((mn (a1.size : Int) 1000) : Int).toNat) ++ (a2.extract 0 ((mn (a2.size : Int) 1000) : Int).toNat))).bind fun t135 => (some ((t132 == t133) == (t134 == t135)))) else (none))) else (none)))) else (some false))) else (none))) else (none)) else (some false)))) else (some false)) else (none)))) else (none)))) else (none)) else (none)) else (none)) else (none)) else (none)) else (none))
theorem careenlaw05_SumBehind.mono : ∀ a0 a1 a2 k, LeO (careenlaw05_SumBehind.f k a0 a1 a2) (careenlaw05_SumBehind.f (k + 1) a0 a1 a2) := by
  intro a0 a1 a2 k
  unfold careenlaw05_SumBehind.f
  repeat' first
      | (with_reducible exact careenlaw05_awake.mono _)
      | (with_reducible exact sum_Bytes.mono _ _)
      | (with_reducible exact sum_Of.mono _ _)
      | (with_reducible exact LeO.refl _)
      | (with_reducible exact LeO.none _)
      | (with_reducible refine LeO.ite ?_ ?_)
      | (with_reducible refine LeO.bind ?_ (fun _ => ?_))
      | exact careenlaw05_awake.mono _
      | exact sum_Bytes.mono _ _
      | exact sum_Of.mono _ _
      | exact LeO.none _
      | refine LeO.ite ?_ ?_
      | refine LeO.bind ?_ (fun _ => ?_)
set_option maxHeartbeats 8000000 in
set_option maxRecDepth 100000 in
theorem careenlaw05_SumBehind.calls (k : Nat) (a0 : ByteArray) (a1 : ByteArray) (a2 : ByteArray) (r : Bool) (w : World) (h : careenlaw05_SumBehind.f k a0 a1 a2 = some r) :
    Calls Try.prog 5 #[.string a0, .string a1, .string a2] w fun e w' => e = .returned (.bool r) ∧ Below w.heap.size w w' := by
  have HB := Aside0.mk (Below.refl w.heap.size w)
  have H : ((careenlaw05_awake.f k).bind fun t123 => (if 0 ≤ (mn (a0.size : Int) 1000) then (if (mn (a0.size : Int) 1000) ≤ (a0.size : Int) then (if 0 ≤ (mn (a1.size : Int) 1000) then (if (mn (a1.size : Int) 1000) ≤ (a1.size : Int) then (if 0 ≤ (mn (a2.size : Int) 1000) then (if (mn (a2.size : Int) 1000) ≤ (a2.size : Int) then ((sum_Of.f k (a0.extract 0 ((mn (a0.size : Int) 1000) : Int).toNat)).bind fun t124 => ((sum_Bytes.f k t124).bind fun t125 => (if (a0.extract 0 ((mn (a0.size : Int) 1000) : Int).toNat).size + t125.size ≤ 9223372036854775807 then ((sum_Of.f k (a1.extract 0 ((mn (a1.size : Int) 1000) : Int).toNat)).bind fun t126 => ((sum_Bytes.f k t126).bind fun t127 => (if (a1.extract 0 ((mn (a1.size : Int) 1000) : Int).toNat).size + t127.size ≤ 9223372036854775807 then (if t123 = true then ((sum_Of.f k ((a0.extract 0 ((mn (a0.size : Int) 1000) : Int).toNat) ++ t125)).bind fun t128 => ((sum_Of.f k ((a1.extract 0 ((mn (a1.size : Int) 1000) : Int).toNat) ++ t127)).bind fun t129 => (if t128 = t129 then (if ((a0.extract 0 ((mn (a0.size : Int) 1000) : Int).toNat) ++ t125).size + (a2.extract 0 ((mn (a2.size : Int) 1000) : Int).toNat).size ≤ 9223372036854775807 then ((sum_Of.f k (((a0.extract 0 ((mn (a0.size : Int) 1000) : Int).toNat) ++ t125) ++ (a2.extract 0 ((mn (a2.size : Int) 1000) : Int).toNat))).bind fun t130 => (if ((a1.extract 0 ((mn (a1.size : Int) 1000) : Int).toNat) ++ t127).size + (a2.extract 0 ((mn (a2.size : Int) 1000) : Int).toNat).size ≤ 9223372036854775807 then ((sum_Of.f k (((a1.extract 0 ((mn (a1.size : Int) 1000) : Int).toNat) ++ t127) ++ (a2.extract 0 ((mn (a2.size : Int) 1000) : Int).toNat))).bind fun t131 => (if t130 = t131 then ((sum_Of.f k (a0.extract 0 ((mn (a0.size : Int) 1000) : Int).toNat)).bind fun t132 => ((sum_Of.f k (a1.extract 0 ((mn (a1.size : Int) 1000) : Int).toNat)).bind fun t133 => (if (a0.extract 0 ((mn (a0.size : Int) 1000) : Int).toNat).size + (a2.extract 0 ((mn (a2.size : Int) 1000) : Int).toNat).size ≤ 9223372036854775807 then ((sum_Of.f k ((a0.extract 0 ((mn (a0.size : Int) 1000) : Int).toNat) ++ (a2.extract 0 ((mn (a2.size : Int) 1000) : Int).toNat))).bind fun t134 => (if (a1.extract 0 ((mn (a1.size : Int) 1000) : Int).toNat).size + (a2.extract 0 ((mn (a2.size : Int) 1000) : Int).toNat).size ≤ 9223372036854775807 then ((sum_Of.f k ((a1.extract 0 ((mn (a1.size : Int) 1000) : Int).toNat) ++ (a2.extract 0 ((mn (a2.size : Int) 1000) : Int).toNat))).bind fun t135 => (some ((t132 == t133) == (t134 == t135)))) else (none))) else (none)))) else (some false))) else (none))) else (none)) else (some false)))) else (some false)) else (none)))) else (none)))) else (none)) else (none)) else (none)) else (none)) else (none)) else (none))) = some r := h
  clear h
  replace H := Option.bind_eq_some_iff.mp H
  obtain ⟨t123, A40, H⟩ := H
  replace H : (if 0 ≤ (mn (a0.size : Int) 1000) then (if (mn (a0.size : Int) 1000) ≤ (a0.size : Int) then (if 0 ≤ (mn (a1.size : Int) 1000) then (if (mn (a1.size : Int) 1000) ≤ (a1.size : Int) then (if 0 ≤ (mn (a2.size : Int) 1000) then (if (mn (a2.size : Int) 1000) ≤ (a2.size : Int) then ((sum_Of.f k (a0.extract 0 ((mn (a0.size : Int) 1000) : Int).toNat)).bind fun t124 => ((sum_Bytes.f k t124).bind fun t125 => (if (a0.extract 0 ((mn (a0.size : Int) 1000) : Int).toNat).size + t125.size ≤ 9223372036854775807 then ((sum_Of.f k (a1.extract 0 ((mn (a1.size : Int) 1000) : Int).toNat)).bind fun t126 => ((sum_Bytes.f k t126).bind fun t127 => (if (a1.extract 0 ((mn (a1.size : Int) 1000) : Int).toNat).size + t127.size ≤ 9223372036854775807 then (if t123 = true then ((sum_Of.f k ((a0.extract 0 ((mn (a0.size : Int) 1000) : Int).toNat) ++ t125)).bind fun t128 => ((sum_Of.f k ((a1.extract 0 ((mn (a1.size : Int) 1000) : Int).toNat) ++ t127)).bind fun t129 => (if t128 = t129 then (if ((a0.extract 0 ((mn (a0.size : Int) 1000) : Int).toNat) ++ t125).size + (a2.extract 0 ((mn (a2.size : Int) 1000) : Int).toNat).size ≤ 9223372036854775807 then ((sum_Of.f k (((a0.extract 0 ((mn (a0.size : Int) 1000) : Int).toNat) ++ t125) ++ (a2.extract 0 ((mn (a2.size : Int) 1000) : Int).toNat))).bind fun t130 => (if ((a1.extract 0 ((mn (a1.size : Int) 1000) : Int).toNat) ++ t127).size + (a2.extract 0 ((mn (a2.size : Int) 1000) : Int).toNat).size ≤ 9223372036854775807 then ((sum_Of.f k (((a1.extract 0 ((mn (a1.size : Int) 1000) : Int).toNat) ++ t127) ++ (a2.extract 0 ((mn (a2.size : Int) 1000) : Int).toNat))).bind fun t131 => (if t130 = t131 then ((sum_Of.f k (a0.extract 0 ((mn (a0.size : Int) 1000) : Int).toNat)).bind fun t132 => ((sum_Of.f k (a1.extract 0 ((mn (a1.size : Int) 1000) : Int).toNat)).bind fun t133 => (if (a0.extract 0 ((mn (a0.size : Int) 1000) : Int).toNat).size + (a2.extract 0 ((mn (a2.size : Int) 1000) : Int).toNat).size ≤ 9223372036854775807 then ((sum_Of.f k ((a0.extract 0 ((mn (a0.size : Int) 1000) : Int).toNat) ++ (a2.extract 0 ((mn (a2.size : Int) 1000) : Int).toNat))).bind fun t134 => (if (a1.extract 0 ((mn (a1.size : Int) 1000) : Int).toNat).size + (a2.extract 0 ((mn (a2.size : Int) 1000) : Int).toNat).size ≤ 9223372036854775807 then ((sum_Of.f k ((a1.extract 0 ((mn (a1.size : Int) 1000) : Int).toNat) ++ (a2.extract 0 ((mn (a2.size : Int) 1000) : Int).toNat))).bind fun t135 => (some ((t132 == t133) == (t134 == t135)))) else (none))) else (none)))) else (some false))) else (none))) else (none)) else (some false)))) else (some false)) else (none)))) else (none)))) else (none)) else (none)) else (none)) else (none)) else (none)) else (none)) = some r := H
  have A4 := Aside0.mk A40
  clear A40
  obtain ⟨ji5, hji5⟩ : ∃ j_ : Int, (mn (a0.size : Int) 1000) = j_ := ⟨_, rfl⟩
  replace H : (if 0 ≤ (ji5) then (if (ji5) ≤ (a0.size : Int) then (if 0 ≤ (mn (a1.size : Int) 1000) then (if (mn (a1.size : Int) 1000) ≤ (a1.size : Int) then (if 0 ≤ (mn (a2.size : Int) 1000) then (if (mn (a2.size : Int) 1000) ≤ (a2.size : Int) then ((sum_Of.f k (a0.extract 0 ((ji5) : Int).toNat)).bind fun t124 => ((sum_Bytes.f k t124).bind fun t125 => (if (a0.extract 0 ((ji5) : Int).toNat).size + t125.size ≤ 9223372036854775807 then ((sum_Of.f k (a1.extract 0 ((mn (a1.size : Int) 1000) : Int).toNat)).bind fun t126 => ((sum_Bytes.f k t126).bind fun t127 => (if (a1.extract 0 ((mn (a1.size : Int) 1000) : Int).toNat).size + t127.size ≤ 9223372036854775807 then (if t123 = true then ((sum_Of.f k ((a0.extract 0 ((ji5) : Int).toNat) ++ t125)).bind fun t128 => ((sum_Of.f k ((a1.extract 0 ((mn (a1.size : Int) 1000) : Int).toNat) ++ t127)).bind fun t129 => (if t128 = t129 then (if ((a0.extract 0 ((ji5) : Int).toNat) ++ t125).size + (a2.extract 0 ((mn (a2.size : Int) 1000) : Int).toNat).size ≤ 9223372036854775807 then ((sum_Of.f k (((a0.extract 0 ((ji5) : Int).toNat) ++ t125) ++ (a2.extract 0 ((mn (a2.size : Int) 1000) : Int).toNat))).bind fun t130 => (if ((a1.extract 0 ((mn (a1.size : Int) 1000) : Int).toNat) ++ t127).size + (a2.extract 0 ((mn (a2.size : Int) 1000) : Int).toNat).size ≤ 9223372036854775807 then ((sum_Of.f k (((a1.extract 0 ((mn (a1.size : Int) 1000) : Int).toNat) ++ t127) ++ (a2.extract 0 ((mn (a2.size : Int) 1000) : Int).toNat))).bind fun t131 => (if t130 = t131 then ((sum_Of.f k (a0.extract 0 ((ji5) : Int).toNat)).bind fun t132 => ((sum_Of.f k (a1.extract 0 ((mn (a1.size : Int) 1000) : Int).toNat)).bind fun t133 => (if (a0.extract 0 ((ji5) : Int).toNat).size + (a2.extract 0 ((mn (a2.size : Int) 1000) : Int).toNat).size ≤ 9223372036854775807 then ((sum_Of.f k ((a0.extract 0 ((ji5) : Int).toNat) ++ (a2.extract 0 ((mn (a2.size : Int) 1000) : Int).toNat))).bind fun t134 => (if (a1.extract 0 ((mn (a1.size : Int) 1000) : Int).toNat).size + (a2.extract 0 ((mn (a2.size : Int) 1000) : Int).toNat).size ≤ 9223372036854775807 then ((sum_Of.f k ((a1.extract 0 ((mn (a1.size : Int) 1000) : Int).toNat) ++ (a2.extract 0 ((mn (a2.size : Int) 1000) : Int).toNat))).bind fun t135 => (some ((t132 == t133) == (t134 == t135)))) else (none))) else (none)))) else (some false))) else (none))) else (none)) else (some false)))) else (some false)) else (none)))) else (none)))) else (none)) else (none)) else (none)) else (none)) else (none)) else (none)) = some r := by first | (rw [hji5] at H; exact H) | (simp only [hji5] at H ⊢; exact H)
  (try rw [hji5] at A4)
  (try (have hji5h : ji5 ≤ 1000 := by (rw [← hji5]; unfold mn; (repeat' split) <;> omega)))
  (try (have hji5g : ji5 ≤ 64 := by omega))
  (try (have hji5l : 0 ≤ ji5 := by (rw [← hji5]; unfold mn; (repeat' split) <;> omega)))
  (try (have hji5m : 0 ≤ ji5 := by omega))
  have hji5_ : (if 1000 < (a0.size : Int) then 1000 else (a0.size : Int)) = ji5 := hji5
  by_cases c6 : 0 ≤ (ji5)
  · rw [if_pos c6] at H
    have c6b0 := eq_true c6
    have c6b1 : decide (0 ≤ (ji5)) = true := decide_eq_true c6
    clear c6
    by_cases c7 : (ji5) ≤ (a0.size : Int)
    · rw [if_pos c7] at H
      have c7b0 := eq_true c7
      have c7b1 : decide ((ji5) ≤ (a0.size : Int)) = true := decide_eq_true c7
      clear c7
      obtain ⟨ji8, hji8⟩ : ∃ j_ : Int, (mn (a1.size : Int) 1000) = j_ := ⟨_, rfl⟩
      replace H : (if 0 ≤ (ji8) then (if (ji8) ≤ (a1.size : Int) then (if 0 ≤ (mn (a2.size : Int) 1000) then (if (mn (a2.size : Int) 1000) ≤ (a2.size : Int) then ((sum_Of.f k (a0.extract 0 ((ji5) : Int).toNat)).bind fun t124 => ((sum_Bytes.f k t124).bind fun t125 => (if (a0.extract 0 ((ji5) : Int).toNat).size + t125.size ≤ 9223372036854775807 then ((sum_Of.f k (a1.extract 0 ((ji8) : Int).toNat)).bind fun t126 => ((sum_Bytes.f k t126).bind fun t127 => (if (a1.extract 0 ((ji8) : Int).toNat).size + t127.size ≤ 9223372036854775807 then (if t123 = true then ((sum_Of.f k ((a0.extract 0 ((ji5) : Int).toNat) ++ t125)).bind fun t128 => ((sum_Of.f k ((a1.extract 0 ((ji8) : Int).toNat) ++ t127)).bind fun t129 => (if t128 = t129 then (if ((a0.extract 0 ((ji5) : Int).toNat) ++ t125).size + (a2.extract 0 ((mn (a2.size : Int) 1000) : Int).toNat).size ≤ 9223372036854775807 then ((sum_Of.f k (((a0.extract 0 ((ji5) : Int).toNat) ++ t125) ++ (a2.extract 0 ((mn (a2.size : Int) 1000) : Int).toNat))).bind fun t130 => (if ((a1.extract 0 ((ji8) : Int).toNat) ++ t127).size + (a2.extract 0 ((mn (a2.size : Int) 1000) : Int).toNat).size ≤ 9223372036854775807 then ((sum_Of.f k (((a1.extract 0 ((ji8) : Int).toNat) ++ t127) ++ (a2.extract 0 ((mn (a2.size : Int) 1000) : Int).toNat))).bind fun t131 => (if t130 = t131 then ((sum_Of.f k (a0.extract 0 ((ji5) : Int).toNat)).bind fun t132 => ((sum_Of.f k (a1.extract 0 ((ji8) : Int).toNat)).bind fun t133 => (if (a0.extract 0 ((ji5) : Int).toNat).size + (a2.extract 0 ((mn (a2.size : Int) 1000) : Int).toNat).size ≤ 9223372036854775807 then ((sum_Of.f k ((a0.extract 0 ((ji5) : Int).toNat) ++ (a2.extract 0 ((mn (a2.size : Int) 1000) : Int).toNat))).bind fun t134 => (if (a1.extract 0 ((ji8) : Int).toNat).size + (a2.extract 0 ((mn (a2.size : Int) 1000) : Int).toNat).size ≤ 9223372036854775807 then ((sum_Of.f k ((a1.extract 0 ((ji8) : Int).toNat) ++ (a2.extract 0 ((mn (a2.size : Int) 1000) : Int).toNat))).bind fun t135 => (some ((t132 == t133) == (t134 == t135)))) else (none))) else (none)))) else (some false))) else (none))) else (none)) else (some false)))) else (some false)) else (none)))) else (none)))) else (none)) else (none)) else (none)) else (none)) = some r := by first | (rw [hji8] at H; exact H) | (simp only [hji8] at H ⊢; exact H)
      (try rw [hji8] at A4)
      (try (have hji8h : ji8 ≤ 1000 := by (rw [← hji8]; unfold mn; (repeat' split) <;> omega)))
      (try (have hji8g : ji8 ≤ 64 := by omega))
      (try (have hji8l : 0 ≤ ji8 := by (rw [← hji8]; unfold mn; (repeat' split) <;> omega)))
      (try (have hji8m : 0 ≤ ji8 := by omega))
      have hji8_ : (if 1000 < (a1.size : Int) then 1000 else (a1.size : Int)) = ji8 := hji8
      by_cases c9 : 0 ≤ (ji8)
      · rw [if_pos c9] at H
        have c9b0 := eq_true c9
        have c9b1 : decide (0 ≤ (ji8)) = true := decide_eq_true c9
        clear c9
        by_cases c10 : (ji8) ≤ (a1.size : Int)
        · rw [if_pos c10] at H
          have c10b0 := eq_true c10
          have c10b1 : decide ((ji8) ≤ (a1.size : Int)) = true := decide_eq_true c10
          clear c10
          obtain ⟨ji11, hji11⟩ : ∃ j_ : Int, (mn (a2.size : Int) 1000) = j_ := ⟨_, rfl⟩
          replace H : (if 0 ≤ (ji11) then (if (ji11) ≤ (a2.size : Int) then ((sum_Of.f k (a0.extract 0 ((ji5) : Int).toNat)).bind fun t124 => ((sum_Bytes.f k t124).bind fun t125 => (if (a0.extract 0 ((ji5) : Int).toNat).size + t125.size ≤ 9223372036854775807 then ((sum_Of.f k (a1.extract 0 ((ji8) : Int).toNat)).bind fun t126 => ((sum_Bytes.f k t126).bind fun t127 => (if (a1.extract 0 ((ji8) : Int).toNat).size + t127.size ≤ 9223372036854775807 then (if t123 = true then ((sum_Of.f k ((a0.extract 0 ((ji5) : Int).toNat) ++ t125)).bind fun t128 => ((sum_Of.f k ((a1.extract 0 ((ji8) : Int).toNat) ++ t127)).bind fun t129 => (if t128 = t129 then (if ((a0.extract 0 ((ji5) : Int).toNat) ++ t125).size + (a2.extract 0 ((ji11) : Int).toNat).size ≤ 9223372036854775807 then ((sum_Of.f k (((a0.extract 0 ((ji5) : Int).toNat) ++ t125) ++ (a2.extract 0 ((ji11) : Int).toNat))).bind fun t130 => (if ((a1.extract 0 ((ji8) : Int).toNat) ++ t127).size + (a2.extract 0 ((ji11) : Int).toNat).size ≤ 9223372036854775807 then ((sum_Of.f k (((a1.extract 0 ((ji8) : Int).toNat) ++ t127) ++ (a2.extract 0 ((ji11) : Int).toNat))).bind fun t131 => (if t130 = t131 then ((sum_Of.f k (a0.extract 0 ((ji5) : Int).toNat)).bind fun t132 => ((sum_Of.f k (a1.extract 0 ((ji8) : Int).toNat)).bind fun t133 => (if (a0.extract 0 ((ji5) : Int).toNat).size + (a2.extract 0 ((ji11) : Int).toNat).size ≤ 9223372036854775807 then ((sum_Of.f k ((a0.extract 0 ((ji5) : Int).toNat) ++ (a2.extract 0 ((ji11) : Int).toNat))).bind fun t134 => (if (a1.extract 0 ((ji8) : Int).toNat).size + (a2.extract 0 ((ji11) : Int).toNat).size ≤ 9223372036854775807 then ((sum_Of.f k ((a1.extract 0 ((ji8) : Int).toNat) ++ (a2.extract 0 ((ji11) : Int).toNat))).bind fun t135 => (some ((t132 == t133) == (t134 == t135)))) else (none))) else (none)))) else (some false))) else (none))) else (none)) else (some false)))) else (some false)) else (none)))) else (none)))) else (none)) else (none)) = some r := by first | (rw [hji11] at H; exact H) | (simp only [hji11] at H ⊢; exact H)
          (try rw [hji11] at A4)
          (try (have hji11h : ji11 ≤ 1000 := by (rw [← hji11]; unfold mn; (repeat' split) <;> omega)))
          (try (have hji11g : ji11 ≤ 64 := by omega))
          (try (have hji11l : 0 ≤ ji11 := by (rw [← hji11]; unfold mn; (repeat' split) <;> omega)))
          (try (have hji11m : 0 ≤ ji11 := by omega))
          have hji11_ : (if 1000 < (a2.size : Int) then 1000 else (a2.size : Int)) = ji11 := hji11
          by_cases c12 : 0 ≤ (ji11)
          · rw [if_pos c12] at H
            have c12b0 := eq_true c12
            have c12b1 : decide (0 ≤ (ji11)) = true := decide_eq_true c12
            clear c12
            by_cases c13 : (ji11) ≤ (a2.size : Int)
            · rw [if_pos c13] at H
              have c13b0 := eq_true c13
              have c13b1 : decide ((ji11) ≤ (a2.size : Int)) = true := decide_eq_true c13
              clear c13
              replace H := Option.bind_eq_some_iff.mp H
              obtain ⟨t124, A140, H⟩ := H
              replace H : ((sum_Bytes.f k t124).bind fun t125 => (if (a0.extract 0 ((ji5) : Int).toNat).size + t125.size ≤ 9223372036854775807 then ((sum_Of.f k (a1.extract 0 ((ji8) : Int).toNat)).bind fun t126 => ((sum_Bytes.f k t126).bind fun t127 => (if (a1.extract 0 ((ji8) : Int).toNat).size + t127.size ≤ 9223372036854775807 then (if t123 = true then ((sum_Of.f k ((a0.extract 0 ((ji5) : Int).toNat) ++ t125)).bind fun t128 => ((sum_Of.f k ((a1.extract 0 ((ji8) : Int).toNat) ++ t127)).bind fun t129 => (if t128 = t129 then (if ((a0.extract 0 ((ji5) : Int).toNat) ++ t125).size + (a2.extract 0 ((ji11) : Int).toNat).size ≤ 9223372036854775807 then ((sum_Of.f k (((a0.extract 0 ((ji5) : Int).toNat) ++ t125) ++ (a2.extract 0 ((ji11) : Int).toNat))).bind fun t130 => (if ((a1.extract 0 ((ji8) : Int).toNat) ++ t127).size + (a2.extract 0 ((ji11) : Int).toNat).size ≤ 9223372036854775807 then ((sum_Of.f k (((a1.extract 0 ((ji8) : Int).toNat) ++ t127) ++ (a2.extract 0 ((ji11) : Int).toNat))).bind fun t131 => (if t130 = t131 then ((sum_Of.f k (a0.extract 0 ((ji5) : Int).toNat)).bind fun t132 => ((sum_Of.f k (a1.extract 0 ((ji8) : Int).toNat)).bind fun t133 => (if (a0.extract 0 ((ji5) : Int).toNat).size + (a2.extract 0 ((ji11) : Int).toNat).size ≤ 9223372036854775807 then ((sum_Of.f k ((a0.extract 0 ((ji5) : Int).toNat) ++ (a2.extract 0 ((ji11) : Int).toNat))).bind fun t134 => (if (a1.extract 0 ((ji8) : Int).toNat).size + (a2.extract 0 ((ji11) : Int).toNat).size ≤ 9223372036854775807 then ((sum_Of.f k ((a1.extract 0 ((ji8) : Int).toNat) ++ (a2.extract 0 ((ji11) : Int).toNat))).bind fun t135 => (some ((t132 == t133) == (t134 == t135)))) else (none))) else (none)))) else (some false))) else (none))) else (none)) else (some false)))) else (some false)) else (none)))) else (none))) = some r := H
              have A14 := Aside0.mk A140
              clear A140
              replace H := Option.bind_eq_some_iff.mp H
              obtain ⟨t125, A150, H⟩ := H
              replace H : (if (a0.extract 0 ((ji5) : Int).toNat).size + t125.size ≤ 9223372036854775807 then ((sum_Of.f k (a1.extract 0 ((ji8) : Int).toNat)).bind fun t126 => ((sum_Bytes.f k t126).bind fun t127 => (if (a1.extract 0 ((ji8) : Int).toNat).size + t127.size ≤ 9223372036854775807 then (if t123 = true then ((sum_Of.f k ((a0.extract 0 ((ji5) : Int).toNat) ++ t125)).bind fun t128 => ((sum_Of.f k ((a1.extract 0 ((ji8) : Int).toNat) ++ t127)).bind fun t129 => (if t128 = t129 then (if ((a0.extract 0 ((ji5) : Int).toNat) ++ t125).size + (a2.extract 0 ((ji11) : Int).toNat).size ≤ 9223372036854775807 then ((sum_Of.f k (((a0.extract 0 ((ji5) : Int).toNat) ++ t125) ++ (a2.extract 0 ((ji11) : Int).toNat))).bind fun t130 => (if ((a1.extract 0 ((ji8) : Int).toNat) ++ t127).size + (a2.extract 0 ((ji11) : Int).toNat).size ≤ 9223372036854775807 then ((sum_Of.f k (((a1.extract 0 ((ji8) : Int).toNat) ++ t127) ++ (a2.extract 0 ((ji11) : Int).toNat))).bind fun t131 => (if t130 = t131 then ((sum_Of.f k (a0.extract 0 ((ji5) : Int).toNat)).bind fun t132 => ((sum_Of.f k (a1.extract 0 ((ji8) : Int).toNat)).bind fun t133 => (if (a0.extract 0 ((ji5) : Int).toNat).size + (a2.extract 0 ((ji11) : Int).toNat).size ≤ 9223372036854775807 then ((sum_Of.f k ((a0.extract 0 ((ji5) : Int).toNat) ++ (a2.extract 0 ((ji11) : Int).toNat))).bind fun t134 => (if (a1.extract 0 ((ji8) : Int).toNat).size + (a2.extract 0 ((ji11) : Int).toNat).size ≤ 9223372036854775807 then ((sum_Of.f k ((a1.extract 0 ((ji8) : Int).toNat) ++ (a2.extract 0 ((ji11) : Int).toNat))).bind fun t135 => (some ((t132 == t133) == (t134 == t135)))) else (none))) else (none)))) else (some false))) else (none))) else (none)) else (some false)))) else (some false)) else (none)))) else (none)) = some r := H
              have A15 := Aside0.mk A150
              clear A150
              by_cases c16 : (a0.extract 0 ((ji5) : Int).toNat).size + t125.size ≤ 9223372036854775807
              · rw [if_pos c16] at H
                have c16b0 := eq_true c16
                have c16b1 : decide ((a0.extract 0 ((ji5) : Int).toNat).size + t125.size ≤ 9223372036854775807) = true := decide_eq_true c16
                try have c16b2 : (9223372036854775807 < (a0.extract 0 ((ji5) : Int).toNat).size + t125.size) = False := eq_false (Nat.not_lt.2 c16)
                (try have c16b8 : (9223372036854775807 < ji5.toNat + t125.size) = False := (by have f0_ : 0 ≤ ji5 := of_decide_eq_true (by first | (with_reducible assumption) | assumption); have g0_ : ji5 ≤ (a0.size : Int) := of_decide_eq_true (by first | (with_reducible assumption) | assumption); have e_ := c16; simp only [ByteArray.size_append, ByteArray.size_extract] at e_; exact eq_false (by omega)))
                replace H := Option.bind_eq_some_iff.mp H
                obtain ⟨t126, A170, H⟩ := H
                replace H : ((sum_Bytes.f k t126).bind fun t127 => (if (a1.extract 0 ((ji8) : Int).toNat).size + t127.size ≤ 9223372036854775807 then (if t123 = true then ((sum_Of.f k ((a0.extract 0 ((ji5) : Int).toNat) ++ t125)).bind fun t128 => ((sum_Of.f k ((a1.extract 0 ((ji8) : Int).toNat) ++ t127)).bind fun t129 => (if t128 = t129 then (if ((a0.extract 0 ((ji5) : Int).toNat) ++ t125).size + (a2.extract 0 ((ji11) : Int).toNat).size ≤ 9223372036854775807 then ((sum_Of.f k (((a0.extract 0 ((ji5) : Int).toNat) ++ t125) ++ (a2.extract 0 ((ji11) : Int).toNat))).bind fun t130 => (if ((a1.extract 0 ((ji8) : Int).toNat) ++ t127).size + (a2.extract 0 ((ji11) : Int).toNat).size ≤ 9223372036854775807 then ((sum_Of.f k (((a1.extract 0 ((ji8) : Int).toNat) ++ t127) ++ (a2.extract 0 ((ji11) : Int).toNat))).bind fun t131 => (if t130 = t131 then ((sum_Of.f k (a0.extract 0 ((ji5) : Int).toNat)).bind fun t132 => ((sum_Of.f k (a1.extract 0 ((ji8) : Int).toNat)).bind fun t133 => (if (a0.extract 0 ((ji5) : Int).toNat).size + (a2.extract 0 ((ji11) : Int).toNat).size ≤ 9223372036854775807 then ((sum_Of.f k ((a0.extract 0 ((ji5) : Int).toNat) ++ (a2.extract 0 ((ji11) : Int).toNat))).bind fun t134 => (if (a1.extract 0 ((ji8) : Int).toNat).size + (a2.extract 0 ((ji11) : Int).toNat).size ≤ 9223372036854775807 then ((sum_Of.f k ((a1.extract 0 ((ji8) : Int).toNat) ++ (a2.extract 0 ((ji11) : Int).toNat))).bind fun t135 => (some ((t132 == t133) == (t134 == t135)))) else (none))) else (none)))) else (some false))) else (none))) else (none)) else (some false)))) else (some false)) else (none))) = some r := H
                have A17 := Aside0.mk A170
                clear A170
                replace H := Option.bind_eq_some_iff.mp H
                obtain ⟨t127, A180, H⟩ := H
                replace H : (if (a1.extract 0 ((ji8) : Int).toNat).size + t127.size ≤ 9223372036854775807 then (if t123 = true then ((sum_Of.f k ((a0.extract 0 ((ji5) : Int).toNat) ++ t125)).bind fun t128 => ((sum_Of.f k ((a1.extract 0 ((ji8) : Int).toNat) ++ t127)).bind fun t129 => (if t128 = t129 then (if ((a0.extract 0 ((ji5) : Int).toNat) ++ t125).size + (a2.extract 0 ((ji11) : Int).toNat).size ≤ 9223372036854775807 then ((sum_Of.f k (((a0.extract 0 ((ji5) : Int).toNat) ++ t125) ++ (a2.extract 0 ((ji11) : Int).toNat))).bind fun t130 => (if ((a1.extract 0 ((ji8) : Int).toNat) ++ t127).size + (a2.extract 0 ((ji11) : Int).toNat).size ≤ 9223372036854775807 then ((sum_Of.f k (((a1.extract 0 ((ji8) : Int).toNat) ++ t127) ++ (a2.extract 0 ((ji11) : Int).toNat))).bind fun t131 => (if t130 = t131 then ((sum_Of.f k (a0.extract 0 ((ji5) : Int).toNat)).bind fun t132 => ((sum_Of.f k (a1.extract 0 ((ji8) : Int).toNat)).bind fun t133 => (if (a0.extract 0 ((ji5) : Int).toNat).size + (a2.extract 0 ((ji11) : Int).toNat).size ≤ 9223372036854775807 then ((sum_Of.f k ((a0.extract 0 ((ji5) : Int).toNat) ++ (a2.extract 0 ((ji11) : Int).toNat))).bind fun t134 => (if (a1.extract 0 ((ji8) : Int).toNat).size + (a2.extract 0 ((ji11) : Int).toNat).size ≤ 9223372036854775807 then ((sum_Of.f k ((a1.extract 0 ((ji8) : Int).toNat) ++ (a2.extract 0 ((ji11) : Int).toNat))).bind fun t135 => (some ((t132 == t133) == (t134 == t135)))) else (none))) else (none)))) else (some false))) else (none))) else (none)) else (some false)))) else (some false)) else (none)) = some r := H
                have A18 := Aside0.mk A180
                clear A180
                by_cases c19 : (a1.extract 0 ((ji8) : Int).toNat).size + t127.size ≤ 9223372036854775807
                · rw [if_pos c19] at H
                  have c19b0 := eq_true c19
                  have c19b1 : decide ((a1.extract 0 ((ji8) : Int).toNat).size + t127.size ≤ 9223372036854775807) = true := decide_eq_true c19
                  try have c19b2 : (9223372036854775807 < (a1.extract 0 ((ji8) : Int).toNat).size + t127.size) = False := eq_false (Nat.not_lt.2 c19)
                  (try have c19b8 : (9223372036854775807 < ji8.toNat + t127.size) = False := (by have f0_ : 0 ≤ ji8 := of_decide_eq_true (by first | (with_reducible assumption) | assumption); have g0_ : ji8 ≤ (a1.size : Int) := of_decide_eq_true (by first | (with_reducible assumption) | assumption); have e_ := c19; simp only [ByteArray.size_append, ByteArray.size_extract] at e_; exact eq_false (by omega)))
                  by_cases c20 : t123 = true
                  · subst c20
                    have H1 : ((sum_Of.f k ((a0.extract 0 ((ji5) : Int).toNat) ++ t125)).bind fun t128 => ((sum_Of.f k ((a1.extract 0 ((ji8) : Int).toNat) ++ t127)).bind fun t129 => (if t128 = t129 then (if ((a0.extract 0 ((ji5) : Int).toNat) ++ t125).size + (a2.extract 0 ((ji11) : Int).toNat).size ≤ 9223372036854775807 then ((sum_Of.f k (((a0.extract 0 ((ji5) : Int).toNat) ++ t125) ++ (a2.extract 0 ((ji11) : Int).toNat))).bind fun t130 => (if ((a1.extract 0 ((ji8) : Int).toNat) ++ t127).size + (a2.extract 0 ((ji11) : Int).toNat).size ≤ 9223372036854775807 then ((sum_Of.f k (((a1.extract 0 ((ji8) : Int).toNat) ++ t127) ++ (a2.extract 0 ((ji11) : Int).toNat))).bind fun t131 => (if t130 = t131 then ((sum_Of.f k (a0.extract 0 ((ji5) : Int).toNat)).bind fun t132 => ((sum_Of.f k (a1.extract 0 ((ji8) : Int).toNat)).bind fun t133 => (if (a0.extract 0 ((ji5) : Int).toNat).size + (a2.extract 0 ((ji11) : Int).toNat).size ≤ 9223372036854775807 then ((sum_Of.f k ((a0.extract 0 ((ji5) : Int).toNat) ++ (a2.extract 0 ((ji11) : Int).toNat))).bind fun t134 => (if (a1.extract 0 ((ji8) : Int).toNat).size + (a2.extract 0 ((ji11) : Int).toNat).size ≤ 9223372036854775807 then ((sum_Of.f k ((a1.extract 0 ((ji8) : Int).toNat) ++ (a2.extract 0 ((ji11) : Int).toNat))).bind fun t135 => (some ((t132 == t133) == (t134 == t135)))) else (none))) else (none)))) else (some false))) else (none))) else (none)) else (some false)))) = some r := by rw [if_pos rfl] at H; exact H
                    clear H
                    have H := H1
                    clear H1
                    replace H := Option.bind_eq_some_iff.mp H
                    obtain ⟨t128, A210, H⟩ := H
                    replace H : ((sum_Of.f k ((a1.extract 0 ((ji8) : Int).toNat) ++ t127)).bind fun t129 => (if t128 = t129 then (if ((a0.extract 0 ((ji5) : Int).toNat) ++ t125).size + (a2.extract 0 ((ji11) : Int).toNat).size ≤ 9223372036854775807 then ((sum_Of.f k (((a0.extract 0 ((ji5) : Int).toNat) ++ t125) ++ (a2.extract 0 ((ji11) : Int).toNat))).bind fun t130 => (if ((a1.extract 0 ((ji8) : Int).toNat) ++ t127).size + (a2.extract 0 ((ji11) : Int).toNat).size ≤ 9223372036854775807 then ((sum_Of.f k (((a1.extract 0 ((ji8) : Int).toNat) ++ t127) ++ (a2.extract 0 ((ji11) : Int).toNat))).bind fun t131 => (if t130 = t131 then ((sum_Of.f k (a0.extract 0 ((ji5) : Int).toNat)).bind fun t132 => ((sum_Of.f k (a1.extract 0 ((ji8) : Int).toNat)).bind fun t133 => (if (a0.extract 0 ((ji5) : Int).toNat).size + (a2.extract 0 ((ji11) : Int).toNat).size ≤ 9223372036854775807 then ((sum_Of.f k ((a0.extract 0 ((ji5) : Int).toNat) ++ (a2.extract 0 ((ji11) : Int).toNat))).bind fun t134 => (if (a1.extract 0 ((ji8) : Int).toNat).size + (a2.extract 0 ((ji11) : Int).toNat).size ≤ 9223372036854775807 then ((sum_Of.f k ((a1.extract 0 ((ji8) : Int).toNat) ++ (a2.extract 0 ((ji11) : Int).toNat))).bind fun t135 => (some ((t132 == t133) == (t134 == t135)))) else (none))) else (none)))) else (some false))) else (none))) else (none)) else (some false))) = some r := H
                    have A21 := Aside0.mk A210
                    clear A210
                    replace H := Option.bind_eq_some_iff.mp H
                    obtain ⟨t129, A220, H⟩ := H
                    replace H : (if t128 = t129 then (if ((a0.extract 0 ((ji5) : Int).toNat) ++ t125).size + (a2.extract 0 ((ji11) : Int).toNat).size ≤ 9223372036854775807 then ((sum_Of.f k (((a0.extract 0 ((ji5) : Int).toNat) ++ t125) ++ (a2.extract 0 ((ji11) : Int).toNat))).bind fun t130 => (if ((a1.extract 0 ((ji8) : Int).toNat) ++ t127).size + (a2.extract 0 ((ji11) : Int).toNat).size ≤ 9223372036854775807 then ((sum_Of.f k (((a1.extract 0 ((ji8) : Int).toNat) ++ t127) ++ (a2.extract 0 ((ji11) : Int).toNat))).bind fun t131 => (if t130 = t131 then ((sum_Of.f k (a0.extract 0 ((ji5) : Int).toNat)).bind fun t132 => ((sum_Of.f k (a1.extract 0 ((ji8) : Int).toNat)).bind fun t133 => (if (a0.extract 0 ((ji5) : Int).toNat).size + (a2.extract 0 ((ji11) : Int).toNat).size ≤ 9223372036854775807 then ((sum_Of.f k ((a0.extract 0 ((ji5) : Int).toNat) ++ (a2.extract 0 ((ji11) : Int).toNat))).bind fun t134 => (if (a1.extract 0 ((ji8) : Int).toNat).size + (a2.extract 0 ((ji11) : Int).toNat).size ≤ 9223372036854775807 then ((sum_Of.f k ((a1.extract 0 ((ji8) : Int).toNat) ++ (a2.extract 0 ((ji11) : Int).toNat))).bind fun t135 => (some ((t132 == t133) == (t134 == t135)))) else (none))) else (none)))) else (some false))) else (none))) else (none)) else (some false)) = some r := H
                    have A22 := Aside0.mk A220
                    clear A220
                    by_cases c23 : t128 = t129
                    · rw [if_pos c23] at H
                      have c23b0 : (t128 == t129) = true := beq_iff_eq.mpr c23
                      have c23b1 : (t128 != t129) = false := bne_eq_false_iff_eq.mpr c23
                      clear c23
                      by_cases c24 : ((a0.extract 0 ((ji5) : Int).toNat) ++ t125).size + (a2.extract 0 ((ji11) : Int).toNat).size ≤ 9223372036854775807
                      · rw [if_pos c24] at H
                        have c24b0 := eq_true c24
                        have c24b1 : decide (((a0.extract 0 ((ji5) : Int).toNat) ++ t125).size + (a2.extract 0 ((ji11) : Int).toNat).size ≤ 9223372036854775807) = true := decide_eq_true c24
                        try have c24b2 : (9223372036854775807 < ((a0.extract 0 ((ji5) : Int).toNat) ++ t125).size + (a2.extract 0 ((ji11) : Int).toNat).size) = False := eq_false (Nat.not_lt.2 c24)
                        (try have c24b8 : (9223372036854775807 < ji5.toNat + t125.size + ji11.toNat) = False := (by have f0_ : 0 ≤ ji5 := of_decide_eq_true (by first | (with_reducible assumption) | assumption); have g0_ : ji5 ≤ (a0.size : Int) := of_decide_eq_true (by first | (with_reducible assumption) | assumption); have f1_ : 0 ≤ ji11 := of_decide_eq_true (by first | (with_reducible assumption) | assumption); have g1_ : ji11 ≤ (a2.size : Int) := of_decide_eq_true (by first | (with_reducible assumption) | assumption); have e_ := c24; simp only [ByteArray.size_append, ByteArray.size_extract] at e_; exact eq_false (by omega)))
                        replace H := Option.bind_eq_some_iff.mp H
                        obtain ⟨t130, A250, H⟩ := H
                        replace H : (if ((a1.extract 0 ((ji8) : Int).toNat) ++ t127).size + (a2.extract 0 ((ji11) : Int).toNat).size ≤ 9223372036854775807 then ((sum_Of.f k (((a1.extract 0 ((ji8) : Int).toNat) ++ t127) ++ (a2.extract 0 ((ji11) : Int).toNat))).bind fun t131 => (if t130 = t131 then ((sum_Of.f k (a0.extract 0 ((ji5) : Int).toNat)).bind fun t132 => ((sum_Of.f k (a1.extract 0 ((ji8) : Int).toNat)).bind fun t133 => (if (a0.extract 0 ((ji5) : Int).toNat).size + (a2.extract 0 ((ji11) : Int).toNat).size ≤ 9223372036854775807 then ((sum_Of.f k ((a0.extract 0 ((ji5) : Int).toNat) ++ (a2.extract 0 ((ji11) : Int).toNat))).bind fun t134 => (if (a1.extract 0 ((ji8) : Int).toNat).size + (a2.extract 0 ((ji11) : Int).toNat).size ≤ 9223372036854775807 then ((sum_Of.f k ((a1.extract 0 ((ji8) : Int).toNat) ++ (a2.extract 0 ((ji11) : Int).toNat))).bind fun t135 => (some ((t132 == t133) == (t134 == t135)))) else (none))) else (none)))) else (some false))) else (none)) = some r := H
                        have A25 := Aside0.mk A250
                        clear A250
                        by_cases c26 : ((a1.extract 0 ((ji8) : Int).toNat) ++ t127).size + (a2.extract 0 ((ji11) : Int).toNat).size ≤ 9223372036854775807
                        · rw [if_pos c26] at H
                          have c26b0 := eq_true c26
                          have c26b1 : decide (((a1.extract 0 ((ji8) : Int).toNat) ++ t127).size + (a2.extract 0 ((ji11) : Int).toNat).size ≤ 9223372036854775807) = true := decide_eq_true c26
                          try have c26b2 : (9223372036854775807 < ((a1.extract 0 ((ji8) : Int).toNat) ++ t127).size + (a2.extract 0 ((ji11) : Int).toNat).size) = False := eq_false (Nat.not_lt.2 c26)
                          (try have c26b8 : (9223372036854775807 < ji8.toNat + t127.size + ji11.toNat) = False := (by have f0_ : 0 ≤ ji8 := of_decide_eq_true (by first | (with_reducible assumption) | assumption); have g0_ : ji8 ≤ (a1.size : Int) := of_decide_eq_true (by first | (with_reducible assumption) | assumption); have f1_ : 0 ≤ ji11 := of_decide_eq_true (by first | (with_reducible assumption) | assumption); have g1_ : ji11 ≤ (a2.size : Int) := of_decide_eq_true (by first | (with_reducible assumption) | assumption); have e_ := c26; simp only [ByteArray.size_append, ByteArray.size_extract] at e_; exact eq_false (by omega)))
                          replace H := Option.bind_eq_some_iff.mp H
                          obtain ⟨t131, A270, H⟩ := H
                          replace H : (if t130 = t131 then ((sum_Of.f k (a0.extract 0 ((ji5) : Int).toNat)).bind fun t132 => ((sum_Of.f k (a1.extract 0 ((ji8) : Int).toNat)).bind fun t133 => (if (a0.extract 0 ((ji5) : Int).toNat).size + (a2.extract 0 ((ji11) : Int).toNat).size ≤ 9223372036854775807 then ((sum_Of.f k ((a0.extract 0 ((ji5) : Int).toNat) ++ (a2.extract 0 ((ji11) : Int).toNat))).bind fun t134 => (if (a1.extract 0 ((ji8) : Int).toNat).size + (a2.extract 0 ((ji11) : Int).toNat).size ≤ 9223372036854775807 then ((sum_Of.f k ((a1.extract 0 ((ji8) : Int).toNat) ++ (a2.extract 0 ((ji11) : Int).toNat))).bind fun t135 => (some ((t132 == t133) == (t134 == t135)))) else (none))) else (none)))) else (some false)) = some r := H
                          have A27 := Aside0.mk A270
                          clear A270
                          by_cases c28 : t130 = t131
                          · rw [if_pos c28] at H
                            have c28b0 : (t130 == t131) = true := beq_iff_eq.mpr c28
                            have c28b1 : (t130 != t131) = false := bne_eq_false_iff_eq.mpr c28
                            clear c28
                            replace H := Option.bind_eq_some_iff.mp H
                            obtain ⟨t132, A290, H⟩ := H
                            replace H : ((sum_Of.f k (a1.extract 0 ((ji8) : Int).toNat)).bind fun t133 => (if (a0.extract 0 ((ji5) : Int).toNat).size + (a2.extract 0 ((ji11) : Int).toNat).size ≤ 9223372036854775807 then ((sum_Of.f k ((a0.extract 0 ((ji5) : Int).toNat) ++ (a2.extract 0 ((ji11) : Int).toNat))).bind fun t134 => (if (a1.extract 0 ((ji8) : Int).toNat).size + (a2.extract 0 ((ji11) : Int).toNat).size ≤ 9223372036854775807 then ((sum_Of.f k ((a1.extract 0 ((ji8) : Int).toNat) ++ (a2.extract 0 ((ji11) : Int).toNat))).bind fun t135 => (some ((t132 == t133) == (t134 == t135)))) else (none))) else (none))) = some r := H
                            have A29 := Aside0.mk A290
                            clear A290
                            obtain rfl : t124 = t132 := Option.some.inj (A14.out.symm.trans A29.out)
                            replace H := Option.bind_eq_some_iff.mp H
                            obtain ⟨t133, A300, H⟩ := H
                            replace H : (if (a0.extract 0 ((ji5) : Int).toNat).size + (a2.extract 0 ((ji11) : Int).toNat).size ≤ 9223372036854775807 then ((sum_Of.f k ((a0.extract 0 ((ji5) : Int).toNat) ++ (a2.extract 0 ((ji11) : Int).toNat))).bind fun t134 => (if (a1.extract 0 ((ji8) : Int).toNat).size + (a2.extract 0 ((ji11) : Int).toNat).size ≤ 9223372036854775807 then ((sum_Of.f k ((a1.extract 0 ((ji8) : Int).toNat) ++ (a2.extract 0 ((ji11) : Int).toNat))).bind fun t135 => (some ((t124 == t133) == (t134 == t135)))) else (none))) else (none)) = some r := H
                            have A30 := Aside0.mk A300
                            clear A300
                            obtain rfl : t126 = t133 := Option.some.inj (A17.out.symm.trans A30.out)
                            by_cases c31 : (a0.extract 0 ((ji5) : Int).toNat).size + (a2.extract 0 ((ji11) : Int).toNat).size ≤ 9223372036854775807
                            · rw [if_pos c31] at H
                              have c31b0 := eq_true c31
                              have c31b1 : decide ((a0.extract 0 ((ji5) : Int).toNat).size + (a2.extract 0 ((ji11) : Int).toNat).size ≤ 9223372036854775807) = true := decide_eq_true c31
                              try have c31b2 : (9223372036854775807 < (a0.extract 0 ((ji5) : Int).toNat).size + (a2.extract 0 ((ji11) : Int).toNat).size) = False := eq_false (Nat.not_lt.2 c31)
                              (try have c31b8 : (9223372036854775807 < ji5.toNat + ji11.toNat) = False := (by have f0_ : 0 ≤ ji5 := of_decide_eq_true (by first | (with_reducible assumption) | assumption); have g0_ : ji5 ≤ (a0.size : Int) := of_decide_eq_true (by first | (with_reducible assumption) | assumption); have f1_ : 0 ≤ ji11 := of_decide_eq_true (by first | (with_reducible assumption) | assumption); have g1_ : ji11 ≤ (a2.size : Int) := of_decide_eq_true (by first | (with_reducible assumption) | assumption); have e_ := c31; simp only [ByteArray.size_append, ByteArray.size_extract] at e_; exact eq_false (by omega)))
                              replace H := Option.bind_eq_some_iff.mp H
                              obtain ⟨t134, A320, H⟩ := H
                              replace H : (if (a1.extract 0 ((ji8) : Int).toNat).size + (a2.extract 0 ((ji11) : Int).toNat).size ≤ 9223372036854775807 then ((sum_Of.f k ((a1.extract 0 ((ji8) : Int).toNat) ++ (a2.extract 0 ((ji11) : Int).toNat))).bind fun t135 => (some ((t124 == t126) == (t134 == t135)))) else (none)) = some r := H
                              have A32 := Aside0.mk A320
                              clear A320
                              by_cases c33 : (a1.extract 0 ((ji8) : Int).toNat).size + (a2.extract 0 ((ji11) : Int).toNat).size ≤ 9223372036854775807
                              · rw [if_pos c33] at H
                                have c33b0 := eq_true c33
                                have c33b1 : decide ((a1.extract 0 ((ji8) : Int).toNat).size + (a2.extract 0 ((ji11) : Int).toNat).size ≤ 9223372036854775807) = true := decide_eq_true c33
                                try have c33b2 : (9223372036854775807 < (a1.extract 0 ((ji8) : Int).toNat).size + (a2.extract 0 ((ji11) : Int).toNat).size) = False := eq_false (Nat.not_lt.2 c33)
                                (try have c33b8 : (9223372036854775807 < ji8.toNat + ji11.toNat) = False := (by have f0_ : 0 ≤ ji8 := of_decide_eq_true (by first | (with_reducible assumption) | assumption); have g0_ : ji8 ≤ (a1.size : Int) := of_decide_eq_true (by first | (with_reducible assumption) | assumption); have f1_ : 0 ≤ ji11 := of_decide_eq_true (by first | (with_reducible assumption) | assumption); have g1_ : ji11 ≤ (a2.size : Int) := of_decide_eq_true (by first | (with_reducible assumption) | assumption); have e_ := c33; simp only [ByteArray.size_append, ByteArray.size_extract] at e_; exact eq_false (by omega)))
                                replace H := Option.bind_eq_some_iff.mp H
                                obtain ⟨t135, A340, H⟩ := H
                                replace H : (some ((t124 == t126) == (t134 == t135))) = some r := H
                                have A34 := Aside0.mk A340
                                clear A340
                                obtain rfl := Option.some.inj H
                                go_enter Try.func5, Try.ntmps5
                                go_wp2_with (first | ((with_reducible refine gate_callee (f := 9) rfl ?_); refine goesL_ (some 13) rfl rfl Try.func9 (by kernel_rfl) rfl #[] rfl (by (try simp only [List.map_toArray, List.map_cons, List.map_nil]); first | done | rfl | (simp only [List.length_drop, List.length_take]; rfl)) ?_; (with_reducible refine (careenlaw05_awake.calls k  true _ A4.out).mono ?_); rintro e w35 ⟨rfl, hb⟩; refine ⟨_, rfl, ?_⟩; have n0_ := Aside0.mk (below_step (by repeat (first | (with_reducible first | exact HB.out | apply below_alloc | apply pw_below_drewN | apply below_drew1) | exact HB.out)) hb); clear HB; have HB := n0_; clear n0_; (try clear hb); (try clear hb2); (try clear hk); (try clear hi)) | ((with_reducible refine gate_callee (f := 10) rfl ?_); refine goesL_ (some 31) rfl rfl Try.func10 (by kernel_rfl) rfl #[.string (a0.extract 0 ((ji5) : Int).toNat)] rfl (by (try simp only [List.map_toArray, List.map_cons, List.map_nil]); first | done | (simp only [hji5]; rfl) | rfl | (simp only [List.length_drop, List.length_take]; rfl)) ?_; (with_reducible refine (sum_Of.calls k (a0.extract 0 ((ji5) : Int).toNat) t124 _ A14.out).mono ?_); rintro e w' ⟨rfl, ⟨nd, rfl⟩⟩; refine ⟨_, rfl, ?_⟩) | ((with_reducible refine gate_callee (f := 12) rfl ?_); refine goesL_ (some 32) rfl rfl Try.func12 (by kernel_rfl) rfl #[.int .i64 t124] rfl (by (try simp only [List.map_toArray, List.map_cons, List.map_nil]); first | done | rfl | (simp only [List.length_drop, List.length_take]; rfl)) ?_; (with_reducible refine (sum_Bytes.calls k t124 t125 _ A15.out).mono ?_); rintro e w36 ⟨rfl, hb⟩; refine ⟨_, rfl, ?_⟩; have n0_ := Aside0.mk (below_step (by repeat (first | (with_reducible first | exact HB.out | apply below_alloc | apply pw_below_drewN | apply below_drew1) | exact HB.out)) hb); clear HB; have HB := n0_; clear n0_; (try clear hb); (try clear hb2); (try clear hk); (try clear hi)) | ((with_reducible refine gate_callee (f := 10) rfl ?_); refine goesL_ (some 36) rfl rfl Try.func10 (by kernel_rfl) rfl #[.string (a1.extract 0 ((ji8) : Int).toNat)] rfl (by (try simp only [List.map_toArray, List.map_cons, List.map_nil]); first | done | (simp only [hji8]; rfl) | rfl | (simp only [List.length_drop, List.length_take]; rfl)) ?_; (with_reducible refine (sum_Of.calls k (a1.extract 0 ((ji8) : Int).toNat) t126 _ A17.out).mono ?_); rintro e w' ⟨rfl, ⟨nd, rfl⟩⟩; refine ⟨_, rfl, ?_⟩) | ((with_reducible refine gate_callee (f := 12) rfl ?_); refine goesL_ (some 37) rfl rfl Try.func12 (by kernel_rfl) rfl #[.int .i64 t126] rfl (by (try simp only [List.map_toArray, List.map_cons, List.map_nil]); first | done | rfl | (simp only [List.length_drop, List.length_take]; rfl)) ?_; (with_reducible refine (sum_Bytes.calls k t126 t127 _ A18.out).mono ?_); rintro e w37 ⟨rfl, hb⟩; refine ⟨_, rfl, ?_⟩; have n0_ := Aside0.mk (below_step (by repeat (first | (with_reducible first | exact HB.out | apply below_alloc | apply pw_below_drewN | apply below_drew1) | exact HB.out)) hb); clear HB; have HB := n0_; clear n0_; (try clear hb); (try clear hb2); (try clear hk); (try clear hi)) | (go_at_call 10; (with_reducible refine (sum_Of.calls k ((a0.extract 0 ((ji5) : Int).toNat) ++ t125) t128 _ A21.out).mono ?_); rintro e w' ⟨rfl, ⟨nd, rfl⟩⟩) | (go_at_call 10; (with_reducible refine (sum_Of.calls k ((a1.extract 0 ((ji8) : Int).toNat) ++ t127) t129 _ A22.out).mono ?_); rintro e w' ⟨rfl, ⟨nd, rfl⟩⟩) | (go_at_call 10; (with_reducible refine (sum_Of.calls k (((a0.extract 0 ((ji5) : Int).toNat) ++ t125) ++ (a2.extract 0 ((ji11) : Int).toNat)) t130 _ A25.out).mono ?_); rintro e w' ⟨rfl, ⟨nd, rfl⟩⟩) | (go_at_call 10; (with_reducible refine (sum_Of.calls k (((a1.extract 0 ((ji8) : Int).toNat) ++ t127) ++ (a2.extract 0 ((ji11) : Int).toNat)) t131 _ A27.out).mono ?_); rintro e w' ⟨rfl, ⟨nd, rfl⟩⟩) | (go_at_call 10; (with_reducible refine (sum_Of.calls k (a0.extract 0 ((ji5) : Int).toNat) t124 _ A29.out).mono ?_); rintro e w' ⟨rfl, ⟨nd, rfl⟩⟩) | (go_at_call 10; (with_reducible refine (sum_Of.calls k (a1.extract 0 ((ji8) : Int).toNat) t126 _ A30.out).mono ?_); rintro e w' ⟨rfl, ⟨nd, rfl⟩⟩) | (go_at_call 10; (with_reducible refine (sum_Of.calls k ((a0.extract 0 ((ji5) : Int).toNat) ++ (a2.extract 0 ((ji11) : Int).toNat)) t134 _ A32.out).mono ?_); rintro e w' ⟨rfl, ⟨nd, rfl⟩⟩) | (go_at_call 10; (with_reducible refine (sum_Of.calls k ((a1.extract 0 ((ji8) : Int).toNat) ++ (a2.extract 0 ((ji11) : Int).toNat)) t135 _ A34.out).mono ?_); rintro e w' ⟨rfl, ⟨nd, rfl⟩⟩))
                                go_ret
                                exact ⟨by first | rfl | (simp [errW_none, errW_some] <;> rfl) | (simp only [← hji5, ← hji8, ← hji11]; first | rfl | (simp [errW_none, errW_some] <;> rfl)) | (simp [*, errW_none, errW_some] <;> rfl), by repeat (first | (with_reducible first | exact HB.out | apply below_alloc | apply pw_below_drewN | apply below_drew1) | exact HB.out)⟩
                              · rw [if_neg c33] at H
                                exact absurd H (by simp)
                            · rw [if_neg c31] at H
                              exact absurd H (by simp)
                          · rw [if_neg c28] at H
                            have c28b0 : (t130 == t131) = false := beq_eq_false_iff_ne.mpr c28
                            have c28b1 : (t130 != t131) = true := bne_iff_ne.mpr c28
                            obtain rfl := Option.some.inj H
                            go_enter Try.func5, Try.ntmps5
                            go_wp2_with (first | ((with_reducible refine gate_callee (f := 9) rfl ?_); refine goesL_ (some 13) rfl rfl Try.func9 (by kernel_rfl) rfl #[] rfl (by (try simp only [List.map_toArray, List.map_cons, List.map_nil]); first | done | rfl | (simp only [List.length_drop, List.length_take]; rfl)) ?_; (with_reducible refine (careenlaw05_awake.calls k  true _ A4.out).mono ?_); rintro e w38 ⟨rfl, hb⟩; refine ⟨_, rfl, ?_⟩; have n0_ := Aside0.mk (below_step (by repeat (first | (with_reducible first | exact HB.out | apply below_alloc | apply pw_below_drewN | apply below_drew1) | exact HB.out)) hb); clear HB; have HB := n0_; clear n0_; (try clear hb); (try clear hb2); (try clear hk); (try clear hi)) | ((with_reducible refine gate_callee (f := 10) rfl ?_); refine goesL_ (some 31) rfl rfl Try.func10 (by kernel_rfl) rfl #[.string (a0.extract 0 ((ji5) : Int).toNat)] rfl (by (try simp only [List.map_toArray, List.map_cons, List.map_nil]); first | done | (simp only [hji5]; rfl) | rfl | (simp only [List.length_drop, List.length_take]; rfl)) ?_; (with_reducible refine (sum_Of.calls k (a0.extract 0 ((ji5) : Int).toNat) t124 _ A14.out).mono ?_); rintro e w' ⟨rfl, ⟨nd, rfl⟩⟩; refine ⟨_, rfl, ?_⟩) | ((with_reducible refine gate_callee (f := 12) rfl ?_); refine goesL_ (some 32) rfl rfl Try.func12 (by kernel_rfl) rfl #[.int .i64 t124] rfl (by (try simp only [List.map_toArray, List.map_cons, List.map_nil]); first | done | rfl | (simp only [List.length_drop, List.length_take]; rfl)) ?_; (with_reducible refine (sum_Bytes.calls k t124 t125 _ A15.out).mono ?_); rintro e w39 ⟨rfl, hb⟩; refine ⟨_, rfl, ?_⟩; have n0_ := Aside0.mk (below_step (by repeat (first | (with_reducible first | exact HB.out | apply below_alloc | apply pw_below_drewN | apply below_drew1) | exact HB.out)) hb); clear HB; have HB := n0_; clear n0_; (try clear hb); (try clear hb2); (try clear hk); (try clear hi)) | ((with_reducible refine gate_callee (f := 10) rfl ?_); refine goesL_ (some 36) rfl rfl Try.func10 (by kernel_rfl) rfl #[.string (a1.extract 0 ((ji8) : Int).toNat)] rfl (by (try simp only [List.map_toArray, List.map_cons, List.map_nil]); first | done | (simp only [hji8]; rfl) | rfl | (simp only [List.length_drop, List.length_take]; rfl)) ?_; (with_reducible refine (sum_Of.calls k (a1.extract 0 ((ji8) : Int).toNat) t126 _ A17.out).mono ?_); rintro e w' ⟨rfl, ⟨nd, rfl⟩⟩; refine ⟨_, rfl, ?_⟩) | ((with_reducible refine gate_callee (f := 12) rfl ?_); refine goesL_ (some 37) rfl rfl Try.func12 (by kernel_rfl) rfl #[.int .i64 t126] rfl (by (try simp only [List.map_toArray, List.map_cons, List.map_nil]); first | done | rfl | (simp only [List.length_drop, List.length_take]; rfl)) ?_; (with_reducible refine (sum_Bytes.calls k t126 t127 _ A18.out).mono ?_); rintro e w40 ⟨rfl, hb⟩; refine ⟨_, rfl, ?_⟩; have n0_ := Aside0.mk (below_step (by repeat (first | (with_reducible first | exact HB.out | apply below_alloc | apply pw_below_drewN | apply below_drew1) | exact HB.out)) hb); clear HB; have HB := n0_; clear n0_; (try clear hb); (try clear hb2); (try clear hk); (try clear hi)) | (go_at_call 10; (with_reducible refine (sum_Of.calls k ((a0.extract 0 ((ji5) : Int).toNat) ++ t125) t128 _ A21.out).mono ?_); rintro e w' ⟨rfl, ⟨nd, rfl⟩⟩) | (go_at_call 10; (with_reducible refine (sum_Of.calls k ((a1.extract 0 ((ji8) : Int).toNat) ++ t127) t129 _ A22.out).mono ?_); rintro e w' ⟨rfl, ⟨nd, rfl⟩⟩) | (go_at_call 10; (with_reducible refine (sum_Of.calls k (((a0.extract 0 ((ji5) : Int).toNat) ++ t125) ++ (a2.extract 0 ((ji11) : Int).toNat)) t130 _ A25.out).mono ?_); rintro e w' ⟨rfl, ⟨nd, rfl⟩⟩) | (go_at_call 10; (with_reducible refine (sum_Of.calls k (((a1.extract 0 ((ji8) : Int).toNat) ++ t127) ++ (a2.extract 0 ((ji11) : Int).toNat)) t131 _ A27.out).mono ?_); rintro e w' ⟨rfl, ⟨nd, rfl⟩⟩))
                            go_ret
                            exact ⟨by first | rfl | (simp [errW_none, errW_some] <;> rfl) | (simp only [← hji5, ← hji8, ← hji11]; first | rfl | (simp [errW_none, errW_some] <;> rfl)) | (simp [*, errW_none, errW_some] <;> rfl), by repeat (first | (with_reducible first | exact HB.out | apply below_alloc | apply pw_below_drewN | apply below_drew1) | exact HB.out)⟩
                        · rw [if_neg c26] at H
                          exact absurd H (by simp)
                      · rw [if_neg c24] at H
                        exact absurd H (by simp)
                    · rw [if_neg c23] at H
                      have c23b0 : (t128 == t129) = false := beq_eq_false_iff_ne.mpr c23
                      have c23b1 : (t128 != t129) = true := bne_iff_ne.mpr c23
                      obtain rfl := Option.some.inj H
                      go_enter Try.func5, Try.ntmps5
                      go_wp2_with (first | ((with_reducible refine gate_callee (f := 9) rfl ?_); refine goesL_ (some 13) rfl rfl Try.func9 (by kernel_rfl) rfl #[] rfl (by (try simp only [List.map_toArray, List.map_cons, List.map_nil]); first | done | rfl | (simp only [List.length_drop, List.length_take]; rfl)) ?_; (with_reducible refine (careenlaw05_awake.calls k  true _ A4.out).mono ?_); rintro e w41 ⟨rfl, hb⟩; refine ⟨_, rfl, ?_⟩; have n0_ := Aside0.mk (below_step (by repeat (first | (with_reducible first | exact HB.out | apply below_alloc | apply pw_below_drewN | apply below_drew1) | exact HB.out)) hb); clear HB; have HB := n0_; clear n0_; (try clear hb); (try clear hb2); (try clear hk); (try clear hi)) | ((with_reducible refine gate_callee (f := 10) rfl ?_); refine goesL_ (some 31) rfl rfl Try.func10 (by kernel_rfl) rfl #[.string (a0.extract 0 ((ji5) : Int).toNat)] rfl (by (try simp only [List.map_toArray, List.map_cons, List.map_nil]); first | done | (simp only [hji5]; rfl) | rfl | (simp only [List.length_drop, List.length_take]; rfl)) ?_; (with_reducible refine (sum_Of.calls k (a0.extract 0 ((ji5) : Int).toNat) t124 _ A14.out).mono ?_); rintro e w' ⟨rfl, ⟨nd, rfl⟩⟩; refine ⟨_, rfl, ?_⟩) | ((with_reducible refine gate_callee (f := 12) rfl ?_); refine goesL_ (some 32) rfl rfl Try.func12 (by kernel_rfl) rfl #[.int .i64 t124] rfl (by (try simp only [List.map_toArray, List.map_cons, List.map_nil]); first | done | rfl | (simp only [List.length_drop, List.length_take]; rfl)) ?_; (with_reducible refine (sum_Bytes.calls k t124 t125 _ A15.out).mono ?_); rintro e w42 ⟨rfl, hb⟩; refine ⟨_, rfl, ?_⟩; have n0_ := Aside0.mk (below_step (by repeat (first | (with_reducible first | exact HB.out | apply below_alloc | apply pw_below_drewN | apply below_drew1) | exact HB.out)) hb); clear HB; have HB := n0_; clear n0_; (try clear hb); (try clear hb2); (try clear hk); (try clear hi)) | ((with_reducible refine gate_callee (f := 10) rfl ?_); refine goesL_ (some 36) rfl rfl Try.func10 (by kernel_rfl) rfl #[.string (a1.extract 0 ((ji8) : Int).toNat)] rfl (by (try simp only [List.map_toArray, List.map_cons, List.map_nil]); first | done | (simp only [hji8]; rfl) | rfl | (simp only [List.length_drop, List.length_take]; rfl)) ?_; (with_reducible refine (sum_Of.calls k (a1.extract 0 ((ji8) : Int).toNat) t126 _ A17.out).mono ?_); rintro e w' ⟨rfl, ⟨nd, rfl⟩⟩; refine ⟨_, rfl, ?_⟩) | ((with_reducible refine gate_callee (f := 12) rfl ?_); refine goesL_ (some 37) rfl rfl Try.func12 (by kernel_rfl) rfl #[.int .i64 t126] rfl (by (try simp only [List.map_toArray, List.map_cons, List.map_nil]); first | done | rfl | (simp only [List.length_drop, List.length_take]; rfl)) ?_; (with_reducible refine (sum_Bytes.calls k t126 t127 _ A18.out).mono ?_); rintro e w43 ⟨rfl, hb⟩; refine ⟨_, rfl, ?_⟩; have n0_ := Aside0.mk (below_step (by repeat (first | (with_reducible first | exact HB.out | apply below_alloc | apply pw_below_drewN | apply below_drew1) | exact HB.out)) hb); clear HB; have HB := n0_; clear n0_; (try clear hb); (try clear hb2); (try clear hk); (try clear hi)) | (go_at_call 10; (with_reducible refine (sum_Of.calls k ((a0.extract 0 ((ji5) : Int).toNat) ++ t125) t128 _ A21.out).mono ?_); rintro e w' ⟨rfl, ⟨nd, rfl⟩⟩) | (go_at_call 10; (with_reducible refine (sum_Of.calls k ((a1.extract 0 ((ji8) : Int).toNat) ++ t127) t129 _ A22.out).mono ?_); rintro e w' ⟨rfl, ⟨nd, rfl⟩⟩))
                      go_ret
                      exact ⟨by first | rfl | (simp [errW_none, errW_some] <;> rfl) | (simp only [← hji5, ← hji8, ← hji11]; first | rfl | (simp [errW_none, errW_some] <;> rfl)) | (simp [*, errW_none, errW_some] <;> rfl), by repeat (first | (with_reducible first | exact HB.out | apply below_alloc | apply pw_below_drewN | apply below_drew1) | exact HB.out)⟩
                  · replace c20 := Bool.eq_false_iff.mpr c20
                    subst c20
                    have H1 : (some false) = some r := by rw [if_neg (show ¬ (false = true) by decide)] at H; exact H
                    clear H
                    have H := H1
                    clear H1
                    obtain rfl := Option.some.inj H
                    go_enter Try.func5, Try.ntmps5
                    go_wp2_with (first | ((with_reducible refine gate_callee (f := 9) rfl ?_); refine goesL_ (some 13) rfl rfl Try.func9 (by kernel_rfl) rfl #[] rfl (by (try simp only [List.map_toArray, List.map_cons, List.map_nil]); first | done | rfl | (simp only [List.length_drop, List.length_take]; rfl)) ?_; (with_reducible refine (careenlaw05_awake.calls k  false _ A4.out).mono ?_); rintro e w44 ⟨rfl, hb⟩; refine ⟨_, rfl, ?_⟩; have n0_ := Aside0.mk (below_step (by repeat (first | (with_reducible first | exact HB.out | apply below_alloc | apply pw_below_drewN | apply below_drew1) | exact HB.out)) hb); clear HB; have HB := n0_; clear n0_; (try clear hb); (try clear hb2); (try clear hk); (try clear hi)) | ((with_reducible refine gate_callee (f := 10) rfl ?_); refine goesL_ (some 31) rfl rfl Try.func10 (by kernel_rfl) rfl #[.string (a0.extract 0 ((ji5) : Int).toNat)] rfl (by (try simp only [List.map_toArray, List.map_cons, List.map_nil]); first | done | (simp only [hji5]; rfl) | rfl | (simp only [List.length_drop, List.length_take]; rfl)) ?_; (with_reducible refine (sum_Of.calls k (a0.extract 0 ((ji5) : Int).toNat) t124 _ A14.out).mono ?_); rintro e w' ⟨rfl, ⟨nd, rfl⟩⟩; refine ⟨_, rfl, ?_⟩) | ((with_reducible refine gate_callee (f := 12) rfl ?_); refine goesL_ (some 32) rfl rfl Try.func12 (by kernel_rfl) rfl #[.int .i64 t124] rfl (by (try simp only [List.map_toArray, List.map_cons, List.map_nil]); first | done | rfl | (simp only [List.length_drop, List.length_take]; rfl)) ?_; (with_reducible refine (sum_Bytes.calls k t124 t125 _ A15.out).mono ?_); rintro e w45 ⟨rfl, hb⟩; refine ⟨_, rfl, ?_⟩; have n0_ := Aside0.mk (below_step (by repeat (first | (with_reducible first | exact HB.out | apply below_alloc | apply pw_below_drewN | apply below_drew1) | exact HB.out)) hb); clear HB; have HB := n0_; clear n0_; (try clear hb); (try clear hb2); (try clear hk); (try clear hi)) | ((with_reducible refine gate_callee (f := 10) rfl ?_); refine goesL_ (some 36) rfl rfl Try.func10 (by kernel_rfl) rfl #[.string (a1.extract 0 ((ji8) : Int).toNat)] rfl (by (try simp only [List.map_toArray, List.map_cons, List.map_nil]); first | done | (simp only [hji8]; rfl) | rfl | (simp only [List.length_drop, List.length_take]; rfl)) ?_; (with_reducible refine (sum_Of.calls k (a1.extract 0 ((ji8) : Int).toNat) t126 _ A17.out).mono ?_); rintro e w' ⟨rfl, ⟨nd, rfl⟩⟩; refine ⟨_, rfl, ?_⟩) | ((with_reducible refine gate_callee (f := 12) rfl ?_); refine goesL_ (some 37) rfl rfl Try.func12 (by kernel_rfl) rfl #[.int .i64 t126] rfl (by (try simp only [List.map_toArray, List.map_cons, List.map_nil]); first | done | rfl | (simp only [List.length_drop, List.length_take]; rfl)) ?_; (with_reducible refine (sum_Bytes.calls k t126 t127 _ A18.out).mono ?_); rintro e w46 ⟨rfl, hb⟩; refine ⟨_, rfl, ?_⟩; have n0_ := Aside0.mk (below_step (by repeat (first | (with_reducible first | exact HB.out | apply below_alloc | apply pw_below_drewN | apply below_drew1) | exact HB.out)) hb); clear HB; have HB := n0_; clear n0_; (try clear hb); (try clear hb2); (try clear hk); (try clear hi)))
                    go_ret
                    exact ⟨by first | rfl | (simp [errW_none, errW_some] <;> rfl) | (simp only [← hji5, ← hji8, ← hji11]; first | rfl | (simp [errW_none, errW_some] <;> rfl)) | (simp [*, errW_none, errW_some] <;> rfl), by repeat (first | (with_reducible first | exact HB.out | apply below_alloc | apply pw_below_drewN | apply below_drew1) | exact HB.out)⟩
                · rw [if_neg c19] at H
                  exact absurd H (by simp)
              · rw [if_neg c16] at H
                exact absurd H (by simp)
            · rw [if_neg c13] at H
              exact absurd H (by simp)
          · rw [if_neg c12] at H
            exact absurd H (by simp)
        · rw [if_neg c10] at H
          exact absurd H (by simp)
      · rw [if_neg c9] at H
        exact absurd H (by simp)
    · rw [if_neg c7] at H
      exact absurd H (by simp)
  · rw [if_neg c6] at H
    exact absurd H (by simp)

/-- THE ONE PURE STATEMENT of careenlaw05_SumBehind: yours. -/
def careenlaw05_SumBehind.Pure : Prop := ∀ (a0 : ByteArray) (a1 : ByteArray) (a2 : ByteArray), a0.size ≤ 140737488351232 → a1.size ≤ 140737488351232 → a2.size ≤ 140737488351232 → ∃ k, careenlaw05_SumBehind.f k a0 a1 a2 = some true
theorem careenlaw05_SumBehind.walk (P : careenlaw05_SumBehind.Pure) (a0 : ByteArray) (a1 : ByteArray) (a2 : ByteArray) (w : World) (w0 : a0.size ≤ 140737488351232) (w1 : a1.size ≤ 140737488351232) (w2 : a2.size ≤ 140737488351232) :
    Calls Try.prog 5 #[.string a0, .string a1, .string a2] w fun e w' => e = .returned (.bool true) ∧ Below w.heap.size w w' := by
  obtain ⟨k, h⟩ := P a0 a1 a2 w0 w1 w2
  refine (careenlaw05_SumBehind.calls k a0 a1 a2 true w h).mono ?_
  rintro e w' ⟨rfl, hd⟩
  exact ⟨rfl, hd⟩

end Go.Proofs.Ytimodgajmcmkpaa.PAll
