-- Written by a program of this session (wip/xpatch.py, wip/xprint.sh) for seat Ytdoehfppncgieaa.
import Derived.Test.YtdoehfppncgieaaPAllx0
import Derived.Test.YtdoehfppncgieaaPAllx1
namespace Go.Proofs.Ytdoehfppncgieaa.PAll
open Go.RowKit Go.Proofs.YtdoehfppncgieaaW.PrintWords Go.Proofs.YtdoehfppncgieaaW.PrintLast Go.Proofs.YtdoehfppncgieaaW.PrintMore
attribute [local go_sem] max2_int min2_int max_two min_two max_three min_three max_four min_four   -- for this text's walks alone
set_option linter.unusedVariables false
set_option linter.unusedSimpArgs false

/-! ### careenlaw01_VarintRow: function 7 -/
mutual
def careenlaw01_VarintRow.l0 : Nat → List Int → Bool → ByteArray → Int → Int → Option (Bool)
  | 0, _, _, _, _, _ => none
  | k + 1, x0, x3, x4, x5, x6 => if x6 < x5 then (if 0 ≤ x6 then (if x6 < (x0.length : Int) then ((careenlaw01_pick.f (rd x0 x6) 9007199254740993).bind fun t176 => ((varint_Put.f t176).bind fun bt177 => (if bt177.2 = 0 then (if x4.size + bt177.1.size ≤ 9223372036854775807 then (careenlaw01_VarintRow.l0 k x0 x3 (x4 ++ bt177.1) x5 (wrap64 (x6 + 1))) else (none)) else (some false)))) else (none)) else (none)) else (careenlaw01_VarintRow.l1 k x0 x3 x4 x5 0)
def careenlaw01_VarintRow.l1 : Nat → List Int → Bool → ByteArray → Int → Int → Option (Bool)
  | 0, _, _, _, _, _ => none
  | k + 1, x0, x3, x4, x5, x9 => if x9 < x5 then ((varint_Take.f k x4).bind fun bt179 => (if bt179.2.2 = 0 then (if 0 ≤ x9 then (if x9 < (x0.length : Int) then ((careenlaw01_pick.f (rd x0 x9) 9007199254740993).bind fun t183 => (if bt179.1 = t183 then (if bt179.2.1 < 1 then (some false) else (if bt179.2.1 > (x4.size : Int) then (some false) else (if 0 ≤ bt179.2.1 then (if bt179.2.1 ≤ (x4.size : Int) then (careenlaw01_VarintRow.l1 k x0 x3 (x4.extract (bt179.2.1 : Int).toNat x4.size) x5 (wrap64 (x9 + 1))) else (none)) else (none)))) else (some false))) else (none)) else (none)) else (some false))) else (if x3 = true then (some (x4.toList == ([] : List UInt8))) else (some false))
end
def careenlaw01_VarintRow.f (k : Nat) (l0 : List Int) : Option (Bool) := (careenlaw01_awake.f k).bind fun t174 => (careenlaw01_VarintRow.l0 k l0 t174 (⟨#[]⟩ : ByteArray) (mn (l0.length : Int) 20) 0)
theorem careenlaw01_VarintRow.mono_l : ∀ k, (∀ y0 y1 y2 y3 y4, LeO (careenlaw01_VarintRow.l0 k y0 y1 y2 y3 y4) (careenlaw01_VarintRow.l0 (k + 1) y0 y1 y2 y3 y4)) ∧ (∀ y0 y1 y2 y3 y4, LeO (careenlaw01_VarintRow.l1 k y0 y1 y2 y3 y4) (careenlaw01_VarintRow.l1 (k + 1) y0 y1 y2 y3 y4))
  | 0 => ⟨(fun _ _ _ _ _ r h => by cases (show (none : Option _) = some r from h)), (fun _ _ _ _ _ r h => by cases (show (none : Option _) = some r from h))⟩
  | k + 1 => by
    obtain ⟨ih0, ih1⟩ := careenlaw01_VarintRow.mono_l k
    refine ⟨?_, ?_⟩
    · intro y0 y1 y2 y3 y4
      unfold careenlaw01_VarintRow.l0
      repeat' first
      | (with_reducible exact ih0 _ _ _ _ _)
      | (with_reducible exact ih1 _ _ _ _ _)
      | (with_reducible exact careenlaw01_awake.mono _)
      | (with_reducible exact varint_Take.mono _ _)
      | (with_reducible exact LeO.refl _)
      | (with_reducible exact LeO.none _)
      | (with_reducible refine LeO.ite ?_ ?_)
      | (with_reducible refine LeO.bind ?_ (fun _ => ?_))
      | exact ih0 _ _ _ _ _
      | exact ih1 _ _ _ _ _
      | exact careenlaw01_awake.mono _
      | exact varint_Take.mono _ _
      | exact LeO.none _
      | refine LeO.ite ?_ ?_
      | refine LeO.bind ?_ (fun _ => ?_)
    · intro y0 y1 y2 y3 y4
      unfold careenlaw01_VarintRow.l1
      repeat' first
      | (with_reducible exact ih0 _ _ _ _ _)
      | (with_reducible exact ih1 _ _ _ _ _)
      | (with_reducible exact careenlaw01_awake.mono _)
      | (with_reducible exact varint_Take.mono _ _)
      | (with_reducible exact LeO.refl _)
      | (with_reducible exact LeO.none _)
      | (with_reducible refine LeO.ite ?_ ?_)
      | (with_reducible refine LeO.bind ?_ (fun _ => ?_))
      | exact ih0 _ _ _ _ _
      | exact ih1 _ _ _ _ _
      | exact careenlaw01_awake.mono _
      | exact varint_Take.mono _ _
      | exact LeO.none _
      | refine LeO.ite ?_ ?_
      | refine LeO.bind ?_ (fun _ => ?_)
theorem careenlaw01_VarintRow.mono : ∀ a0 k, LeO (careenlaw01_VarintRow.f k a0) (careenlaw01_VarintRow.f (k + 1) a0) := by
  intro a0 k
  obtain ⟨ih0, ih1⟩ := careenlaw01_VarintRow.mono_l k
  unfold careenlaw01_VarintRow.f
  repeat' first
      | (with_reducible exact ih0 _ _ _ _ _)
      | (with_reducible exact ih1 _ _ _ _ _)
      | (with_reducible exact careenlaw01_awake.mono _)
      | (with_reducible exact varint_Take.mono _ _)
      | (with_reducible exact LeO.refl _)
      | (with_reducible exact LeO.none _)
      | (with_reducible refine LeO.ite ?_ ?_)
      | (with_reducible refine LeO.bind ?_ (fun _ => ?_))
      | exact ih0 _ _ _ _ _
      | exact ih1 _ _ _ _ _
      | exact careenlaw01_awake.mono _
      | exact varint_Take.mono _ _
      | exact LeO.none _
      | refine LeO.ite ?_ ?_
      | refine LeO.bind ?_ (fun _ => ?_)
set_option maxHeartbeats 8000000 in
set_option maxRecDepth 100000 in
theorem careenlaw01_VarintRow.calls (k : Nat) (A0 : Option Addr) (c0 : Nat) (l0 : List Int) (w : World) (hr0 : Kd.C (Kd.int .i64) w A0 l0.length l0) (hc0 : l0.length ≤ c0) (h : careenlaw01_VarintRow.f k l0 = some true) :
    Calls Try.prog 7 #[.slice A0 l0.length c0] w fun e w' => e = .returned (.bool true) ∧ Below w.heap.size w w' := by
  have HR0 := Aside0.mk hr0
  have HC0 := Aside0.mk hc0
  clear hr0 hc0
  have HB := Aside0.mk (Below.refl w.heap.size w)
  have H : ((careenlaw01_awake.f k).bind fun t174 => (careenlaw01_VarintRow.l0 k l0 t174 (⟨#[]⟩ : ByteArray) (mn (l0.length : Int) 20) 0)) = some true := h
  clear h
  replace H := Option.bind_eq_some_iff.mp H
  obtain ⟨t174, A20, H⟩ := H
  replace H : (careenlaw01_VarintRow.l0 k l0 t174 (⟨#[]⟩ : ByteArray) (mn (l0.length : Int) 20) 0) = some true := H
  have A2 := Aside0.mk A20
  clear A20
  obtain ⟨ji3, hji3⟩ : ∃ j_ : Int, (mn (l0.length : Int) 20) = j_ := ⟨_, rfl⟩
  replace H : (careenlaw01_VarintRow.l0 k l0 t174 (⟨#[]⟩ : ByteArray) ji3 0) = some true := by first | (rw [hji3] at H; exact H) | (simp only [hji3] at H ⊢; exact H)
  (try rw [hji3] at A2)
  (try (have hji3h : ji3 ≤ 20 := by (rw [← hji3]; unfold mn; (repeat' split) <;> omega)))
  (try (have hji3g : ji3 ≤ 64 := by omega))
  (try (have hji3l : 0 ≤ ji3 := by (rw [← hji3]; unfold mn; (repeat' split) <;> omega)))
  (try (have hji3m : 0 ≤ ji3 := by omega))
  have hji3_ : (if 20 < (l0.length : Int) then 20 else (l0.length : Int)) = ji3 := hji3
  have H' := Aside0.mk H
  clear H
  go_enter Try.func7, Try.ntmps7
  go_wp2_with (first | ((with_reducible refine gate_callee (f := 9) rfl ?_); refine goesL_ (some 13) rfl rfl Try.func9 (by kernel_rfl) rfl #[] rfl (by (try simp only [List.map_toArray, List.map_cons, List.map_nil]); first | done | rfl | (simp only [List.length_drop, List.length_take]; rfl)) ?_; (with_reducible refine (careenlaw01_awake.calls k  t174 _ A2.out).mono ?_); rintro e w4 ⟨rfl, hb⟩; refine ⟨_, rfl, ?_⟩; have n0_ := Aside0.mk (below_step (by repeat (first | (with_reducible first | exact HB.out | apply below_alloc | apply pw_below_drewN | apply below_drew1) | exact HB.out)) hb); clear HB; have HB := n0_; clear n0_; (try clear hb); (try clear hb2); (try clear hk); (try clear hi)))
  go_loopg [4, 6] k (fun kq v4 v6 w' => ∃ (x4_1 : ByteArray) (x6_1 : Int), v4 = .string x4_1 ∧ v6 = .int .i64 x6_1 ∧ Aside0 (careenlaw01_VarintRow.l0 kq l0 t174 x4_1 ji3 x6_1 = some true) ∧ Aside0 (kq ≤ k) ∧ Aside0 (Below w.heap.size w w'))
  case atStart => exact ⟨((⟨#[]⟩ : ByteArray)), (0), (by first | rfl | (simp; done) | (simp [*]; done)), (by first | rfl | (simp; done) | (simp [*]; done)), H', ⟨Nat.le_refl _⟩, ⟨by repeat (first | (with_reducible first | exact HB.out | apply below_alloc | apply pw_below_drewN | apply below_drew1) | exact HB.out)⟩⟩
  case round =>
    clear H'
    try clear p2
    obtain ⟨x4_1, x6_1, rfl, rfl, HA, HK1, HB⟩ := hrel
    cases gk with
    | zero => cases (show (none : Option _) = some _ from HA.out)
    | succ k1 =>
      have H := HA.out
      clear HA
      simp only [careenlaw01_VarintRow.l0] at H
      by_cases c5 : x6_1 < ji3
      · rw [if_pos c5] at H
        have c5b0 : decide (x6_1 < ji3) = true := decide_eq_true c5
        clear c5
        by_cases c6 : 0 ≤ x6_1
        · rw [if_pos c6] at H
          have c6b0 : decide (0 ≤ x6_1) = true := decide_eq_true c6
          clear c6
          by_cases c7 : x6_1 < (l0.length : Int)
          · rw [if_pos c7] at H
            have c7b0 : decide (x6_1 < (l0.length : Int)) = true := decide_eq_true c7
            clear c7
            replace H := Option.bind_eq_some_iff.mp H
            obtain ⟨t176, A80, H⟩ := H
            replace H : ((varint_Put.f t176).bind fun bt177 => (if bt177.2 = 0 then (if x4_1.size + bt177.1.size ≤ 9223372036854775807 then (careenlaw01_VarintRow.l0 k1 l0 t174 (x4_1 ++ bt177.1) ji3 (wrap64 (x6_1 + 1))) else (none)) else (some false))) = some true := H
            have A8 := Aside0.mk A80
            clear A80
            replace H := Option.bind_eq_some_iff.mp H
            obtain ⟨⟨t177, t178⟩, A90, H⟩ := H
            replace H : (if t178 = 0 then (if x4_1.size + t177.size ≤ 9223372036854775807 then (careenlaw01_VarintRow.l0 k1 l0 t174 (x4_1 ++ t177) ji3 (wrap64 (x6_1 + 1))) else (none)) else (some false)) = some true := H
            have A9 := Aside0.mk A90
            clear A90
            by_cases c10 : t178 = 0
            · rw [if_pos c10] at H
              have c10b0 : (t178 == 0) = true := beq_iff_eq.mpr c10
              have c10b1 : (t178 != 0) = false := bne_eq_false_iff_eq.mpr c10
              clear c10
              by_cases c11 : x4_1.size + t177.size ≤ 9223372036854775807
              · rw [if_pos c11] at H
                have c11b0 := eq_true c11
                have c11b1 : decide (x4_1.size + t177.size ≤ 9223372036854775807) = true := decide_eq_true c11
                try have c11b2 : (9223372036854775807 < x4_1.size + t177.size) = False := eq_false (Nat.not_lt.2 c11)
                have H' := Aside0.mk H
                clear H
                have p175 : 0 ≤ (x6_1 : Int) := of_decide_eq_true (by first | (with_reducible assumption) | assumption)
                have q175 : x6_1 < (l0.length : Int) := of_decide_eq_true (by first | (with_reducible assumption) | assumption)
                obtain ⟨ad175, e175, hx175_0⟩ := Kd.at_int HR0.out x6_1 p175 q175
                cases e175
                replace hx175_0 := (HB.out.cell (World.block_lt_of_cell? w _ hx175_0)).trans hx175_0
                replace p175 := eq_true p175
                replace q175 := eq_true q175
                go_wp2_with (first | ((with_reducible refine gate_callee (f := 10) rfl ?_); refine goesL_ (some 27) rfl rfl Try.func10 (by kernel_rfl) rfl #[.int .i64 (rd l0 x6_1), .int .i64 9007199254740993] rfl (by (try simp only [List.map_toArray, List.map_cons, List.map_nil]); first | done | rfl | (simp only [List.length_drop, List.length_take]; rfl)) ?_; (with_reducible refine (careenlaw01_pick.calls (rd l0 x6_1) 9007199254740993 t176 _ A8.out).mono ?_); rintro e w' ⟨rfl, ⟨nd, rfl⟩⟩; refine ⟨_, rfl, ?_⟩) | ((with_reducible refine gate_callee (f := 11) rfl ?_); refine goesL_ (some 28) rfl rfl Try.func11 (by kernel_rfl) rfl #[.int .i64 t176] rfl (by (try simp only [List.map_toArray, List.map_cons, List.map_nil]); first | done | rfl | (simp only [List.length_drop, List.length_take]; rfl)) ?_; (with_reducible refine (varint_Put.calls t176 t177 t178 _ A9.out).mono ?_); rintro e w12 ⟨rfl, hb⟩; refine ⟨_, rfl, ?_⟩; have n0_ := Aside0.mk (below_step (by repeat (first | (with_reducible first | exact HB.out | apply below_alloc | apply pw_below_drewN | apply below_drew1) | exact HB.out)) hb); clear HB; have HB := n0_; clear n0_; (try clear hb); (try clear hb2); (try clear hk); (try clear hi)))
                go_roundg k1
                case measure => have := HK1.out; omega
                case rel => exact ⟨(x4_1 ++ t177), (wrap64 (x6_1 + 1)), (by first | rfl | (simp; done) | (simp [*]; done)), (by first | rfl | (simp; done) | (simp [*]; done)), H', ⟨by have := HK1.out; omega⟩, ⟨by repeat (first | (with_reducible first | exact HB.out | apply below_alloc | apply pw_below_drewN | apply below_drew1) | exact HB.out)⟩⟩
              · rw [if_neg c11] at H
                exact absurd H (by simp)
            · rw [if_neg c10] at H
              have c10b0 : (t178 == 0) = false := beq_eq_false_iff_ne.mpr c10
              have c10b1 : (t178 != 0) = true := bne_iff_ne.mpr c10
              exact absurd H (by simp)
          · rw [if_neg c7] at H
            exact absurd H (by simp)
        · rw [if_neg c6] at H
          exact absurd H (by simp)
      · rw [if_neg c5] at H
        have c5b0 : decide (x6_1 < ji3) = false := decide_eq_false c5
        clear c5
        have H' := Aside0.mk H
        clear H
        go_wp2
        go_loopg [4, 9] k1 (fun kq v4 v9 w' => ∃ (x4_2 : ByteArray) (x9_2 : Int), v4 = .string x4_2 ∧ v9 = .int .i64 x9_2 ∧ Aside0 (careenlaw01_VarintRow.l1 kq l0 t174 x4_2 ji3 x9_2 = some true) ∧ Aside0 (kq ≤ k1) ∧ Aside0 (Below w.heap.size w w'))
        case atStart => exact ⟨(x4_1), (0), (by first | rfl | (simp; done) | (simp [*]; done)), (by first | rfl | (simp; done) | (simp [*]; done)), H', ⟨Nat.le_refl _⟩, ⟨by repeat (first | (with_reducible first | exact HB.out | apply below_alloc | apply pw_below_drewN | apply below_drew1) | exact HB.out)⟩⟩
        case round =>
          clear H'
          try clear c1
          try clear p1
          try clear q1
          try clear hx1
          try clear p2
          try clear c5
          try clear c5b0
          try clear c6
          try clear c6b0
          try clear p6
          try clear c7
          try clear c7b0
          try clear c9
          try clear c10
          try clear c10b0
          try clear c10b1
          try clear c11
          try clear c11b0
          try clear c11b1
          try clear c11b2
          try clear hx175_0
          try clear p175
          try clear p2
          try clear q175
          obtain ⟨x4_2, x9_2, rfl, rfl, HA, HK2, HB⟩ := hrel
          cases gk with
          | zero => cases (show (none : Option _) = some _ from HA.out)
          | succ k2 =>
            have H := HA.out
            clear HA
            simp only [careenlaw01_VarintRow.l1] at H
            by_cases c13 : x9_2 < ji3
            · rw [if_pos c13] at H
              have c13b0 : decide (x9_2 < ji3) = true := decide_eq_true c13
              clear c13
              replace H := Option.bind_eq_some_iff.mp H
              obtain ⟨⟨t179, t180, t181⟩, A140, H⟩ := H
              replace H : (if t181 = 0 then (if 0 ≤ x9_2 then (if x9_2 < (l0.length : Int) then ((careenlaw01_pick.f (rd l0 x9_2) 9007199254740993).bind fun t183 => (if t179 = t183 then (if t180 < 1 then (some false) else (if t180 > (x4_2.size : Int) then (some false) else (if 0 ≤ t180 then (if t180 ≤ (x4_2.size : Int) then (careenlaw01_VarintRow.l1 k2 l0 t174 (x4_2.extract (t180 : Int).toNat x4_2.size) ji3 (wrap64 (x9_2 + 1))) else (none)) else (none)))) else (some false))) else (none)) else (none)) else (some false)) = some true := H
              have A14 := Aside0.mk A140
              clear A140
              by_cases c15 : t181 = 0
              · rw [if_pos c15] at H
                have c15b0 : (t181 == 0) = true := beq_iff_eq.mpr c15
                have c15b1 : (t181 != 0) = false := bne_eq_false_iff_eq.mpr c15
                clear c15
                by_cases c16 : 0 ≤ x9_2
                · rw [if_pos c16] at H
                  have c16b0 : decide (0 ≤ x9_2) = true := decide_eq_true c16
                  clear c16
                  by_cases c17 : x9_2 < (l0.length : Int)
                  · rw [if_pos c17] at H
                    have c17b0 : decide (x9_2 < (l0.length : Int)) = true := decide_eq_true c17
                    clear c17
                    replace H := Option.bind_eq_some_iff.mp H
                    obtain ⟨t183, A180, H⟩ := H
                    replace H : (if t179 = t183 then (if t180 < 1 then (some false) else (if t180 > (x4_2.size : Int) then (some false) else (if 0 ≤ t180 then (if t180 ≤ (x4_2.size : Int) then (careenlaw01_VarintRow.l1 k2 l0 t174 (x4_2.extract (t180 : Int).toNat x4_2.size) ji3 (wrap64 (x9_2 + 1))) else (none)) else (none)))) else (some false)) = some true := H
                    have A18 := Aside0.mk A180
                    clear A180
                    by_cases c19 : t179 = t183
                    · rw [if_pos c19] at H
                      have c19b0 : (t179 == t183) = true := beq_iff_eq.mpr c19
                      have c19b1 : (t179 != t183) = false := bne_eq_false_iff_eq.mpr c19
                      clear c19
                      by_cases c20 : t180 < 1
                      · rw [if_pos c20] at H
                        have c20b0 : decide (t180 < 1) = true := decide_eq_true c20
                        clear c20
                        exact absurd H (by simp)
                      · rw [if_neg c20] at H
                        have c20b0 : decide (t180 < 1) = false := decide_eq_false c20
                        clear c20
                        by_cases c21 : t180 > (x4_2.size : Int)
                        · rw [if_pos c21] at H
                          have c21b0 : decide ((x4_2.size : Int) < t180) = true := decide_eq_true c21
                          clear c21
                          exact absurd H (by simp)
                        · rw [if_neg c21] at H
                          have c21b0 : decide ((x4_2.size : Int) < t180) = false := decide_eq_false c21
                          clear c21
                          by_cases c22 : 0 ≤ t180
                          · rw [if_pos c22] at H
                            have c22b0 := eq_true c22
                            have c22b1 : decide (0 ≤ t180) = true := decide_eq_true c22
                            clear c22
                            by_cases c23 : t180 ≤ (x4_2.size : Int)
                            · rw [if_pos c23] at H
                              have c23b0 := eq_true c23
                              have c23b1 : decide (t180 ≤ (x4_2.size : Int)) = true := decide_eq_true c23
                              clear c23
                              have H' := Aside0.mk H
                              clear H
                              go_wp2_with (first | ((with_reducible refine gate_callee (f := 13) rfl ?_); refine goesL_ (some 43) rfl rfl Try.func13 (by kernel_rfl) rfl #[.string x4_2] rfl (by (try simp only [List.map_toArray, List.map_cons, List.map_nil]); first | done | rfl | (simp only [List.length_drop, List.length_take]; rfl)) ?_; (with_reducible refine (varint_Take.calls k2 x4_2 t179 t180 t181 _ A14.out).mono ?_); rintro e w24 ⟨rfl, hb⟩; refine ⟨_, rfl, ?_⟩; have n0_ := Aside0.mk (below_step (by repeat (first | (with_reducible first | exact HB.out | apply below_alloc | apply pw_below_drewN | apply below_drew1) | exact HB.out)) hb); clear HB; have HB := n0_; clear n0_; (try clear hb); (try clear hb2); (try clear hk); (try clear hi); have p182 : 0 ≤ (x9_2 : Int) := of_decide_eq_true (by first | (with_reducible assumption) | assumption); have q182 : x9_2 < (l0.length : Int) := of_decide_eq_true (by first | (with_reducible assumption) | assumption); obtain ⟨ad182, e182, hx182_0⟩ := Kd.at_int HR0.out x9_2 p182 q182; cases e182; replace hx182_0 := (HB.out.cell (World.block_lt_of_cell? w _ hx182_0)).trans hx182_0; replace p182 := eq_true p182; replace q182 := eq_true q182) | (go_at_call 10; (with_reducible refine (careenlaw01_pick.calls (rd l0 x9_2) 9007199254740993 t183 _ A18.out).mono ?_); rintro e w' ⟨rfl, ⟨nd, rfl⟩⟩))
                              go_roundg k2
                              case measure => have := HK1.out; have := HK2.out; omega
                              case rel => exact ⟨(x4_2.extract (t180 : Int).toNat x4_2.size), (wrap64 (x9_2 + 1)), (by first | rfl | (simp; done) | (simp [*]; done)), (by first | rfl | (simp; done) | (simp [*]; done)), H', ⟨by have := HK1.out; have := HK2.out; omega⟩, ⟨by repeat (first | (with_reducible first | exact HB.out | apply below_alloc | apply pw_below_drewN | apply below_drew1) | exact HB.out)⟩⟩
                            · rw [if_neg c23] at H
                              exact absurd H (by simp)
                          · rw [if_neg c22] at H
                            exact absurd H (by simp)
                    · rw [if_neg c19] at H
                      have c19b0 : (t179 == t183) = false := beq_eq_false_iff_ne.mpr c19
                      have c19b1 : (t179 != t183) = true := bne_iff_ne.mpr c19
                      exact absurd H (by simp)
                  · rw [if_neg c17] at H
                    exact absurd H (by simp)
                · rw [if_neg c16] at H
                  exact absurd H (by simp)
              · rw [if_neg c15] at H
                have c15b0 : (t181 == 0) = false := beq_eq_false_iff_ne.mpr c15
                have c15b1 : (t181 != 0) = true := bne_iff_ne.mpr c15
                exact absurd H (by simp)
            · rw [if_neg c13] at H
              have c13b0 : decide (x9_2 < ji3) = false := decide_eq_false c13
              clear c13
              by_cases c25 : t174 = true
              · subst c25
                have H1 : (some (x4_2.toList == ([] : List UInt8))) = some true := by rw [if_pos rfl] at H; exact H
                clear H
                have H := H1
                clear H1
                have HV_ := Aside0.mk (Option.some.inj H)
                clear H
                go_wp2
                go_ret
                exact ⟨by first | exact congrArg (fun b_ => Ending.returned (Value.bool b_)) HV_.out | (have hv_ := HV_.out; simp only [Bool.and_eq_true, beq_iff_eq] at hv_; simp [hv_]; done) | (have hv_ := HV_.out; simp at hv_; simp [*]; done) | rfl | (simp [errW_none, errW_some] <;> rfl) | (simp only [← hji3]; first | rfl | (simp [errW_none, errW_some] <;> rfl)) | (simp [*, errW_none, errW_some] <;> rfl), by repeat (first | (with_reducible first | exact HB.out | apply below_alloc | apply pw_below_drewN | apply below_drew1) | exact HB.out)⟩
              · replace c25 := Bool.eq_false_iff.mpr c25
                subst c25
                have H1 : (some false) = some true := by rw [if_neg (show ¬ (false = true) by decide)] at H; exact H
                clear H
                have H := H1
                clear H1
                exact absurd H (by simp)

/-- THE ONE PURE STATEMENT of careenlaw01_VarintRow: yours. -/
def careenlaw01_VarintRow.Pure : Prop := ∀ (l0 : List Int), l0.length ≤ maxLen → l0.length * 8 ≤ 140737488351232 → (∀ x ∈ l0, (Lit.int .i64 x).wf = true) → ∃ k, careenlaw01_VarintRow.f k l0 = some true
theorem careenlaw01_VarintRow.walk (P : careenlaw01_VarintRow.Pure) (a0 : Option Addr) (len0 cap0 : Nat) (z0 : List Int) (w : World) (w0 : (a0 = none ∧ len0 = 0 ∧ cap0 = 0 ∧ z0 = []) ∨ ∃ x, a0 = some x ∧ len0 ≤ cap0 ∧ cap0 ≤ maxLen ∧ z0.length = cap0 ∧ (∀ i, i < z0.length → w.cell? (x.add i) = some (.int .i64 (z0.getD i 0))) ∧ ∀ n ∈ z0, (Lit.int .i64 n).wf = true) (y0 : len0 * 8 ≤ 140737488351232) :
    Calls Try.prog 7 #[.slice a0 len0 cap0] w fun e w' => e = .returned (.bool true) ∧ Below w.heap.size w w' := by
  obtain ⟨l0, rfl, hr0, hm0, hw0, hc0⟩ := ReadsInt.ofRowC w0
  obtain ⟨k, h⟩ := P l0 hm0 y0 hw0
  refine (careenlaw01_VarintRow.calls k _ _ l0 w (Kd.C_of_reads (d := (0 : Int)) (h1 := fun _ => rfl) hr0) hc0 h).mono ?_
  rintro e w' ⟨rfl, hd⟩
  exact ⟨rfl, hd⟩

/-! ### careenlaw01_VarintSize: function 8 -/
def careenlaw01_VarintSize.f (k : Nat) (a0 : Int) (a1 : Int) : Option (Bool) := (careenlaw01_awake.f k).bind fun t184 => ((careenlaw01_pick.f a0 35184372088832).bind fun t185 => ((varint_Put.f (wrap64 (1 + t185))).bind fun bt186 => ((careenlaw01_pick.f a1 128).bind fun t188 => ((varint_Put.f (wrap64 ((wrap64 (128 * (wrap64 (1 + t185)))) + t188))).bind fun bt189 => ((varint_Put.f 0).bind fun bt191 => (if t184 = true then (if bt186.2 = 0 then (if bt189.2 = 0 then (if bt191.2 = 0 then (if (bt189.1.size : Int) = (wrap64 ((bt186.1.size : Int) + 1)) then (if 1 ≤ (bt189.1.size : Int) then (if (bt189.1.extract 1 bt189.1.size).toList = bt186.1.toList then (if (bt191.1.size : Int) = 1 then (some (((bt186.1.size : Int) == 1) == (decide ((wrap64 (1 + t185)) < 128)))) else (some false)) else (some false)) else (none)) else (some false)) else (some false)) else (some false)) else (some false)) else (some false)))))))
theorem careenlaw01_VarintSize.mono : ∀ a0 a1 k, LeO (careenlaw01_VarintSize.f k a0 a1) (careenlaw01_VarintSize.f (k + 1) a0 a1) := by
  intro a0 a1 k
  unfold careenlaw01_VarintSize.f
  repeat' first
      | (with_reducible exact careenlaw01_awake.mono _)
      | (with_reducible exact LeO.refl _)
      | (with_reducible exact LeO.none _)
      | (with_reducible refine LeO.ite ?_ ?_)
      | (with_reducible refine LeO.bind ?_ (fun _ => ?_))
      | exact careenlaw01_awake.mono _
      | exact LeO.none _
      | refine LeO.ite ?_ ?_
      | refine LeO.bind ?_ (fun _ => ?_)
set_option maxHeartbeats 8000000 in
set_option maxRecDepth 100000 in
theorem careenlaw01_VarintSize.calls (k : Nat) (a0 : Int) (a1 : Int) (w : World) (h : careenlaw01_VarintSize.f k a0 a1 = some true) :
    Calls Try.prog 8 #[.int .i64 a0, .int .i64 a1] w fun e w' => e = .returned (.bool true) ∧ Below w.heap.size w w' := by
  have HB := Aside0.mk (Below.refl w.heap.size w)
  have H : ((careenlaw01_awake.f k).bind fun t184 => ((careenlaw01_pick.f a0 35184372088832).bind fun t185 => ((varint_Put.f (wrap64 (1 + t185))).bind fun bt186 => ((careenlaw01_pick.f a1 128).bind fun t188 => ((varint_Put.f (wrap64 ((wrap64 (128 * (wrap64 (1 + t185)))) + t188))).bind fun bt189 => ((varint_Put.f 0).bind fun bt191 => (if t184 = true then (if bt186.2 = 0 then (if bt189.2 = 0 then (if bt191.2 = 0 then (if (bt189.1.size : Int) = (wrap64 ((bt186.1.size : Int) + 1)) then (if 1 ≤ (bt189.1.size : Int) then (if (bt189.1.extract 1 bt189.1.size).toList = bt186.1.toList then (if (bt191.1.size : Int) = 1 then (some (((bt186.1.size : Int) == 1) == (decide ((wrap64 (1 + t185)) < 128)))) else (some false)) else (some false)) else (none)) else (some false)) else (some false)) else (some false)) else (some false)) else (some false)))))))) = some true := h
  clear h
  replace H := Option.bind_eq_some_iff.mp H
  obtain ⟨t184, A30, H⟩ := H
  replace H : ((careenlaw01_pick.f a0 35184372088832).bind fun t185 => ((varint_Put.f (wrap64 (1 + t185))).bind fun bt186 => ((careenlaw01_pick.f a1 128).bind fun t188 => ((varint_Put.f (wrap64 ((wrap64 (128 * (wrap64 (1 + t185)))) + t188))).bind fun bt189 => ((varint_Put.f 0).bind fun bt191 => (if t184 = true then (if bt186.2 = 0 then (if bt189.2 = 0 then (if bt191.2 = 0 then (if (bt189.1.size : Int) = (wrap64 ((bt186.1.size : Int) + 1)) then (if 1 ≤ (bt189.1.size : Int) then (if (bt189.1.extract 1 bt189.1.size).toList = bt186.1.toList then (if (bt191.1.size : Int) = 1 then (some (((bt186.1.size : Int) == 1) == (decide ((wrap64 (1 + t185)) < 128)))) else (some false)) else (some false)) else (none)) else (some false)) else (some false)) else (some false)) else (some false)) else (some false))))))) = some true := H
  have A3 := Aside0.mk A30
  clear A30
  replace H := Option.bind_eq_some_iff.mp H
  obtain ⟨t185, A40, H⟩ := H
  replace H : ((varint_Put.f (wrap64 (1 + t185))).bind fun bt186 => ((careenlaw01_pick.f a1 128).bind fun t188 => ((varint_Put.f (wrap64 ((wrap64 (128 * (wrap64 (1 + t185)))) + t188))).bind fun bt189 => ((varint_Put.f 0).bind fun bt191 => (if t184 = true then (if bt186.2 = 0 then (if bt189.2 = 0 then (if bt191.2 = 0 then (if (bt189.1.size : Int) = (wrap64 ((bt186.1.size : Int) + 1)) then (if 1 ≤ (bt189.1.size : Int) then (if (bt189.1.extract 1 bt189.1.size).toList = bt186.1.toList then (if (bt191.1.size : Int) = 1 then (some (((bt186.1.size : Int) == 1) == (decide ((wrap64 (1 + t185)) < 128)))) else (some false)) else (some false)) else (none)) else (some false)) else (some false)) else (some false)) else (some false)) else (some false)))))) = some true := H
  have A4 := Aside0.mk A40
  clear A40
  replace H := Option.bind_eq_some_iff.mp H
  obtain ⟨⟨t186, t187⟩, A50, H⟩ := H
  replace H : ((careenlaw01_pick.f a1 128).bind fun t188 => ((varint_Put.f (wrap64 ((wrap64 (128 * (wrap64 (1 + t185)))) + t188))).bind fun bt189 => ((varint_Put.f 0).bind fun bt191 => (if t184 = true then (if t187 = 0 then (if bt189.2 = 0 then (if bt191.2 = 0 then (if (bt189.1.size : Int) = (wrap64 ((t186.size : Int) + 1)) then (if 1 ≤ (bt189.1.size : Int) then (if (bt189.1.extract 1 bt189.1.size).toList = t186.toList then (if (bt191.1.size : Int) = 1 then (some (((t186.size : Int) == 1) == (decide ((wrap64 (1 + t185)) < 128)))) else (some false)) else (some false)) else (none)) else (some false)) else (some false)) else (some false)) else (some false)) else (some false))))) = some true := H
  have A5 := Aside0.mk A50
  clear A50
  replace H := Option.bind_eq_some_iff.mp H
  obtain ⟨t188, A60, H⟩ := H
  replace H : ((varint_Put.f (wrap64 ((wrap64 (128 * (wrap64 (1 + t185)))) + t188))).bind fun bt189 => ((varint_Put.f 0).bind fun bt191 => (if t184 = true then (if t187 = 0 then (if bt189.2 = 0 then (if bt191.2 = 0 then (if (bt189.1.size : Int) = (wrap64 ((t186.size : Int) + 1)) then (if 1 ≤ (bt189.1.size : Int) then (if (bt189.1.extract 1 bt189.1.size).toList = t186.toList then (if (bt191.1.size : Int) = 1 then (some (((t186.size : Int) == 1) == (decide ((wrap64 (1 + t185)) < 128)))) else (some false)) else (some false)) else (none)) else (some false)) else (some false)) else (some false)) else (some false)) else (some false)))) = some true := H
  have A6 := Aside0.mk A60
  clear A60
  replace H := Option.bind_eq_some_iff.mp H
  obtain ⟨⟨t189, t190⟩, A70, H⟩ := H
  replace H : ((varint_Put.f 0).bind fun bt191 => (if t184 = true then (if t187 = 0 then (if t190 = 0 then (if bt191.2 = 0 then (if (t189.size : Int) = (wrap64 ((t186.size : Int) + 1)) then (if 1 ≤ (t189.size : Int) then (if (t189.extract 1 t189.size).toList = t186.toList then (if (bt191.1.size : Int) = 1 then (some (((t186.size : Int) == 1) == (decide ((wrap64 (1 + t185)) < 128)))) else (some false)) else (some false)) else (none)) else (some false)) else (some false)) else (some false)) else (some false)) else (some false))) = some true := H
  have A7 := Aside0.mk A70
  clear A70
  replace H := Option.bind_eq_some_iff.mp H
  obtain ⟨⟨t191, t192⟩, A80, H⟩ := H
  replace H : (if t184 = true then (if t187 = 0 then (if t190 = 0 then (if t192 = 0 then (if (t189.size : Int) = (wrap64 ((t186.size : Int) + 1)) then (if 1 ≤ (t189.size : Int) then (if (t189.extract 1 t189.size).toList = t186.toList then (if (t191.size : Int) = 1 then (some (((t186.size : Int) == 1) == (decide ((wrap64 (1 + t185)) < 128)))) else (some false)) else (some false)) else (none)) else (some false)) else (some false)) else (some false)) else (some false)) else (some false)) = some true := H
  have A8 := Aside0.mk A80
  clear A80
  by_cases c9 : t184 = true
  · subst c9
    have H1 : (if t187 = 0 then (if t190 = 0 then (if t192 = 0 then (if (t189.size : Int) = (wrap64 ((t186.size : Int) + 1)) then (if 1 ≤ (t189.size : Int) then (if (t189.extract 1 t189.size).toList = t186.toList then (if (t191.size : Int) = 1 then (some (((t186.size : Int) == 1) == (decide ((wrap64 (1 + t185)) < 128)))) else (some false)) else (some false)) else (none)) else (some false)) else (some false)) else (some false)) else (some false)) = some true := by rw [if_pos rfl] at H; exact H
    clear H
    have H := H1
    clear H1
    by_cases c10 : t187 = 0
    · rw [if_pos c10] at H
      have c10b0 : (t187 == 0) = true := beq_iff_eq.mpr c10
      have c10b1 : (t187 != 0) = false := bne_eq_false_iff_eq.mpr c10
      clear c10
      by_cases c11 : t190 = 0
      · rw [if_pos c11] at H
        have c11b0 : (t190 == 0) = true := beq_iff_eq.mpr c11
        have c11b1 : (t190 != 0) = false := bne_eq_false_iff_eq.mpr c11
        clear c11
        by_cases c12 : t192 = 0
        · rw [if_pos c12] at H
          have c12b0 : (t192 == 0) = true := beq_iff_eq.mpr c12
          have c12b1 : (t192 != 0) = false := bne_eq_false_iff_eq.mpr c12
          clear c12
          by_cases c13 : (t189.size : Int) = (wrap64 ((t186.size : Int) + 1))
          · rw [if_pos c13] at H
            have c13b0 : ((t189.size : Int) == (wrap64 ((t186.size : Int) + 1))) = true := beq_iff_eq.mpr c13
            have c13b1 : ((t189.size : Int) != (wrap64 ((t186.size : Int) + 1))) = false := bne_eq_false_iff_eq.mpr c13
            clear c13
            by_cases c14 : 1 ≤ (t189.size : Int)
            · rw [if_pos c14] at H
              have c14b0 := eq_true c14
              have c14b1 : decide (1 ≤ (t189.size : Int)) = true := decide_eq_true c14
              clear c14
              by_cases c15 : (t189.extract 1 t189.size).toList = t186.toList
              · rw [if_pos c15] at H
                have c15b0 : ((t189.extract 1 t189.size).toList == t186.toList) = true := beq_iff_eq.mpr c15
                have c15b1 : ((t189.extract 1 t189.size).toList != t186.toList) = false := bne_eq_false_iff_eq.mpr c15
                clear c15
                by_cases c16 : (t191.size : Int) = 1
                · rw [if_pos c16] at H
                  have c16b0 : ((t191.size : Int) == 1) = true := beq_iff_eq.mpr c16
                  have c16b1 : ((t191.size : Int) != 1) = false := bne_eq_false_iff_eq.mpr c16
                  clear c16
                  have HV_ := Aside0.mk (Option.some.inj H)
                  clear H
                  go_enter Try.func8, Try.ntmps8
                  go_wp2_with (first | ((with_reducible refine gate_callee (f := 9) rfl ?_); refine goesL_ (some 13) rfl rfl Try.func9 (by kernel_rfl) rfl #[] rfl (by (try simp only [List.map_toArray, List.map_cons, List.map_nil]); first | done | rfl | (simp only [List.length_drop, List.length_take]; rfl)) ?_; (with_reducible refine (careenlaw01_awake.calls k  true _ A3.out).mono ?_); rintro e w17 ⟨rfl, hb⟩; refine ⟨_, rfl, ?_⟩; have n0_ := Aside0.mk (below_step (by repeat (first | (with_reducible first | exact HB.out | apply below_alloc | apply pw_below_drewN | apply below_drew1) | exact HB.out)) hb); clear HB; have HB := n0_; clear n0_; (try clear hb); (try clear hb2); (try clear hk); (try clear hi)) | ((with_reducible refine gate_callee (f := 10) rfl ?_); refine goesL_ (some 15) rfl rfl Try.func10 (by kernel_rfl) rfl #[.int .i64 a0, .int .i64 35184372088832] rfl (by (try simp only [List.map_toArray, List.map_cons, List.map_nil]); first | done | rfl | (simp only [List.length_drop, List.length_take]; rfl)) ?_; (with_reducible refine (careenlaw01_pick.calls a0 35184372088832 t185 _ A4.out).mono ?_); rintro e w' ⟨rfl, ⟨nd, rfl⟩⟩; refine ⟨_, rfl, ?_⟩) | ((with_reducible refine gate_callee (f := 11) rfl ?_); refine goesL_ (some 19) rfl rfl Try.func11 (by kernel_rfl) rfl #[.int .i64 (wrap64 (1 + t185))] rfl (by (try simp only [List.map_toArray, List.map_cons, List.map_nil]); first | done | rfl | (simp only [List.length_drop, List.length_take]; rfl)) ?_; (with_reducible refine (varint_Put.calls (wrap64 (1 + t185)) t186 t187 _ A5.out).mono ?_); rintro e w18 ⟨rfl, hb⟩; refine ⟨_, rfl, ?_⟩; have n0_ := Aside0.mk (below_step (by repeat (first | (with_reducible first | exact HB.out | apply below_alloc | apply pw_below_drewN | apply below_drew1) | exact HB.out)) hb); clear HB; have HB := n0_; clear n0_; (try clear hb); (try clear hb2); (try clear hk); (try clear hi)) | ((with_reducible refine gate_callee (f := 10) rfl ?_); refine goesL_ (some 26) rfl rfl Try.func10 (by kernel_rfl) rfl #[.int .i64 a1, .int .i64 128] rfl (by (try simp only [List.map_toArray, List.map_cons, List.map_nil]); first | done | rfl | (simp only [List.length_drop, List.length_take]; rfl)) ?_; (with_reducible refine (careenlaw01_pick.calls a1 128 t188 _ A6.out).mono ?_); rintro e w' ⟨rfl, ⟨nd, rfl⟩⟩; refine ⟨_, rfl, ?_⟩) | ((with_reducible refine gate_callee (f := 11) rfl ?_); refine goesL_ (some 28) rfl rfl Try.func11 (by kernel_rfl) rfl #[.int .i64 (wrap64 ((wrap64 (128 * (wrap64 (1 + t185)))) + t188))] rfl (by (try simp only [List.map_toArray, List.map_cons, List.map_nil]); first | done | rfl | (simp only [List.length_drop, List.length_take]; rfl)) ?_; (with_reducible refine (varint_Put.calls (wrap64 ((wrap64 (128 * (wrap64 (1 + t185)))) + t188)) t189 t190 _ A7.out).mono ?_); rintro e w19 ⟨rfl, hb⟩; refine ⟨_, rfl, ?_⟩; have n0_ := Aside0.mk (below_step (by repeat (first | (with_reducible first | exact HB.out | apply below_alloc | apply pw_below_drewN | apply below_drew1) | exact HB.out)) hb); clear HB; have HB := n0_; clear n0_; (try clear hb); (try clear hb2); (try clear hk); (try clear hi)) | ((with_reducible refine gate_callee (f := 11) rfl ?_); refine goesL_ (some 32) rfl rfl Try.func11 (by kernel_rfl) rfl #[.int .i64 0] rfl (by (try simp only [List.map_toArray, List.map_cons, List.map_nil]); first | done | rfl | (simp only [List.length_drop, List.length_take]; rfl)) ?_; (with_reducible refine (varint_Put.calls 0 t191 t192 _ A8.out).mono ?_); rintro e w20 ⟨rfl, hb⟩; refine ⟨_, rfl, ?_⟩; have n0_ := Aside0.mk (below_step (by repeat (first | (with_reducible first | exact HB.out | apply below_alloc | apply pw_below_drewN | apply below_drew1) | exact HB.out)) hb); clear HB; have HB := n0_; clear n0_; (try clear hb); (try clear hb2); (try clear hk); (try clear hi)))
                  go_ret
                  exact ⟨by first | exact congrArg (fun b_ => Ending.returned (Value.bool b_)) HV_.out | (have hv_ := HV_.out; simp only [Bool.and_eq_true, beq_iff_eq] at hv_; simp [hv_]; done) | (have hv_ := HV_.out; simp at hv_; simp [*]; done) | rfl | (simp [errW_none, errW_some] <;> rfl) | (simp [*, errW_none, errW_some] <;> rfl), by repeat (first | (with_reducible first | exact HB.out | apply below_alloc | apply pw_below_drewN | apply below_drew1) | exact HB.out)⟩
                · rw [if_neg c16] at H
                  have c16b0 : ((t191.size : Int) == 1) = false := beq_eq_false_iff_ne.mpr c16
                  have c16b1 : ((t191.size : Int) != 1) = true := bne_iff_ne.mpr c16
                  exact absurd H (by simp)
              · rw [if_neg c15] at H
                have c15b0 : ((t189.extract 1 t189.size).toList == t186.toList) = false := beq_eq_false_iff_ne.mpr c15
                have c15b1 : ((t189.extract 1 t189.size).toList != t186.toList) = true := bne_iff_ne.mpr c15
                exact absurd H (by simp)
            · rw [if_neg c14] at H
              exact absurd H (by simp)
          · rw [if_neg c13] at H
            have c13b0 : ((t189.size : Int) == (wrap64 ((t186.size : Int) + 1))) = false := beq_eq_false_iff_ne.mpr c13
            have c13b1 : ((t189.size : Int) != (wrap64 ((t186.size : Int) + 1))) = true := bne_iff_ne.mpr c13
            exact absurd H (by simp)
        · rw [if_neg c12] at H
          have c12b0 : (t192 == 0) = false := beq_eq_false_iff_ne.mpr c12
          have c12b1 : (t192 != 0) = true := bne_iff_ne.mpr c12
          exact absurd H (by simp)
      · rw [if_neg c11] at H
        have c11b0 : (t190 == 0) = false := beq_eq_false_iff_ne.mpr c11
        have c11b1 : (t190 != 0) = true := bne_iff_ne.mpr c11
        exact absurd H (by simp)
    · rw [if_neg c10] at H
      have c10b0 : (t187 == 0) = false := beq_eq_false_iff_ne.mpr c10
      have c10b1 : (t187 != 0) = true := bne_iff_ne.mpr c10
      exact absurd H (by simp)
  · replace c9 := Bool.eq_false_iff.mpr c9
    subst c9
    have H1 : (some false) = some true := by rw [if_neg (show ¬ (false = true) by decide)] at H; exact H
    clear H
    have H := H1
    clear H1
    exact absurd H (by simp)

/-- THE ONE PURE STATEMENT of careenlaw01_VarintSize: yours. -/
def careenlaw01_VarintSize.Pure : Prop := ∀ (a0 : Int) (a1 : Int), (Lit.int .i64 a0).wf = true → (Lit.int .i64 a1).wf = true → ∃ k, careenlaw01_VarintSize.f k a0 a1 = some true
theorem careenlaw01_VarintSize.walk (P : careenlaw01_VarintSize.Pure) (a0 : Int) (a1 : Int) (w : World) (w0 : (Lit.int .i64 a0).wf = true) (w1 : (Lit.int .i64 a1).wf = true) :
    Calls Try.prog 8 #[.int .i64 a0, .int .i64 a1] w fun e w' => e = .returned (.bool true) ∧ Below w.heap.size w w' := by
  obtain ⟨k, h⟩ := P a0 a1 w0 w1
  refine (careenlaw01_VarintSize.calls k a0 a1 w h).mono ?_
  rintro e w' ⟨rfl, hd⟩
  exact ⟨rfl, hd⟩

end Go.Proofs.Ytdoehfppncgieaa.PAll
