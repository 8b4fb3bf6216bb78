-- Written by a program of this session (wip/xpatch.py, wip/xprint.sh) for seat Ytmgfkpeadkfioaa.
import Derived.Test.YtmgfkpeadkfioaaPAllx0
import Derived.Test.YtmgfkpeadkfioaaPAllx2
namespace Go.Proofs.Ytmgfkpeadkfioaa.PAll
open Go.RowKit Go.Proofs.YtmgfkpeadkfioaaW.PrintWords Go.Proofs.YtmgfkpeadkfioaaW.PrintLast Go.Proofs.YtmgfkpeadkfioaaW.PrintMore
attribute [local go_sem] max2_int min2_int max_two min_two max_three min_three max_four min_four   -- for this text's walks alone
set_option linter.unusedVariables false
set_option linter.unusedSimpArgs false

/-! ### careenlaw11_MailFull: function 3 -/
def careenlaw11_MailFull.l0 : Nat → Bool → Int → List (S23) → Int → Int → Int → ByteArray → Option (Bool)
  | 0, _, _, _, _, _, _, _ => none
  | k + 1, x5, x6, x7, x8, x166000, x166001, x166002 => if x8 < x6 then ((mail_Post.f x7 x166000 x166001 x166002).bind fun bt168 => (if ((bt168.2 == 0) != (decide (x8 < 200))) = true then (some false) else (if (bt168.1.length : Int) = (mn (wrap64 (x8 + 1)) 200) then (careenlaw11_MailFull.l0 k x5 x6 bt168.1 (wrap64 (x8 + 1)) x166000 x166001 x166002) else (some false)))) else ((mail_Copy.f x7 0).bind fun bt172 => (if x5 = true then (if x6 > 0 then (if ((bt172.2 == 0) == (decide (x6 < 200))) = true then (some ((bt172.2 == 50) == (decide (x6 ≥ 200)))) else (some false)) else (if ((bt172.2 == 0) == false) = true then (some ((bt172.2 == 50) == (decide (x6 ≥ 200)))) else (some false))) else (some false)))
def careenlaw11_MailFull.f (k : Nat) (a0 : Int) (a1_0 : Int) (a1_1 : Int) (a1_2 : ByteArray) : Option (Bool) := (careenlaw11_awake.f k).bind fun t166 => ((careenlaw11_pick.f a0 204).bind fun t167 => (careenlaw11_MailFull.l0 k t166 t167 ([] : List (S23)) 0 a1_0 a1_1 a1_2))
theorem careenlaw11_MailFull.mono_l : ∀ k, (∀ y0 y1 y2 y3 y4 y5 y6, LeO (careenlaw11_MailFull.l0 k y0 y1 y2 y3 y4 y5 y6) (careenlaw11_MailFull.l0 (k + 1) y0 y1 y2 y3 y4 y5 y6))
  | 0 => (fun _ _ _ _ _ _ _ r h => by cases (show (none : Option _) = some r from h))
  | k + 1 => by
    have ih0 := careenlaw11_MailFull.mono_l k
    · intro y0 y1 y2 y3 y4 y5 y6
      unfold careenlaw11_MailFull.l0
      repeat' first
      | (with_reducible exact ih0 _ _ _ _ _ _ _)
      | (with_reducible exact careenlaw11_awake.mono _)
      | (with_reducible exact LeO.refl _)
      | (with_reducible exact LeO.none _)
      | (with_reducible refine LeO.ite ?_ ?_)
      | (with_reducible refine LeO.bind ?_ (fun _ => ?_))
      | exact ih0 _ _ _ _ _ _ _
      | exact careenlaw11_awake.mono _
      | exact LeO.none _
      | refine LeO.ite ?_ ?_
      | refine LeO.bind ?_ (fun _ => ?_)
theorem careenlaw11_MailFull.mono : ∀ a0 a1 a2 a3 k, LeO (careenlaw11_MailFull.f k a0 a1 a2 a3) (careenlaw11_MailFull.f (k + 1) a0 a1 a2 a3) := by
  intro a0 a1 a2 a3 k
  have ih0 := careenlaw11_MailFull.mono_l k
  unfold careenlaw11_MailFull.f
  repeat' first
      | (with_reducible exact ih0 _ _ _ _ _ _ _)
      | (with_reducible exact careenlaw11_awake.mono _)
      | (with_reducible exact LeO.refl _)
      | (with_reducible exact LeO.none _)
      | (with_reducible refine LeO.ite ?_ ?_)
      | (with_reducible refine LeO.bind ?_ (fun _ => ?_))
      | exact ih0 _ _ _ _ _ _ _
      | exact careenlaw11_awake.mono _
      | exact LeO.none _
      | refine LeO.ite ?_ ?_
      | refine LeO.bind ?_ (fun _ => ?_)
set_option maxHeartbeats 8000000 in
set_option maxRecDepth 100000 in
theorem careenlaw11_MailFull.calls (k : Nat) (a0 : Int) (a1_0 : Int) (a1_1 : Int) (a1_2 : ByteArray) (w : World) (h : careenlaw11_MailFull.f k a0 a1_0 a1_1 a1_2 = some true) :
    Calls Try.prog 3 #[.int .i64 a0, .agg #[.int .i64 a1_0, .int .i64 a1_1, .string a1_2]] w fun e w' => e = .returned (.bool true) ∧ Below w.heap.size w w' := by
  have hu23 := Try.underlying23
  have HB := Aside0.mk (Below.refl w.heap.size w)
  have H : ((careenlaw11_awake.f k).bind fun t166 => ((careenlaw11_pick.f a0 204).bind fun t167 => (careenlaw11_MailFull.l0 k t166 t167 ([] : List (S23)) 0 a1_0 a1_1 a1_2))) = some true := h
  clear h
  replace H := Option.bind_eq_some_iff.mp H
  obtain ⟨t166, A30, H⟩ := H
  replace H : ((careenlaw11_pick.f a0 204).bind fun t167 => (careenlaw11_MailFull.l0 k t166 t167 ([] : List (S23)) 0 a1_0 a1_1 a1_2)) = some true := H
  have A3 := Aside0.mk A30
  clear A30
  replace H := Option.bind_eq_some_iff.mp H
  obtain ⟨t167, A40, H⟩ := H
  replace H : (careenlaw11_MailFull.l0 k t166 t167 ([] : List (S23)) 0 a1_0 a1_1 a1_2) = some true := H
  have A4 := Aside0.mk A40
  clear A40
  have H' := Aside0.mk H
  clear H
  go_enter Try.func3, Try.ntmps3
  go_wp2_with (first | ((with_reducible refine gate_dst (N := 3) rfl ?_); (try (refine gate_guard (by rfl) ?_; dsimp only)); refine box_event ?hg (N := 3) ?hd (cs := #[.int .i64 a1_0, .int .i64 a1_1, .string a1_2]) (t := 23) ?hr ?_; (case hd => rfl); (case hg => rfl); (case hr => first | (go_simp; done) | (go_simp; rfl)); intro gb165 hg w5 hbox hb; have n0_ := Aside0.mk (below_step (by repeat (first | (with_reducible first | exact HB.out | apply below_alloc | apply pw_below_drewN | apply below_drew1) | exact HB.out)) hb); have n1_ := Aside0.mk (hbox); have n2_ := Aside0.mk ((by rw [hg]; exact (below_size (by repeat (first | (with_reducible first | exact HB.out | apply below_alloc | apply pw_below_drewN | apply below_drew1) | exact HB.out))) : w.heap.size ≤ gb165)); have n3_ := Aside0.mk ((by rw [hg]; exact (below_size (by repeat (first | (with_reducible first | exact HB.out | apply below_alloc | apply pw_below_drewN | apply below_drew1) | exact HB.out))) : w.heap.size ≤ gb165)); clear HB; have HB := n0_; have BK165 := n1_; have GW165 := n2_; have GE165 := n3_; clear n0_ n1_ n2_ n3_; clear hb hbox hg) | ((with_reducible refine gate_callee (f := 7) rfl ?_); refine goesL_ (some 13) rfl rfl Try.func7 (by kernel_rfl) rfl #[] rfl (by (try simp only [List.map_toArray, List.map_cons, List.map_nil]); first | done | rfl | (simp only [List.length_drop, List.length_take]; rfl)) ?_; (with_reducible refine (careenlaw11_awake.calls k  t166 _ A3.out).mono ?_); rintro e w6 ⟨rfl, hb⟩; refine ⟨_, rfl, ?_⟩; have n0_ := Aside0.mk (blk_below (g := gb165) (o := .cells #[.int .i64 a1_0, .int .i64 a1_1, .string a1_2] 23 (0, 0)) (by (with_reducible repeat (first | refine blk_drewN ?_ _ | refine blk_drew ?_ | refine blk_alloc ?_ _)); exact BK165.out) hb); have n1_ := Aside0.mk (below_step (by repeat (first | (with_reducible first | exact HB.out | apply below_alloc | apply pw_below_drewN | apply below_drew1 | refine below_set ?_ GE165.out) | exact HB.out)) hb); clear BK165; clear HB; have BK165 := n0_; have HB := n1_; clear n0_ n1_; (try clear hb); (try clear hb2); (try clear hk); (try clear hi)) | ((with_reducible refine gate_callee (f := 8) rfl ?_); refine goesL_ (some 15) rfl rfl Try.func8 (by kernel_rfl) rfl #[.int .i64 a0, .int .i64 204] rfl (by (try simp only [List.map_toArray, List.map_cons, List.map_nil]); first | done | rfl | (simp only [List.length_drop, List.length_take]; rfl)) ?_; (with_reducible refine (careenlaw11_pick.calls a0 204 t167 _ A4.out).mono ?_); rintro e w' ⟨rfl, ⟨nd, rfl⟩⟩; refine ⟨_, rfl, ?_⟩))
  go_loopg [7, 8] k (fun kq v7 v8 w' => ∃ (x7_1 : List (S23)) (x8_1 : Int), v8 = .int .i64 x8_1 ∧ Aside0 (careenlaw11_MailFull.l0 kq t166 t167 x7_1 x8_1 a1_0 a1_1 a1_2 = some true) ∧ Aside0 (kq ≤ k) ∧ Aside0 (Kd.R k23 23 w' w.heap.size (fun k_ => k_ ≠ gb165) v7 x7_1) ∧ Aside0 (w'.heap[gb165]? = some (.cells #[.int .i64 a1_0, .int .i64 a1_1, .string a1_2] 23 (0, 0))) ∧ Aside0 (Below w.heap.size w w'))
  case atStart => exact ⟨(([] : List (S23))), (0), (by first | rfl | (simp; done) | (simp [*]; done)), H', ⟨Nat.le_refl _⟩, ⟨by first | exact Kd.R_nil _ _ _ _ _ | exact Kd.N_nil _ _ _ _ _ | exact Kd.V_nil _ _ _ _ _ | exact Kd.Q_nil _ _ _ _ _ | exact Kd.S_nil _ _ _ _ _⟩, ⟨by (with_reducible repeat (first | refine blk_drewN ?_ _ | refine blk_drew ?_ | refine blk_alloc ?_ _)); exact BK165.out⟩, ⟨by repeat (first | (with_reducible first | exact HB.out | apply below_alloc | apply pw_below_drewN | apply below_drew1 | refine below_set ?_ GE165.out) | exact HB.out)⟩⟩
  case round =>
    clear H'
    try clear p2
    try clear c3
    obtain ⟨x7_1, x8_1, rfl, HA, HK1, HO_7, BK165, HB⟩ := hrel
    cases gk with
    | zero => cases (show (none : Option _) = some _ from HA.out)
    | succ k1 =>
      have H := HA.out
      clear HA
      simp only [careenlaw11_MailFull.l0] at H
      by_cases c7 : x8_1 < t167
      · rw [if_pos c7] at H
        have c7b0 : decide (x8_1 < t167) = true := decide_eq_true c7
        clear c7
        replace H := Option.bind_eq_some_iff.mp H
        obtain ⟨⟨t168, t171⟩, A80, H⟩ := H
        replace H : (if ((t171 == 0) != (decide (x8_1 < 200))) = true then (some false) else (if (t168.length : Int) = (mn (wrap64 (x8_1 + 1)) 200) then (careenlaw11_MailFull.l0 k1 t166 t167 t168 (wrap64 (x8_1 + 1)) a1_0 a1_1 a1_2) else (some false))) = some true := H
        have A8 := Aside0.mk A80
        clear A80
        by_cases c9 : ((t171 == 0) != (decide (x8_1 < 200))) = true
        · rw [if_pos c9] at H
          have c9b0 : ((t171 == 0) != (decide (x8_1 < 200))) = true := c9
          (try (have c9b1 : decide ((t171 == 0) = (decide (x8_1 < 200))) = false := by simpa using c9))
          (try (have c9b2 : ((t171 == 0) == (decide (x8_1 < 200))) = false := by simpa using c9))
          (try (have c9b3 : ¬ ((t171 == 0) = (decide (x8_1 < 200))) := by simpa using c9))
          clear c9
          exact absurd H (by simp)
        · rw [if_neg c9] at H
          have c9b0 : ((t171 == 0) != (decide (x8_1 < 200))) = false := by simpa using c9
          (try (have c9b1 : decide ((t171 == 0) = (decide (x8_1 < 200))) = true := by simpa using c9))
          (try (have c9b2 : ((t171 == 0) == (decide (x8_1 < 200))) = true := by simpa using c9))
          clear c9
          obtain ⟨ji10, hji10⟩ : ∃ j_ : Int, (mn (wrap64 (x8_1 + 1)) 200) = j_ := ⟨_, rfl⟩
          replace H : (if (t168.length : Int) = (ji10) then (careenlaw11_MailFull.l0 k1 t166 t167 t168 (wrap64 (x8_1 + 1)) a1_0 a1_1 a1_2) else (some false)) = some true := by first | (rw [hji10] at H; exact H) | (simp only [hji10] at H ⊢; exact H)
          (try rw [hji10] at A8)
          have hji10_ : (if 200 < (wrap64 (x8_1 + 1)) then 200 else (wrap64 (x8_1 + 1))) = ji10 := hji10
          by_cases c11 : (t168.length : Int) = (ji10)
          · rw [if_pos c11] at H
            have c11b0 : ((t168.length : Int) == (ji10)) = true := beq_iff_eq.mpr c11
            have c11b1 : ((t168.length : Int) != (ji10)) = false := bne_eq_false_iff_eq.mpr c11
            clear c11
            have H' := Aside0.mk H
            clear H
            have hcz12_0 : wr.cell? ⟨gb165, 0, none⟩ = some (.int .i64 a1_0) := (blk_cell BK165.out 0).trans rfl
            have hcz12_1 : wr.cell? ⟨gb165, 1, none⟩ = some (.int .i64 a1_1) := (blk_cell BK165.out 1).trans rfl
            have hcz12_2 : wr.cell? ⟨gb165, 2, none⟩ = some (.string a1_2) := (blk_cell BK165.out 2).trans rfl
            have hfz12_0 := blk_frozen BK165.out 0
            have hfz12_1 := blk_frozen BK165.out 1
            have hfz12_2 := blk_frozen BK165.out 2
            obtain ⟨Ao13, co13, eo13⟩ := Kd.R_slice HO_7.out
            subst eo13
            go_wp2_with (first | ((with_reducible refine gate_callee (f := 9) rfl ?_); refine goesL_ (some 24) rfl rfl Try.func9 (by kernel_rfl) rfl #[.slice Ao13 x7_1.length co13, .agg #[.int .i64 a1_0, .int .i64 a1_1, .string a1_2]] rfl (by (try simp only [List.map_toArray, List.map_cons, List.map_nil]); first | done | rfl | (simp only [List.length_drop, List.length_take]; rfl)) ?_; (with_reducible refine (mail_Post.calls _ _ x7_1 a1_0 a1_1 a1_2 t168 t171 _ ?side1 ?side2 A8.out).mono ?_); (case side1 => repeat (first | exact (Kd.R_reads' HO_7.out).2.2 | (with_reducible refine Kd.C_alloc ?_ _) | (with_reducible refine Kd.C_drewN ?_ _) | (with_reducible refine Kd.C_drew ?_))); (case side2 => exact (Kd.R_reads' HO_7.out).2.1); rintro e w14 ⟨v169, rfl, ho0, hb⟩; refine ⟨_, rfl, ?_⟩; have n0_ := Aside0.mk (Kd.R_elder' (by (with_reducible repeat (first | apply Kd.R_alloc | apply Kd.R_drewN | apply Kd.R_drew)); exact HO_7.out) (Kd.R_base ho0) hb); have n1_ := Aside0.mk (Kd.R_lower (Kd.R_newB (Kd.R_new' ho0 (Kd.R_lt (by (with_reducible repeat (first | apply Kd.R_alloc | apply Kd.R_drewN | apply Kd.R_drew)); exact HO_7.out))) (g := gb165) (o := .cells #[.int .i64 a1_0, .int .i64 a1_1, .string a1_2] 23 (0, 0)) (by (with_reducible repeat (first | refine blk_drewN ?_ _ | refine blk_drew ?_ | refine blk_alloc ?_ _)); exact BK165.out)) (below_size (by repeat (first | (with_reducible first | exact HB.out | apply below_alloc | apply pw_below_drewN | apply below_drew1 | refine below_set ?_ GE165.out) | exact HB.out)))); have n2_ := Aside0.mk (blk_below (g := gb165) (o := .cells #[.int .i64 a1_0, .int .i64 a1_1, .string a1_2] 23 (0, 0)) (by (with_reducible repeat (first | refine blk_drewN ?_ _ | refine blk_drew ?_ | refine blk_alloc ?_ _)); exact BK165.out) hb); have n3_ := Aside0.mk (below_step (by repeat (first | (with_reducible first | exact HB.out | apply below_alloc | apply pw_below_drewN | apply below_drew1 | refine below_set ?_ GE165.out) | exact HB.out)) hb); clear HO_7; clear BK165; clear HB; have HO_7 := n0_; have HO170 := n1_; have BK165 := n2_; have HB := n3_; clear n0_ n1_ n2_ n3_; (try clear hb); (try clear hb2); (try clear hk); (try clear hi); (try clear ho0); obtain ⟨Ao15, co15, eo15⟩ := Kd.R_slice HO170.out; subst eo15))
            go_roundg k1
            case measure => have := HK1.out; omega
            case rel => exact ⟨(t168), (wrap64 (x8_1 + 1)), (by first | rfl | (simp; done) | (simp [*]; done)), H', ⟨by have := HK1.out; omega⟩, ⟨by (with_reducible repeat (first | apply Kd.R_alloc | apply Kd.R_drewN | apply Kd.R_drew)); exact Kd.R_mono HO170.out (fun _ hk => hk.2)⟩, ⟨by (with_reducible repeat (first | refine blk_drewN ?_ _ | refine blk_drew ?_ | refine blk_alloc ?_ _)); exact BK165.out⟩, ⟨by repeat (first | (with_reducible first | exact HB.out | apply below_alloc | apply pw_below_drewN | apply below_drew1 | refine below_set ?_ GE165.out) | exact HB.out)⟩⟩
          · rw [if_neg c11] at H
            have c11b0 : ((t168.length : Int) == (ji10)) = false := beq_eq_false_iff_ne.mpr c11
            have c11b1 : ((t168.length : Int) != (ji10)) = true := bne_iff_ne.mpr c11
            exact absurd H (by simp)
      · rw [if_neg c7] at H
        have c7b0 : decide (x8_1 < t167) = false := decide_eq_false c7
        clear c7
        replace H := Option.bind_eq_some_iff.mp H
        obtain ⟨⟨t172, t173⟩, A160, H⟩ := H
        replace H : (if t166 = true then (if t167 > 0 then (if ((t173 == 0) == (decide (t167 < 200))) = true then (some ((t173 == 50) == (decide (t167 ≥ 200)))) else (some false)) else (if ((t173 == 0) == false) = true then (some ((t173 == 50) == (decide (t167 ≥ 200)))) else (some false))) else (some false)) = some true := H
        have A16 := Aside0.mk A160
        clear A160
        by_cases c17 : t166 = true
        · subst c17
          have H1 : (if t167 > 0 then (if ((t173 == 0) == (decide (t167 < 200))) = true then (some ((t173 == 50) == (decide (t167 ≥ 200)))) else (some false)) else (if ((t173 == 0) == false) = true then (some ((t173 == 50) == (decide (t167 ≥ 200)))) else (some false))) = some true := by rw [if_pos rfl] at H; exact H
          clear H
          have H := H1
          clear H1
          by_cases c18 : t167 > 0
          · rw [if_pos c18] at H
            have c18b0 : decide (0 < t167) = true := decide_eq_true c18
            clear c18
            by_cases c19 : ((t173 == 0) == (decide (t167 < 200))) = true
            · rw [if_pos c19] at H
              have c19b0 : ((t173 == 0) == (decide (t167 < 200))) = true := c19
              (try (have c19b1 : decide ((t173 == 0) = (decide (t167 < 200))) = true := by simpa using c19))
              (try (have c19b2 : ((t173 == 0) == (decide (t167 < 200))) = true := by simpa using c19))
              clear c19
              have HV_ := Aside0.mk (Option.some.inj H)
              clear H
              obtain ⟨Ao20, co20, eo20⟩ := Kd.R_slice HO_7.out
              subst eo20
              go_wp2_with (first | ((with_reducible refine gate_callee (f := 10) rfl ?_); refine goesL_ (some 43) rfl rfl Try.func10 (by kernel_rfl) rfl #[.slice Ao20 x7_1.length co20, .int .i64 0] rfl (by (try simp only [List.map_toArray, List.map_cons, List.map_nil]); first | done | rfl | (simp only [List.length_drop, List.length_take]; rfl)) ?_; (with_reducible refine (mail_Copy.calls _ _ x7_1 0 t172 t173 _ ?side1 ?side2 A16.out).mono ?_); (case side1 => repeat (first | exact (Kd.R_reads' HO_7.out).2.2 | (with_reducible refine Kd.C_alloc ?_ _) | (with_reducible refine Kd.C_drewN ?_ _) | (with_reducible refine Kd.C_drew ?_))); (case side2 => exact (Kd.R_reads' HO_7.out).2.1); rintro e w21 ⟨v174, rfl, ho0, hb⟩; refine ⟨_, rfl, ?_⟩; have n0_ := Aside0.mk (Kd.R_elder' (by (with_reducible repeat (first | apply Kd.R_alloc | apply Kd.R_drewN | apply Kd.R_drew)); exact HO_7.out) (Kd.R_base ho0) hb); have n1_ := Aside0.mk (Kd.R_lower (Kd.R_newB (Kd.R_new' ho0 (Kd.R_lt (by (with_reducible repeat (first | apply Kd.R_alloc | apply Kd.R_drewN | apply Kd.R_drew)); exact HO_7.out))) (g := gb165) (o := .cells #[.int .i64 a1_0, .int .i64 a1_1, .string a1_2] 23 (0, 0)) (by (with_reducible repeat (first | refine blk_drewN ?_ _ | refine blk_drew ?_ | refine blk_alloc ?_ _)); exact BK165.out)) (below_size (by repeat (first | (with_reducible first | exact HB.out | apply below_alloc | apply pw_below_drewN | apply below_drew1 | refine below_set ?_ GE165.out) | exact HB.out)))); have n2_ := Aside0.mk (blk_below (g := gb165) (o := .cells #[.int .i64 a1_0, .int .i64 a1_1, .string a1_2] 23 (0, 0)) (by (with_reducible repeat (first | refine blk_drewN ?_ _ | refine blk_drew ?_ | refine blk_alloc ?_ _)); exact BK165.out) hb); have n3_ := Aside0.mk (below_step (by repeat (first | (with_reducible first | exact HB.out | apply below_alloc | apply pw_below_drewN | apply below_drew1 | refine below_set ?_ GE165.out) | exact HB.out)) hb); clear HO_7; clear BK165; clear HB; have HO_7 := n0_; have HO175 := n1_; have BK165 := n2_; have HB := n3_; clear n0_ n1_ n2_ n3_; (try clear hb); (try clear hb2); (try clear hk); (try clear hi); (try clear ho0)))
              go_ret
              exact ⟨by first | exact congrArg (fun b_ => Ending.returned (Value.bool b_)) HV_.out | (have hv_ := HV_.out; simp only [Bool.and_eq_true, beq_iff_eq] at hv_; simp [hv_]; done) | (have hv_ := HV_.out; simp at hv_; simp [*]; done) | rfl | (simp [errW_none, errW_some] <;> rfl) | (simp [*, errW_none, errW_some] <;> rfl), by repeat (first | (with_reducible first | exact HB.out | apply below_alloc | apply pw_below_drewN | apply below_drew1 | refine below_set ?_ GE165.out) | exact HB.out)⟩
            · rw [if_neg c19] at H
              have c19b0 : ((t173 == 0) == (decide (t167 < 200))) = false := by simpa using c19
              (try (have c19b1 : decide ((t173 == 0) = (decide (t167 < 200))) = false := by simpa using c19))
              (try (have c19b2 : ((t173 == 0) == (decide (t167 < 200))) = false := by simpa using c19))
              (try (have c19b3 : ¬ ((t173 == 0) = (decide (t167 < 200))) := by simpa using c19))
              clear c19
              exact absurd H (by simp)
          · rw [if_neg c18] at H
            have c18b0 : decide (0 < t167) = false := decide_eq_false c18
            clear c18
            by_cases c22 : ((t173 == 0) == false) = true
            · rw [if_pos c22] at H
              have c22b0 : ((t173 == 0) == false) = true := c22
              (try (have c22b1 : decide ((t173 == 0) = false) = true := by simpa using c22))
              (try (have c22b2 : ((t173 == 0) == false) = true := by simpa using c22))
              clear c22
              have HV_ := Aside0.mk (Option.some.inj H)
              clear H
              obtain ⟨Ao23, co23, eo23⟩ := Kd.R_slice HO_7.out
              subst eo23
              go_wp2_with (first | ((with_reducible refine gate_callee (f := 10) rfl ?_); refine goesL_ (some 43) rfl rfl Try.func10 (by kernel_rfl) rfl #[.slice Ao23 x7_1.length co23, .int .i64 0] rfl (by (try simp only [List.map_toArray, List.map_cons, List.map_nil]); first | done | rfl | (simp only [List.length_drop, List.length_take]; rfl)) ?_; (with_reducible refine (mail_Copy.calls _ _ x7_1 0 t172 t173 _ ?side1 ?side2 A16.out).mono ?_); (case side1 => repeat (first | exact (Kd.R_reads' HO_7.out).2.2 | (with_reducible refine Kd.C_alloc ?_ _) | (with_reducible refine Kd.C_drewN ?_ _) | (with_reducible refine Kd.C_drew ?_))); (case side2 => exact (Kd.R_reads' HO_7.out).2.1); rintro e w24 ⟨v174, rfl, ho0, hb⟩; refine ⟨_, rfl, ?_⟩; have n0_ := Aside0.mk (Kd.R_elder' (by (with_reducible repeat (first | apply Kd.R_alloc | apply Kd.R_drewN | apply Kd.R_drew)); exact HO_7.out) (Kd.R_base ho0) hb); have n1_ := Aside0.mk (Kd.R_lower (Kd.R_newB (Kd.R_new' ho0 (Kd.R_lt (by (with_reducible repeat (first | apply Kd.R_alloc | apply Kd.R_drewN | apply Kd.R_drew)); exact HO_7.out))) (g := gb165) (o := .cells #[.int .i64 a1_0, .int .i64 a1_1, .string a1_2] 23 (0, 0)) (by (with_reducible repeat (first | refine blk_drewN ?_ _ | refine blk_drew ?_ | refine blk_alloc ?_ _)); exact BK165.out)) (below_size (by repeat (first | (with_reducible first | exact HB.out | apply below_alloc | apply pw_below_drewN | apply below_drew1 | refine below_set ?_ GE165.out) | exact HB.out)))); have n2_ := Aside0.mk (blk_below (g := gb165) (o := .cells #[.int .i64 a1_0, .int .i64 a1_1, .string a1_2] 23 (0, 0)) (by (with_reducible repeat (first | refine blk_drewN ?_ _ | refine blk_drew ?_ | refine blk_alloc ?_ _)); exact BK165.out) hb); have n3_ := Aside0.mk (below_step (by repeat (first | (with_reducible first | exact HB.out | apply below_alloc | apply pw_below_drewN | apply below_drew1 | refine below_set ?_ GE165.out) | exact HB.out)) hb); clear HO_7; clear BK165; clear HB; have HO_7 := n0_; have HO175 := n1_; have BK165 := n2_; have HB := n3_; clear n0_ n1_ n2_ n3_; (try clear hb); (try clear hb2); (try clear hk); (try clear hi); (try clear ho0)))
              go_ret
              exact ⟨by first | exact congrArg (fun b_ => Ending.returned (Value.bool b_)) HV_.out | (have hv_ := HV_.out; simp only [Bool.and_eq_true, beq_iff_eq] at hv_; simp [hv_]; done) | (have hv_ := HV_.out; simp at hv_; simp [*]; done) | rfl | (simp [errW_none, errW_some] <;> rfl) | (simp [*, errW_none, errW_some] <;> rfl), by repeat (first | (with_reducible first | exact HB.out | apply below_alloc | apply pw_below_drewN | apply below_drew1 | refine below_set ?_ GE165.out) | exact HB.out)⟩
            · rw [if_neg c22] at H
              have c22b0 : ((t173 == 0) == false) = false := by simpa using c22
              (try (have c22b1 : decide ((t173 == 0) = false) = false := by simpa using c22))
              (try (have c22b2 : ((t173 == 0) == false) = false := by simpa using c22))
              (try (have c22b3 : ¬ ((t173 == 0) = false) := by simpa using c22))
              clear c22
              exact absurd H (by simp)
        · replace c17 := Bool.eq_false_iff.mpr c17
          subst c17
          have H1 : (some false) = some true := by rw [if_neg (show ¬ (false = true) by decide)] at H; exact H
          clear H
          have H := H1
          clear H1
          exact absurd H (by simp)

/-- THE ONE PURE STATEMENT of careenlaw11_MailFull. -/
def careenlaw11_MailFull.Pure : Prop := ∀ (a0 : Int) (a1_0 : Int) (a1_1 : Int) (a1_2 : ByteArray), (Lit.int .i64 a0).wf = true → (Lit.int .i64 a1_0).wf = true → (Lit.int .i64 a1_1).wf = true → a1_2.size ≤ 9223372036854775807 → ∃ k, careenlaw11_MailFull.f k a0 a1_0 a1_1 a1_2 = some true

end Go.Proofs.Ytmgfkpeadkfioaa.PAll
