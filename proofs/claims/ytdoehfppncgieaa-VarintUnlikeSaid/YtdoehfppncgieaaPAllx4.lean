-- Written by a program of this session (wip/xpatch.py, wip/xprint.sh) for seat Ytdoehfppncgieaa.
import Derived.Test.YtdoehfppncgieaaPAllx0
import Derived.Test.YtdoehfppncgieaaPAllx1
namespace Go.Proofs.Ytdoehfppncgieaa.PAll
open Go.RowKit Go.Proofs.YtdoehfppncgieaaW.PrintWords Go.Proofs.YtdoehfppncgieaaW.PrintLast Go.Proofs.YtdoehfppncgieaaW.PrintMore
attribute [local go_sem] max2_int min2_int max_two min_two max_three min_three max_four min_four   -- for this text's walks alone
set_option linter.unusedVariables false
set_option linter.unusedSimpArgs false

/-! ### careenlaw01_VarintBack: function 4 -/
mutual
def careenlaw01_VarintBack.l0 : Nat → ByteArray → Int → Bool → List Int → Int → Int → Option (Bool)
  | 0, _, _, _, _, _, _ => none
  | k + 1, x1, x2, x7, x23, x24, x25 => if x25 < x24 then (if 0 ≤ x25 then (if x25 < (x23.length : Int) then ((varint_Put.f (rd x23 x25)).bind fun bt150 => (if bt150.2 = 0 then (if (bt150.1.size : Int) < 1 then (careenlaw01_VarintBack.j1 k x1 x2 x7 (rd x23 x25) bt150.1 x23 x24 x25 true) else (careenlaw01_VarintBack.j1 k x1 x2 x7 (rd x23 x25) bt150.1 x23 x24 x25 (decide ((bt150.1.size : Int) > 8)))) else (careenlaw01_VarintBack.j1 k x1 x2 x7 (rd x23 x25) bt150.1 x23 x24 x25 true))) else (none)) else (none)) else (some x7)
def careenlaw01_VarintBack.j1 : Nat → ByteArray → Int → Bool → Int → ByteArray → List Int → Int → Int → Bool → Option (Bool)
  | 0, _, _, _, _, _, _, _, _, _ => none
  | k + 1, x1, x2, x7, x9, x10, x23, x24, x25, x45 => if x45 = true then (some false) else (if x10.size + x1.size ≤ 9223372036854775807 then ((varint_Take.f k (x10 ++ x1)).bind fun bt152 => ((careenlaw01_pick.f x2 (x10.size : Int)).bind fun t155 => (if 0 ≤ t155 then (if t155 ≤ (x10.size : Int) then ((varint_Take.f k (x10.extract 0 (t155 : Int).toNat)).bind fun bt156 => (if bt152.2.2 = 0 then (if bt152.1 = x9 then (if bt152.2.1 = (x10.size : Int) then (if bt156.2.2 = 10 then (careenlaw01_VarintBack.l0 k x1 x2 x7 x23 x24 (wrap64 (x25 + 1))) else (some false)) else (some false)) else (some false)) else (some false))) else (none)) else (none)))) else (none))
end
def careenlaw01_VarintBack.f (k : Nat) (a0 : Int) (a1 : ByteArray) (a2 : Int) : Option (Bool) := (careenlaw01_awake.f k).bind fun t143 => ((careenlaw01_pick.f a0 9007199254740993).bind fun t144 => ((careenlaw01_pick.f a0 300).bind fun t145 => ((some (([t144, t145] : List Int) : List Int)).bind fun y146 => (careenlaw01_VarintBack.l0 k a1 a2 t143 y146 (y146.length : Int) 0))))
theorem careenlaw01_VarintBack.mono_l : ∀ k, (∀ y0 y1 y2 y3 y4 y5, LeO (careenlaw01_VarintBack.l0 k y0 y1 y2 y3 y4 y5) (careenlaw01_VarintBack.l0 (k + 1) y0 y1 y2 y3 y4 y5)) ∧ (∀ y0 y1 y2 y3 y4 y5 y6 y7 y8, LeO (careenlaw01_VarintBack.j1 k y0 y1 y2 y3 y4 y5 y6 y7 y8) (careenlaw01_VarintBack.j1 (k + 1) y0 y1 y2 y3 y4 y5 y6 y7 y8))
  | 0 => ⟨(fun _ _ _ _ _ _ r h => by cases (show (none : Option _) = some r from h)), (fun _ _ _ _ _ _ _ _ _ r h => by cases (show (none : Option _) = some r from h))⟩
  | k + 1 => by
    obtain ⟨ih0, ih1⟩ := careenlaw01_VarintBack.mono_l k
    refine ⟨?_, ?_⟩
    · intro y0 y1 y2 y3 y4 y5
      unfold careenlaw01_VarintBack.l0
      repeat' first
      | (with_reducible exact ih0 _ _ _ _ _ _)
      | (with_reducible exact ih1 _ _ _ _ _ _ _ _ _)
      | (with_reducible exact careenlaw01_awake.mono _)
      | (with_reducible exact varint_Take.mono _ _)
      | (with_reducible exact LeO.refl _)
      | (with_reducible exact LeO.none _)
      | (with_reducible refine LeO.ite ?_ ?_)
      | (with_reducible refine LeO.bind ?_ (fun _ => ?_))
      | exact ih0 _ _ _ _ _ _
      | exact ih1 _ _ _ _ _ _ _ _ _
      | exact careenlaw01_awake.mono _
      | exact varint_Take.mono _ _
      | exact LeO.none _
      | refine LeO.ite ?_ ?_
      | refine LeO.bind ?_ (fun _ => ?_)
    · intro y0 y1 y2 y3 y4 y5 y6 y7 y8
      unfold careenlaw01_VarintBack.j1
      repeat' first
      | (with_reducible exact ih0 _ _ _ _ _ _)
      | (with_reducible exact ih1 _ _ _ _ _ _ _ _ _)
      | (with_reducible exact careenlaw01_awake.mono _)
      | (with_reducible exact varint_Take.mono _ _)
      | (with_reducible exact LeO.refl _)
      | (with_reducible exact LeO.none _)
      | (with_reducible refine LeO.ite ?_ ?_)
      | (with_reducible refine LeO.bind ?_ (fun _ => ?_))
      | exact ih0 _ _ _ _ _ _
      | exact ih1 _ _ _ _ _ _ _ _ _
      | exact careenlaw01_awake.mono _
      | exact varint_Take.mono _ _
      | exact LeO.none _
      | refine LeO.ite ?_ ?_
      | refine LeO.bind ?_ (fun _ => ?_)
theorem careenlaw01_VarintBack.mono : ∀ a0 a1 a2 k, LeO (careenlaw01_VarintBack.f k a0 a1 a2) (careenlaw01_VarintBack.f (k + 1) a0 a1 a2) := by
  intro a0 a1 a2 k
  obtain ⟨ih0, ih1⟩ := careenlaw01_VarintBack.mono_l k
  unfold careenlaw01_VarintBack.f
  repeat' first
      | (with_reducible exact ih0 _ _ _ _ _ _)
      | (with_reducible exact ih1 _ _ _ _ _ _ _ _ _)
      | (with_reducible exact careenlaw01_awake.mono _)
      | (with_reducible exact varint_Take.mono _ _)
      | (with_reducible exact LeO.refl _)
      | (with_reducible exact LeO.none _)
      | (with_reducible refine LeO.ite ?_ ?_)
      | (with_reducible refine LeO.bind ?_ (fun _ => ?_))
      | exact ih0 _ _ _ _ _ _
      | exact ih1 _ _ _ _ _ _ _ _ _
      | exact careenlaw01_awake.mono _
      | exact varint_Take.mono _ _
      | exact LeO.none _
      | refine LeO.ite ?_ ?_
      | refine LeO.bind ?_ (fun _ => ?_)
set_option maxHeartbeats 8000000 in
set_option maxRecDepth 100000 in
theorem careenlaw01_VarintBack.calls (k : Nat) (a0 : Int) (a1 : ByteArray) (a2 : Int) (w : World) (h : careenlaw01_VarintBack.f k a0 a1 a2 = some true) :
    Calls Try.prog 4 #[.int .i64 a0, .string a1, .int .i64 a2] w fun e w' => e = .returned (.bool true) ∧ Below w.heap.size w w' := by
  have HB := Aside0.mk (Below.refl w.heap.size w)
  have H : ((careenlaw01_awake.f k).bind fun t143 => ((careenlaw01_pick.f a0 9007199254740993).bind fun t144 => ((careenlaw01_pick.f a0 300).bind fun t145 => ((some (([t144, t145] : List Int) : List Int)).bind fun y146 => (careenlaw01_VarintBack.l0 k a1 a2 t143 y146 (y146.length : Int) 0))))) = some true := h
  clear h
  replace H := Option.bind_eq_some_iff.mp H
  obtain ⟨t143, A40, H⟩ := H
  replace H : ((careenlaw01_pick.f a0 9007199254740993).bind fun t144 => ((careenlaw01_pick.f a0 300).bind fun t145 => ((some (([t144, t145] : List Int) : List Int)).bind fun y146 => (careenlaw01_VarintBack.l0 k a1 a2 t143 y146 (y146.length : Int) 0)))) = some true := H
  have A4 := Aside0.mk A40
  clear A40
  replace H := Option.bind_eq_some_iff.mp H
  obtain ⟨t144, A50, H⟩ := H
  replace H : ((careenlaw01_pick.f a0 300).bind fun t145 => ((some (([t144, t145] : List Int) : List Int)).bind fun y146 => (careenlaw01_VarintBack.l0 k a1 a2 t143 y146 (y146.length : Int) 0))) = some true := H
  have A5 := Aside0.mk A50
  clear A50
  replace H := Option.bind_eq_some_iff.mp H
  obtain ⟨t145, A60, H⟩ := H
  replace H : ((some (([t144, t145] : List Int) : List Int)).bind fun y146 => (careenlaw01_VarintBack.l0 k a1 a2 t143 y146 (y146.length : Int) 0)) = some true := H
  have A6 := Aside0.mk A60
  clear A60
  obtain ⟨y146, hy146⟩ : ∃ y_ : List Int, y_ = (([t144, t145] : List Int)) := ⟨_, rfl⟩
  replace H : (careenlaw01_VarintBack.l0 k a1 a2 t143 y146 (y146.length : Int) 0) = some true := by first | (rw [hy146]; with_reducible exact H) | (have H2_ := (Option.bind_some _ _).symm.trans H; rw [hy146]; with_reducible exact H2_) | (have H2_ := (Option.bind_some _ _).symm.trans H; with_reducible exact H2_) | with_reducible exact H | (rw [hy146]; exact H) | exact H
  have Ny146 := Aside0.mk hy146
  clear hy146
  have H' := Aside0.mk H
  clear H
  go_enter Try.func4, Try.ntmps4
  go_wp2_with (first | ((with_reducible refine gate_callee (f := 9) rfl ?_); refine goesL_ (some 18) rfl rfl Try.func9 (by kernel_rfl) rfl #[] rfl (by (try simp only [List.map_toArray, List.map_cons, List.map_nil]); first | done | rfl | (simp only [List.length_drop, List.length_take]; rfl)) ?_; (with_reducible refine (careenlaw01_awake.calls k  t143 _ A4.out).mono ?_); rintro e w7 ⟨rfl, hb⟩; refine ⟨_, rfl, ?_⟩; have n0_ := Aside0.mk (below_step (by repeat (first | (with_reducible first | exact HB.out | apply below_alloc | apply pw_below_drewN | apply below_drew1) | exact HB.out)) hb); clear HB; have HB := n0_; clear n0_; (try clear hb); (try clear hb2); (try clear hk); (try clear hi)) | ((with_reducible refine gate_callee (f := 10) rfl ?_); refine goesL_ (some 20) rfl rfl Try.func10 (by kernel_rfl) rfl #[.int .i64 a0, .int .i64 9007199254740993] rfl (by (try simp only [List.map_toArray, List.map_cons, List.map_nil]); first | done | rfl | (simp only [List.length_drop, List.length_take]; rfl)) ?_; (with_reducible refine (careenlaw01_pick.calls a0 9007199254740993 t144 _ A5.out).mono ?_); rintro e w' ⟨rfl, ⟨nd, rfl⟩⟩; refine ⟨_, rfl, ?_⟩) | ((with_reducible refine gate_callee (f := 10) rfl ?_); refine goesL_ (some 22) rfl rfl Try.func10 (by kernel_rfl) rfl #[.int .i64 a0, .int .i64 300] rfl (by (try simp only [List.map_toArray, List.map_cons, List.map_nil]); first | done | rfl | (simp only [List.length_drop, List.length_take]; rfl)) ?_; (with_reducible refine (careenlaw01_pick.calls a0 300 t145 _ A6.out).mono ?_); rintro e w' ⟨rfl, ⟨nd, rfl⟩⟩; refine ⟨_, rfl, ?_⟩) | ((with_reducible refine gate_dst (N := 23) rfl ?_); (try (refine gate_guard (by rfl) ?_; dsimp only)); refine Kd.R_lit (Kd.int .i64) _ 3 ?hg (N := 23) ?hd (xs := ([t144, t145] : List Int)) (inner := [.int .i64 t144, .int .i64 t145]) (ok := fun _ => True) (okp := fun _ => True) ?hr ?hp (fun _ hk => hk) trivial (Below.refl _ _) (Nat.le_refl _) (by simp) ?_; (case hd => rfl); (case hg => rfl); (case hr => first | (go_simp; done) | (go_simp; rfl)); (case hp => exact (Reps.one (show Kd.M (Kd.int .i64) _ _ _ t144 [.int .i64 t144] from rfl) (Reps.one (show Kd.M (Kd.int .i64) _ _ _ t145 [.int .i64 t145] from rfl) (Reps.none _ _)))); intro v147 w8 ho9 hb hg_ hnew_; clear hg_ hnew_; (first | rw [← Ny146.out] at ho9 | (simp only [Int.reduceToNat] at ho9; rw [← Ny146.out] at ho9)); have n0_ := Aside0.mk (Kd.R_lower ho9 (below_size (by repeat (first | (with_reducible first | exact HB.out | apply below_alloc | apply pw_below_drewN | apply below_drew1) | exact HB.out)))); have n1_ := Aside0.mk (below_step (by repeat (first | (with_reducible first | exact HB.out | apply below_alloc | apply pw_below_drewN | apply below_drew1) | exact HB.out)) hb); clear HB; have HO148 := n0_; have HB := n1_; clear n0_ n1_; clear hb ho9; obtain ⟨Ao10, co10, eo10⟩ := Kd.R_slice HO148.out; subst eo10))
  go_loopg [25] k (fun kq v25 w' => ∃ (x25_1 : Int), v25 = .int .i64 x25_1 ∧ Aside0 (careenlaw01_VarintBack.l0 kq a1 a2 t143 y146 (y146.length : Int) x25_1 = some true) ∧ Aside0 (kq ≤ k) ∧ Aside0 (Kd.R (Kd.int .i64) 3 w' w.heap.size (fun _ => True) (.slice Ao10 y146.length co10) y146) ∧ Aside0 (Below w.heap.size w w'))
  case atStart => exact ⟨(0), (by first | rfl | (simp; done) | (simp [*]; done)), H', ⟨Nat.le_refl _⟩, ⟨by (with_reducible repeat (first | apply Kd.R_alloc | apply Kd.R_drewN | apply Kd.R_drew)); exact HO148.out⟩, ⟨by repeat (first | (with_reducible first | exact HB.out | apply below_alloc | apply pw_below_drewN | apply below_drew1) | exact HB.out)⟩⟩
  case round =>
    clear H'
    try clear c1
    try clear p2
    try clear c4
    try clear c9
    try clear c10
    obtain ⟨x25_1, rfl, HA, HK1, HO_23, HB⟩ := hrel
    cases gk with
    | zero => cases (show (none : Option _) = some _ from HA.out)
    | succ k1 =>
      have H := HA.out
      clear HA
      simp only [careenlaw01_VarintBack.l0] at H
      by_cases c11 : x25_1 < (y146.length : Int)
      · rw [if_pos c11] at H
        have c11b0 : decide (x25_1 < (y146.length : Int)) = true := decide_eq_true c11
        clear c11
        by_cases c12 : 0 ≤ x25_1
        · rw [if_pos c12] at H
          have c12b0 : decide (0 ≤ x25_1) = true := decide_eq_true c12
          clear c12
          by_cases c13 : x25_1 < (y146.length : Int)
          · rw [if_pos c13] at H
            have c13b0 : decide (x25_1 < (y146.length : Int)) = true := decide_eq_true c13
            clear c13
            replace H := Option.bind_eq_some_iff.mp H
            obtain ⟨⟨t150, t151⟩, A140, H⟩ := H
            replace H : (if t151 = 0 then (if (t150.size : Int) < 1 then (careenlaw01_VarintBack.j1 k1 a1 a2 t143 (rd y146 x25_1) t150 y146 (y146.length : Int) x25_1 true) else (careenlaw01_VarintBack.j1 k1 a1 a2 t143 (rd y146 x25_1) t150 y146 (y146.length : Int) x25_1 (decide ((t150.size : Int) > 8)))) else (careenlaw01_VarintBack.j1 k1 a1 a2 t143 (rd y146 x25_1) t150 y146 (y146.length : Int) x25_1 true)) = some true := H
            have A14 := Aside0.mk A140
            clear A140
            have HC15 := Aside0.mk H
            clear H
            have p149 : 0 ≤ (x25_1 : Int) := of_decide_eq_true (by first | (with_reducible assumption) | assumption)
            have q149 : x25_1 < (y146.length : Int) := of_decide_eq_true (by first | (with_reducible assumption) | assumption)
            obtain ⟨ad149, e149, hx149_0⟩ := Kd.at_int (Kd.R_reads' HO_23.out).2.2 x25_1 p149 q149
            cases e149
            replace p149 := eq_true p149
            replace q149 := eq_true q149
            go_upto_region 6 with (first | ((with_reducible refine gate_callee (f := 11) rfl ?_); refine goesL_ (some 31) rfl rfl Try.func11 (by kernel_rfl) rfl #[.int .i64 (rd y146 x25_1)] rfl (by (try simp only [List.map_toArray, List.map_cons, List.map_nil]); first | done | rfl | (simp only [List.length_drop, List.length_take]; rfl)) ?_; (with_reducible refine (varint_Put.calls (rd y146 x25_1) t150 t151 _ A14.out).mono ?_); rintro e w16 ⟨rfl, hb⟩; refine ⟨_, rfl, ?_⟩; have n0_ := Aside0.mk (Kd.R_below (by (with_reducible repeat (first | apply Kd.R_alloc | apply Kd.R_drewN | apply Kd.R_drew)); exact HO_23.out) hb); have n1_ := Aside0.mk (below_step (by repeat (first | (with_reducible first | exact HB.out | apply below_alloc | apply pw_below_drewN | apply below_drew1) | exact HB.out)) hb); clear HO_23; clear HB; have HO_23 := n0_; have HB := n1_; clear n0_ n1_; (try clear hb); (try clear hb2); (try clear hk); (try clear hi)))
            (try simp only [Act.put, List.setIfInBounds_toArray, List.set_cons_zero, List.set_cons_succ])
            go_cut [45] (fun v45 wc => ∃ (kq : Nat) (x45_14 : Bool), v45 = .bool x45_14 ∧ Aside0 (careenlaw01_VarintBack.j1 kq a1 a2 t143 (rd y146 x25_1) t150 y146 (y146.length : Int) x25_1 x45_14 = some true) ∧ Aside0 (kq ≤ k1) ∧ Aside0 (Kd.R (Kd.int .i64) 3 wc w.heap.size (fun _ => True) (.slice (some ad149) y146.length co10) y146) ∧ Aside0 (Below w.heap.size w wc))
            case first =>
              have H := HC15.out
              clear HC15
              by_cases c17 : t151 = 0
              · rw [if_pos c17] at H
                have c17b0 : (t151 == 0) = true := beq_iff_eq.mpr c17
                have c17b1 : (t151 != 0) = false := bne_eq_false_iff_eq.mpr c17
                clear c17
                (first | rw [c17b0] | (simp only [i64_w, i32_w]; rw [c17b0]) | skip)
                by_cases c18 : (t150.size : Int) < 1
                · rw [if_pos c18] at H
                  have c18b0 : decide ((t150.size : Int) < 1) = true := decide_eq_true c18
                  have c18b1 : decide (t150.size < 1) = true := decide_eq_true (by omega)
                  clear c18
                  have H' := Aside0.mk H
                  clear H
                  go_wp2
                  go_meet
                  case rel => exact ⟨_, (true), (by first | rfl | (simp; done) | (simp [*]; done)), H', ⟨by have := HK1.out; first | omega | exact Nat.le_refl _⟩, ⟨by (with_reducible repeat (first | apply Kd.R_alloc | apply Kd.R_drewN | apply Kd.R_drew)); exact HO_23.out⟩, ⟨by repeat (first | (with_reducible first | exact HB.out | apply below_alloc | apply pw_below_drewN | apply below_drew1) | exact HB.out)⟩⟩
                · rw [if_neg c18] at H
                  have c18b0 : decide ((t150.size : Int) < 1) = false := decide_eq_false c18
                  have c18b1 : decide (t150.size < 1) = false := decide_eq_false (by omega)
                  clear c18
                  have H' := Aside0.mk H
                  clear H
                  go_wp2
                  go_meet
                  case rel => exact ⟨_, (decide ((t150.size : Int) > 8)), (by first | rfl | (simp; done) | (simp [*]; done)), H', ⟨by have := HK1.out; first | omega | exact Nat.le_refl _⟩, ⟨by (with_reducible repeat (first | apply Kd.R_alloc | apply Kd.R_drewN | apply Kd.R_drew)); exact HO_23.out⟩, ⟨by repeat (first | (with_reducible first | exact HB.out | apply below_alloc | apply pw_below_drewN | apply below_drew1) | exact HB.out)⟩⟩
              · rw [if_neg c17] at H
                have c17b0 : (t151 == 0) = false := beq_eq_false_iff_ne.mpr c17
                have c17b1 : (t151 != 0) = true := bne_iff_ne.mpr c17
                (first | rw [c17b0] | (simp only [i64_w, i32_w]; rw [c17b0]) | skip)
                have H' := Aside0.mk H
                clear H
                go_wp2
                go_meet
                case rel => exact ⟨_, (true), (by first | rfl | (simp; done) | (simp [*]; done)), H', ⟨by have := HK1.out; first | omega | exact Nat.le_refl _⟩, ⟨by (with_reducible repeat (first | apply Kd.R_alloc | apply Kd.R_drewN | apply Kd.R_drew)); exact HO_23.out⟩, ⟨by repeat (first | (with_reducible first | exact HB.out | apply below_alloc | apply pw_below_drewN | apply below_drew1) | exact HB.out)⟩⟩
            case rest =>
              clear HC15
              try clear c1
              try clear p1
              try clear q1
              try clear hx1
              try clear p2
              try clear c4
              try clear c9
              try clear c10
              try clear c11
              try clear c11b0
              try clear c12
              try clear c12b0
              try clear c13
              try clear c13b0
              try clear p14
              try clear q14
              try clear hx14
              try clear c17
              try clear c17b0
              try clear c17b1
              try clear c18
              try clear c18b0
              try clear c18b1
              try clear hx149_0
              try clear p149
              try clear p2
              try clear q149
              obtain ⟨kq, x45_14, rfl, HA, HJ14, HO_23, HB⟩ := hcut
              cases kq with
              | zero => cases (show (none : Option _) = some _ from HA.out)
              | succ kj14 =>
                have H := HA.out
                clear HA
                simp only [careenlaw01_VarintBack.j1] at H
                by_cases c19 : x45_14 = true
                · subst c19
                  have H1 : (some false) = some true := by rw [if_pos rfl] at H; exact H
                  clear H
                  have H := H1
                  clear H1
                  exact absurd H (by simp)
                · replace c19 := Bool.eq_false_iff.mpr c19
                  subst c19
                  have H1 : (if t150.size + a1.size ≤ 9223372036854775807 then ((varint_Take.f kj14 (t150 ++ a1)).bind fun bt152 => ((careenlaw01_pick.f a2 (t150.size : Int)).bind fun t155 => (if 0 ≤ t155 then (if t155 ≤ (t150.size : Int) then ((varint_Take.f kj14 (t150.extract 0 (t155 : Int).toNat)).bind fun bt156 => (if bt152.2.2 = 0 then (if bt152.1 = (rd y146 x25_1) then (if bt152.2.1 = (t150.size : Int) then (if bt156.2.2 = 10 then (careenlaw01_VarintBack.l0 kj14 a1 a2 t143 y146 (y146.length : Int) (wrap64 (x25_1 + 1))) else (some false)) else (some false)) else (some false)) else (some false))) else (none)) else (none)))) else (none)) = some true := by rw [if_neg (show ¬ (false = true) by decide)] at H; exact H
                  clear H
                  have H := H1
                  clear H1
                  by_cases c20 : t150.size + a1.size ≤ 9223372036854775807
                  · rw [if_pos c20] at H
                    have c20b0 := eq_true c20
                    have c20b1 : decide (t150.size + a1.size ≤ 9223372036854775807) = true := decide_eq_true c20
                    try have c20b2 : (9223372036854775807 < t150.size + a1.size) = False := eq_false (Nat.not_lt.2 c20)
                    replace H := Option.bind_eq_some_iff.mp H
                    obtain ⟨⟨t152, t153, t154⟩, A210, H⟩ := H
                    replace H : ((careenlaw01_pick.f a2 (t150.size : Int)).bind fun t155 => (if 0 ≤ t155 then (if t155 ≤ (t150.size : Int) then ((varint_Take.f kj14 (t150.extract 0 (t155 : Int).toNat)).bind fun bt156 => (if t154 = 0 then (if t152 = (rd y146 x25_1) then (if t153 = (t150.size : Int) then (if bt156.2.2 = 10 then (careenlaw01_VarintBack.l0 kj14 a1 a2 t143 y146 (y146.length : Int) (wrap64 (x25_1 + 1))) else (some false)) else (some false)) else (some false)) else (some false))) else (none)) else (none))) = some true := H
                    have A21 := Aside0.mk A210
                    clear A210
                    replace H := Option.bind_eq_some_iff.mp H
                    obtain ⟨t155, A220, H⟩ := H
                    replace H : (if 0 ≤ t155 then (if t155 ≤ (t150.size : Int) then ((varint_Take.f kj14 (t150.extract 0 (t155 : Int).toNat)).bind fun bt156 => (if t154 = 0 then (if t152 = (rd y146 x25_1) then (if t153 = (t150.size : Int) then (if bt156.2.2 = 10 then (careenlaw01_VarintBack.l0 kj14 a1 a2 t143 y146 (y146.length : Int) (wrap64 (x25_1 + 1))) else (some false)) else (some false)) else (some false)) else (some false))) else (none)) else (none)) = some true := H
                    have A22 := Aside0.mk A220
                    clear A220
                    by_cases c23 : 0 ≤ t155
                    · rw [if_pos c23] at H
                      have c23b0 := eq_true c23
                      have c23b1 : decide (0 ≤ t155) = true := decide_eq_true c23
                      clear c23
                      by_cases c24 : t155 ≤ (t150.size : Int)
                      · rw [if_pos c24] at H
                        have c24b0 := eq_true c24
                        have c24b1 : decide (t155 ≤ (t150.size : Int)) = true := decide_eq_true c24
                        clear c24
                        replace H := Option.bind_eq_some_iff.mp H
                        obtain ⟨⟨t156, t157, t158⟩, A250, H⟩ := H
                        replace H : (if t154 = 0 then (if t152 = (rd y146 x25_1) then (if t153 = (t150.size : Int) then (if t158 = 10 then (careenlaw01_VarintBack.l0 kj14 a1 a2 t143 y146 (y146.length : Int) (wrap64 (x25_1 + 1))) else (some false)) else (some false)) else (some false)) else (some false)) = some true := H
                        have A25 := Aside0.mk A250
                        clear A250
                        by_cases c26 : t154 = 0
                        · rw [if_pos c26] at H
                          have c26b0 : (t154 == 0) = true := beq_iff_eq.mpr c26
                          have c26b1 : (t154 != 0) = false := bne_eq_false_iff_eq.mpr c26
                          clear c26
                          by_cases c27 : t152 = (rd y146 x25_1)
                          · rw [if_pos c27] at H
                            have c27b0 : (t152 == (rd y146 x25_1)) = true := beq_iff_eq.mpr c27
                            have c27b1 : (t152 != (rd y146 x25_1)) = false := bne_eq_false_iff_eq.mpr c27
                            clear c27
                            by_cases c28 : t153 = (t150.size : Int)
                            · rw [if_pos c28] at H
                              have c28b0 : (t153 == (t150.size : Int)) = true := beq_iff_eq.mpr c28
                              have c28b1 : (t153 != (t150.size : Int)) = false := bne_eq_false_iff_eq.mpr c28
                              clear c28
                              by_cases c29 : t158 = 10
                              · rw [if_pos c29] at H
                                have c29b0 : (t158 == 10) = true := beq_iff_eq.mpr c29
                                have c29b1 : (t158 != 10) = false := bne_eq_false_iff_eq.mpr c29
                                clear c29
                                have H' := Aside0.mk H
                                clear H
                                go_wp2_with (first | ((with_reducible refine gate_callee (f := 13) rfl ?_); refine goesL_ (some 50) rfl rfl Try.func13 (by kernel_rfl) rfl #[.string (t150 ++ a1)] rfl (by (try simp only [List.map_toArray, List.map_cons, List.map_nil]); first | done | rfl | (simp only [List.length_drop, List.length_take]; rfl)) ?_; (with_reducible refine (varint_Take.calls kj14 (t150 ++ a1) t152 t153 t154 _ A21.out).mono ?_); rintro e w30 ⟨rfl, hb⟩; refine ⟨_, rfl, ?_⟩; have n0_ := Aside0.mk (Kd.R_below (by (with_reducible repeat (first | apply Kd.R_alloc | apply Kd.R_drewN | apply Kd.R_drew)); exact HO_23.out) hb); have n1_ := Aside0.mk (below_step (by repeat (first | (with_reducible first | exact HB.out | apply below_alloc | apply pw_below_drewN | apply below_drew1) | exact HB.out)) hb); clear HO_23; clear HB; have HO_23 := n0_; have HB := n1_; clear n0_ n1_; (try clear hb); (try clear hb2); (try clear hk); (try clear hi)) | ((with_reducible refine gate_callee (f := 10) rfl ?_); refine goesL_ (some 59) rfl rfl Try.func10 (by kernel_rfl) rfl #[.int .i64 a2, .int .i64 (t150.size : Int)] rfl (by (try simp only [List.map_toArray, List.map_cons, List.map_nil]); first | done | rfl | (simp only [List.length_drop, List.length_take]; rfl)) ?_; (with_reducible refine (careenlaw01_pick.calls a2 (t150.size : Int) t155 _ A22.out).mono ?_); rintro e w' ⟨rfl, ⟨nd, rfl⟩⟩; refine ⟨_, rfl, ?_⟩) | ((with_reducible refine gate_callee (f := 13) rfl ?_); refine goesL_ (some 61) rfl rfl Try.func13 (by kernel_rfl) rfl #[.string (t150.extract 0 (t155 : Int).toNat)] rfl (by (try simp only [List.map_toArray, List.map_cons, List.map_nil]); first | done | rfl | (simp only [List.length_drop, List.length_take]; rfl)) ?_; (with_reducible refine (varint_Take.calls kj14 (t150.extract 0 (t155 : Int).toNat) t156 t157 t158 _ A25.out).mono ?_); rintro e w31 ⟨rfl, hb⟩; refine ⟨_, rfl, ?_⟩; have n0_ := Aside0.mk (Kd.R_below (by (with_reducible repeat (first | apply Kd.R_alloc | apply Kd.R_drewN | apply Kd.R_drew)); exact HO_23.out) hb); have n1_ := Aside0.mk (below_step (by repeat (first | (with_reducible first | exact HB.out | apply below_alloc | apply pw_below_drewN | apply below_drew1) | exact HB.out)) hb); clear HO_23; clear HB; have HO_23 := n0_; have HB := n1_; clear n0_ n1_; (try clear hb); (try clear hb2); (try clear hk); (try clear hi)))
                                go_roundg kj14
                                case measure => have := HK1.out; have := HJ14.out; omega
                                case rel => exact ⟨(wrap64 (x25_1 + 1)), (by first | rfl | (simp; done) | (simp [*]; done)), H', ⟨by have := HK1.out; have := HJ14.out; omega⟩, ⟨by (with_reducible repeat (first | apply Kd.R_alloc | apply Kd.R_drewN | apply Kd.R_drew)); exact HO_23.out⟩, ⟨by repeat (first | (with_reducible first | exact HB.out | apply below_alloc | apply pw_below_drewN | apply below_drew1) | exact HB.out)⟩⟩
                              · rw [if_neg c29] at H
                                have c29b0 : (t158 == 10) = false := beq_eq_false_iff_ne.mpr c29
                                have c29b1 : (t158 != 10) = true := bne_iff_ne.mpr c29
                                exact absurd H (by simp)
                            · rw [if_neg c28] at H
                              have c28b0 : (t153 == (t150.size : Int)) = false := beq_eq_false_iff_ne.mpr c28
                              have c28b1 : (t153 != (t150.size : Int)) = true := bne_iff_ne.mpr c28
                              exact absurd H (by simp)
                          · rw [if_neg c27] at H
                            have c27b0 : (t152 == (rd y146 x25_1)) = false := beq_eq_false_iff_ne.mpr c27
                            have c27b1 : (t152 != (rd y146 x25_1)) = true := bne_iff_ne.mpr c27
                            exact absurd H (by simp)
                        · rw [if_neg c26] at H
                          have c26b0 : (t154 == 0) = false := beq_eq_false_iff_ne.mpr c26
                          have c26b1 : (t154 != 0) = true := bne_iff_ne.mpr c26
                          exact absurd H (by simp)
                      · rw [if_neg c24] at H
                        exact absurd H (by simp)
                    · rw [if_neg c23] at H
                      exact absurd H (by simp)
                  · rw [if_neg c20] at H
                    exact absurd H (by simp)
          · rw [if_neg c13] at H
            exact absurd H (by simp)
        · rw [if_neg c12] at H
          exact absurd H (by simp)
      · rw [if_neg c11] at H
        have c11b0 : decide (x25_1 < (y146.length : Int)) = false := decide_eq_false c11
        clear c11
        have HV_ := Aside0.mk (Option.some.inj H)
        clear H
        go_wp2
        go_ret
        exact ⟨by first | exact congrArg (fun b_ => Ending.returned (Value.bool b_)) HV_.out | (have hv_ := HV_.out; simp only [Bool.and_eq_true, beq_iff_eq] at hv_; simp [hv_]; done) | (have hv_ := HV_.out; simp at hv_; simp [*]; done) | rfl | (simp [errW_none, errW_some] <;> rfl) | (simp [*, errW_none, errW_some] <;> rfl), by repeat (first | (with_reducible first | exact HB.out | apply below_alloc | apply pw_below_drewN | apply below_drew1) | exact HB.out)⟩

/-- THE ONE PURE STATEMENT of careenlaw01_VarintBack: yours. -/
def careenlaw01_VarintBack.Pure : Prop := ∀ (a0 : Int) (a1 : ByteArray) (a2 : Int), (Lit.int .i64 a0).wf = true → a1.size ≤ 140737488351232 → (Lit.int .i64 a2).wf = true → ∃ k, careenlaw01_VarintBack.f k a0 a1 a2 = some true
theorem careenlaw01_VarintBack.walk (P : careenlaw01_VarintBack.Pure) (a0 : Int) (a1 : ByteArray) (a2 : Int) (w : World) (w0 : (Lit.int .i64 a0).wf = true) (w1 : a1.size ≤ 140737488351232) (w2 : (Lit.int .i64 a2).wf = true) :
    Calls Try.prog 4 #[.int .i64 a0, .string a1, .int .i64 a2] w fun e w' => e = .returned (.bool true) ∧ Below w.heap.size w w' := by
  obtain ⟨k, h⟩ := P a0 a1 a2 w0 w1 w2
  refine (careenlaw01_VarintBack.calls k a0 a1 a2 w h).mono ?_
  rintro e w' ⟨rfl, hd⟩
  exact ⟨rfl, hd⟩

/-! ### careenlaw01_VarintForth: function 5 -/
def careenlaw01_VarintForth.f (k : Nat) (a0 : ByteArray) : Option (Bool) := (careenlaw01_awake.f k).bind fun t159 => ((varint_Take.f k a0).bind fun bt160 => (if bt160.2.2 = 0 then ((varint_Put.f bt160.1).bind fun bt163 => (if t159 = true then (if bt163.2 = 0 then (if bt160.2.1 ≥ 1 then (if bt160.2.1 ≤ (a0.size : Int) then (if 0 ≤ bt160.2.1 then (some (bt163.1.toList == (a0.extract 0 (bt160.2.1 : Int).toNat).toList)) else (none)) else (some false)) else (some false)) else (some false)) else (some false))) else (if t159 = true then (if bt160.1 = 0 then (if bt160.2.1 = 0 then (if bt160.2.2 = 10 then (if bt160.2.2 = 11 then (some true) else (some (decide ((a0.size : Int) < 8)))) else (if bt160.2.2 = 11 then (some true) else (some false))) else (some false)) else (some false)) else (some false))))
theorem careenlaw01_VarintForth.mono : ∀ a0 k, LeO (careenlaw01_VarintForth.f k a0) (careenlaw01_VarintForth.f (k + 1) a0) := by
  intro a0 k
  unfold careenlaw01_VarintForth.f
  repeat' first
      | (with_reducible exact careenlaw01_awake.mono _)
      | (with_reducible exact varint_Take.mono _ _)
      | (with_reducible exact LeO.refl _)
      | (with_reducible exact LeO.none _)
      | (with_reducible refine LeO.ite ?_ ?_)
      | (with_reducible refine LeO.bind ?_ (fun _ => ?_))
      | exact careenlaw01_awake.mono _
      | exact varint_Take.mono _ _
      | exact LeO.none _
      | refine LeO.ite ?_ ?_
      | refine LeO.bind ?_ (fun _ => ?_)
set_option maxHeartbeats 8000000 in
set_option maxRecDepth 100000 in
theorem careenlaw01_VarintForth.calls (k : Nat) (a0 : ByteArray) (w : World) (h : careenlaw01_VarintForth.f k a0 = some true) :
    Calls Try.prog 5 #[.string a0] w fun e w' => e = .returned (.bool true) ∧ Below w.heap.size w w' := by
  have HB := Aside0.mk (Below.refl w.heap.size w)
  have H : ((careenlaw01_awake.f k).bind fun t159 => ((varint_Take.f k a0).bind fun bt160 => (if bt160.2.2 = 0 then ((varint_Put.f bt160.1).bind fun bt163 => (if t159 = true then (if bt163.2 = 0 then (if bt160.2.1 ≥ 1 then (if bt160.2.1 ≤ (a0.size : Int) then (if 0 ≤ bt160.2.1 then (some (bt163.1.toList == (a0.extract 0 (bt160.2.1 : Int).toNat).toList)) else (none)) else (some false)) else (some false)) else (some false)) else (some false))) else (if t159 = true then (if bt160.1 = 0 then (if bt160.2.1 = 0 then (if bt160.2.2 = 10 then (if bt160.2.2 = 11 then (some true) else (some (decide ((a0.size : Int) < 8)))) else (if bt160.2.2 = 11 then (some true) else (some false))) else (some false)) else (some false)) else (some false))))) = some true := h
  clear h
  replace H := Option.bind_eq_some_iff.mp H
  obtain ⟨t159, A20, H⟩ := H
  replace H : ((varint_Take.f k a0).bind fun bt160 => (if bt160.2.2 = 0 then ((varint_Put.f bt160.1).bind fun bt163 => (if t159 = true then (if bt163.2 = 0 then (if bt160.2.1 ≥ 1 then (if bt160.2.1 ≤ (a0.size : Int) then (if 0 ≤ bt160.2.1 then (some (bt163.1.toList == (a0.extract 0 (bt160.2.1 : Int).toNat).toList)) else (none)) else (some false)) else (some false)) else (some false)) else (some false))) else (if t159 = true then (if bt160.1 = 0 then (if bt160.2.1 = 0 then (if bt160.2.2 = 10 then (if bt160.2.2 = 11 then (some true) else (some (decide ((a0.size : Int) < 8)))) else (if bt160.2.2 = 11 then (some true) else (some false))) else (some false)) else (some false)) else (some false)))) = some true := H
  have A2 := Aside0.mk A20
  clear A20
  replace H := Option.bind_eq_some_iff.mp H
  obtain ⟨⟨t160, t161, t162⟩, A30, H⟩ := H
  replace H : (if t162 = 0 then ((varint_Put.f t160).bind fun bt163 => (if t159 = true then (if bt163.2 = 0 then (if t161 ≥ 1 then (if t161 ≤ (a0.size : Int) then (if 0 ≤ t161 then (some (bt163.1.toList == (a0.extract 0 (t161 : Int).toNat).toList)) else (none)) else (some false)) else (some false)) else (some false)) else (some false))) else (if t159 = true then (if t160 = 0 then (if t161 = 0 then (if t162 = 10 then (if t162 = 11 then (some true) else (some (decide ((a0.size : Int) < 8)))) else (if t162 = 11 then (some true) else (some false))) else (some false)) else (some false)) else (some false))) = some true := H
  have A3 := Aside0.mk A30
  clear A30
  by_cases c4 : t162 = 0
  · rw [if_pos c4] at H
    have c4b0 : (t162 == 0) = true := beq_iff_eq.mpr c4
    have c4b1 : (t162 != 0) = false := bne_eq_false_iff_eq.mpr c4
    clear c4
    replace H := Option.bind_eq_some_iff.mp H
    obtain ⟨⟨t163, t164⟩, A50, H⟩ := H
    replace H : (if t159 = true then (if t164 = 0 then (if t161 ≥ 1 then (if t161 ≤ (a0.size : Int) then (if 0 ≤ t161 then (some (t163.toList == (a0.extract 0 (t161 : Int).toNat).toList)) else (none)) else (some false)) else (some false)) else (some false)) else (some false)) = some true := H
    have A5 := Aside0.mk A50
    clear A50
    by_cases c6 : t159 = true
    · subst c6
      have H1 : (if t164 = 0 then (if t161 ≥ 1 then (if t161 ≤ (a0.size : Int) then (if 0 ≤ t161 then (some (t163.toList == (a0.extract 0 (t161 : Int).toNat).toList)) else (none)) else (some false)) else (some false)) else (some false)) = some true := by rw [if_pos rfl] at H; exact H
      clear H
      have H := H1
      clear H1
      by_cases c7 : t164 = 0
      · rw [if_pos c7] at H
        have c7b0 : (t164 == 0) = true := beq_iff_eq.mpr c7
        have c7b1 : (t164 != 0) = false := bne_eq_false_iff_eq.mpr c7
        clear c7
        by_cases c8 : t161 ≥ 1
        · rw [if_pos c8] at H
          have c8b0 : decide (1 ≤ t161) = true := decide_eq_true c8
          clear c8
          by_cases c9 : t161 ≤ (a0.size : Int)
          · rw [if_pos c9] at H
            have c9b0 : decide (t161 ≤ (a0.size : Int)) = true := decide_eq_true c9
            clear c9
            by_cases c10 : 0 ≤ t161
            · rw [if_pos c10] at H
              have c10b0 := eq_true c10
              have c10b1 : decide (0 ≤ t161) = true := decide_eq_true c10
              clear c10
              have c11b0 := eq_true (of_decide_eq_true (by first | (with_reducible assumption) | assumption) : t161 ≤ (a0.size : Int))
              have HV_ := Aside0.mk (Option.some.inj H)
              clear H
              go_enter Try.func5, Try.ntmps5
              go_wp2_with (first | ((with_reducible refine gate_callee (f := 9) rfl ?_); refine goesL_ (some 9) rfl rfl Try.func9 (by kernel_rfl) rfl #[] rfl (by (try simp only [List.map_toArray, List.map_cons, List.map_nil]); first | done | rfl | (simp only [List.length_drop, List.length_take]; rfl)) ?_; (with_reducible refine (careenlaw01_awake.calls k  true _ A2.out).mono ?_); rintro e w12 ⟨rfl, hb⟩; refine ⟨_, rfl, ?_⟩; have n0_ := Aside0.mk (below_step (by repeat (first | (with_reducible first | exact HB.out | apply below_alloc | apply pw_below_drewN | apply below_drew1) | exact HB.out)) hb); clear HB; have HB := n0_; clear n0_; (try clear hb); (try clear hb2); (try clear hk); (try clear hi)) | ((with_reducible refine gate_callee (f := 13) rfl ?_); refine goesL_ (some 12) rfl rfl Try.func13 (by kernel_rfl) rfl #[.string a0] rfl (by (try simp only [List.map_toArray, List.map_cons, List.map_nil]); first | done | rfl | (simp only [List.length_drop, List.length_take]; rfl)) ?_; (with_reducible refine (varint_Take.calls k a0 t160 t161 t162 _ A3.out).mono ?_); rintro e w13 ⟨rfl, hb⟩; refine ⟨_, rfl, ?_⟩; have n0_ := Aside0.mk (below_step (by repeat (first | (with_reducible first | exact HB.out | apply below_alloc | apply pw_below_drewN | apply below_drew1) | exact HB.out)) hb); clear HB; have HB := n0_; clear n0_; (try clear hb); (try clear hb2); (try clear hk); (try clear hi)) | ((with_reducible refine gate_callee (f := 11) rfl ?_); refine goesL_ (some 46) rfl rfl Try.func11 (by kernel_rfl) rfl #[.int .i64 t160] rfl (by (try simp only [List.map_toArray, List.map_cons, List.map_nil]); first | done | rfl | (simp only [List.length_drop, List.length_take]; rfl)) ?_; (with_reducible refine (varint_Put.calls t160 t163 t164 _ A5.out).mono ?_); rintro e w14 ⟨rfl, hb⟩; refine ⟨_, rfl, ?_⟩; have n0_ := Aside0.mk (below_step (by repeat (first | (with_reducible first | exact HB.out | apply below_alloc | apply pw_below_drewN | apply below_drew1) | exact HB.out)) hb); clear HB; have HB := n0_; clear n0_; (try clear hb); (try clear hb2); (try clear hk); (try clear hi)))
              go_ret
              exact ⟨by first | exact congrArg (fun b_ => Ending.returned (Value.bool b_)) HV_.out | (have hv_ := HV_.out; simp only [Bool.and_eq_true, beq_iff_eq] at hv_; simp [hv_]; done) | (have hv_ := HV_.out; simp at hv_; simp [*]; done) | rfl | (simp [errW_none, errW_some] <;> rfl) | (simp [*, errW_none, errW_some] <;> rfl), by repeat (first | (with_reducible first | exact HB.out | apply below_alloc | apply pw_below_drewN | apply below_drew1) | exact HB.out)⟩
            · rw [if_neg c10] at H
              exact absurd H (by simp)
          · rw [if_neg c9] at H
            have c9b0 : decide (t161 ≤ (a0.size : Int)) = false := decide_eq_false c9
            clear c9
            exact absurd H (by simp)
        · rw [if_neg c8] at H
          have c8b0 : decide (1 ≤ t161) = false := decide_eq_false c8
          clear c8
          exact absurd H (by simp)
      · rw [if_neg c7] at H
        have c7b0 : (t164 == 0) = false := beq_eq_false_iff_ne.mpr c7
        have c7b1 : (t164 != 0) = true := bne_iff_ne.mpr c7
        exact absurd H (by simp)
    · replace c6 := Bool.eq_false_iff.mpr c6
      subst c6
      have H1 : (some false) = some true := by rw [if_neg (show ¬ (false = true) by decide)] at H; exact H
      clear H
      have H := H1
      clear H1
      exact absurd H (by simp)
  · rw [if_neg c4] at H
    have c4b0 : (t162 == 0) = false := beq_eq_false_iff_ne.mpr c4
    have c4b1 : (t162 != 0) = true := bne_iff_ne.mpr c4
    by_cases c15 : t159 = true
    · subst c15
      have H1 : (if t160 = 0 then (if t161 = 0 then (if t162 = 10 then (if t162 = 11 then (some true) else (some (decide ((a0.size : Int) < 8)))) else (if t162 = 11 then (some true) else (some false))) else (some false)) else (some false)) = some true := by rw [if_pos rfl] at H; exact H
      clear H
      have H := H1
      clear H1
      by_cases c16 : t160 = 0
      · rw [if_pos c16] at H
        have c16b0 : (t160 == 0) = true := beq_iff_eq.mpr c16
        have c16b1 : (t160 != 0) = false := bne_eq_false_iff_eq.mpr c16
        clear c16
        by_cases c17 : t161 = 0
        · rw [if_pos c17] at H
          have c17b0 : (t161 == 0) = true := beq_iff_eq.mpr c17
          have c17b1 : (t161 != 0) = false := bne_eq_false_iff_eq.mpr c17
          clear c17
          by_cases c18 : t162 = 10
          · rw [if_pos c18] at H
            have c18b0 : (t162 == 10) = true := beq_iff_eq.mpr c18
            have c18b1 : (t162 != 10) = false := bne_eq_false_iff_eq.mpr c18
            clear c18
            by_cases c19 : t162 = 11
            · rw [if_pos c19] at H
              have c19b0 : (t162 == 11) = true := beq_iff_eq.mpr c19
              have c19b1 : (t162 != 11) = false := bne_eq_false_iff_eq.mpr c19
              clear c19
              clear H
              go_enter Try.func5, Try.ntmps5
              go_wp2_with (first | ((with_reducible refine gate_callee (f := 9) rfl ?_); refine goesL_ (some 9) rfl rfl Try.func9 (by kernel_rfl) rfl #[] rfl (by (try simp only [List.map_toArray, List.map_cons, List.map_nil]); first | done | rfl | (simp only [List.length_drop, List.length_take]; rfl)) ?_; (with_reducible refine (careenlaw01_awake.calls k  true _ A2.out).mono ?_); rintro e w20 ⟨rfl, hb⟩; refine ⟨_, rfl, ?_⟩; have n0_ := Aside0.mk (below_step (by repeat (first | (with_reducible first | exact HB.out | apply below_alloc | apply pw_below_drewN | apply below_drew1) | exact HB.out)) hb); clear HB; have HB := n0_; clear n0_; (try clear hb); (try clear hb2); (try clear hk); (try clear hi)) | ((with_reducible refine gate_callee (f := 13) rfl ?_); refine goesL_ (some 12) rfl rfl Try.func13 (by kernel_rfl) rfl #[.string a0] rfl (by (try simp only [List.map_toArray, List.map_cons, List.map_nil]); first | done | rfl | (simp only [List.length_drop, List.length_take]; rfl)) ?_; (with_reducible refine (varint_Take.calls k a0 t160 t161 t162 _ A3.out).mono ?_); rintro e w21 ⟨rfl, hb⟩; refine ⟨_, rfl, ?_⟩; have n0_ := Aside0.mk (below_step (by repeat (first | (with_reducible first | exact HB.out | apply below_alloc | apply pw_below_drewN | apply below_drew1) | exact HB.out)) hb); clear HB; have HB := n0_; clear n0_; (try clear hb); (try clear hb2); (try clear hk); (try clear hi)))
              go_ret
              exact ⟨by first | rfl | (simp [errW_none, errW_some] <;> rfl) | (simp [*, errW_none, errW_some] <;> rfl), by repeat (first | (with_reducible first | exact HB.out | apply below_alloc | apply pw_below_drewN | apply below_drew1) | exact HB.out)⟩
            · rw [if_neg c19] at H
              have c19b0 : (t162 == 11) = false := beq_eq_false_iff_ne.mpr c19
              have c19b1 : (t162 != 11) = true := bne_iff_ne.mpr c19
              have HV_ := Aside0.mk (Option.some.inj H)
              clear H
              go_enter Try.func5, Try.ntmps5
              go_wp2_with (first | ((with_reducible refine gate_callee (f := 9) rfl ?_); refine goesL_ (some 9) rfl rfl Try.func9 (by kernel_rfl) rfl #[] rfl (by (try simp only [List.map_toArray, List.map_cons, List.map_nil]); first | done | rfl | (simp only [List.length_drop, List.length_take]; rfl)) ?_; (with_reducible refine (careenlaw01_awake.calls k  true _ A2.out).mono ?_); rintro e w22 ⟨rfl, hb⟩; refine ⟨_, rfl, ?_⟩; have n0_ := Aside0.mk (below_step (by repeat (first | (with_reducible first | exact HB.out | apply below_alloc | apply pw_below_drewN | apply below_drew1) | exact HB.out)) hb); clear HB; have HB := n0_; clear n0_; (try clear hb); (try clear hb2); (try clear hk); (try clear hi)) | ((with_reducible refine gate_callee (f := 13) rfl ?_); refine goesL_ (some 12) rfl rfl Try.func13 (by kernel_rfl) rfl #[.string a0] rfl (by (try simp only [List.map_toArray, List.map_cons, List.map_nil]); first | done | rfl | (simp only [List.length_drop, List.length_take]; rfl)) ?_; (with_reducible refine (varint_Take.calls k a0 t160 t161 t162 _ A3.out).mono ?_); rintro e w23 ⟨rfl, hb⟩; refine ⟨_, rfl, ?_⟩; have n0_ := Aside0.mk (below_step (by repeat (first | (with_reducible first | exact HB.out | apply below_alloc | apply pw_below_drewN | apply below_drew1) | exact HB.out)) hb); clear HB; have HB := n0_; clear n0_; (try clear hb); (try clear hb2); (try clear hk); (try clear hi)))
              go_ret
              exact ⟨by first | exact congrArg (fun b_ => Ending.returned (Value.bool b_)) HV_.out | (have hv_ := HV_.out; simp only [Bool.and_eq_true, beq_iff_eq] at hv_; simp [hv_]; done) | (have hv_ := HV_.out; simp at hv_; simp [*]; done) | rfl | (simp [errW_none, errW_some] <;> rfl) | (simp [*, errW_none, errW_some] <;> rfl), by repeat (first | (with_reducible first | exact HB.out | apply below_alloc | apply pw_below_drewN | apply below_drew1) | exact HB.out)⟩
          · rw [if_neg c18] at H
            have c18b0 : (t162 == 10) = false := beq_eq_false_iff_ne.mpr c18
            have c18b1 : (t162 != 10) = true := bne_iff_ne.mpr c18
            by_cases c24 : t162 = 11
            · rw [if_pos c24] at H
              have c24b0 : (t162 == 11) = true := beq_iff_eq.mpr c24
              have c24b1 : (t162 != 11) = false := bne_eq_false_iff_eq.mpr c24
              clear c24
              clear H
              go_enter Try.func5, Try.ntmps5
              go_wp2_with (first | ((with_reducible refine gate_callee (f := 9) rfl ?_); refine goesL_ (some 9) rfl rfl Try.func9 (by kernel_rfl) rfl #[] rfl (by (try simp only [List.map_toArray, List.map_cons, List.map_nil]); first | done | rfl | (simp only [List.length_drop, List.length_take]; rfl)) ?_; (with_reducible refine (careenlaw01_awake.calls k  true _ A2.out).mono ?_); rintro e w25 ⟨rfl, hb⟩; refine ⟨_, rfl, ?_⟩; have n0_ := Aside0.mk (below_step (by repeat (first | (with_reducible first | exact HB.out | apply below_alloc | apply pw_below_drewN | apply below_drew1) | exact HB.out)) hb); clear HB; have HB := n0_; clear n0_; (try clear hb); (try clear hb2); (try clear hk); (try clear hi)) | ((with_reducible refine gate_callee (f := 13) rfl ?_); refine goesL_ (some 12) rfl rfl Try.func13 (by kernel_rfl) rfl #[.string a0] rfl (by (try simp only [List.map_toArray, List.map_cons, List.map_nil]); first | done | rfl | (simp only [List.length_drop, List.length_take]; rfl)) ?_; (with_reducible refine (varint_Take.calls k a0 t160 t161 t162 _ A3.out).mono ?_); rintro e w26 ⟨rfl, hb⟩; refine ⟨_, rfl, ?_⟩; have n0_ := Aside0.mk (below_step (by repeat (first | (with_reducible first | exact HB.out | apply below_alloc | apply pw_below_drewN | apply below_drew1) | exact HB.out)) hb); clear HB; have HB := n0_; clear n0_; (try clear hb); (try clear hb2); (try clear hk); (try clear hi)))
              go_ret
              exact ⟨by first | rfl | (simp [errW_none, errW_some] <;> rfl) | (simp [*, errW_none, errW_some] <;> rfl), by repeat (first | (with_reducible first | exact HB.out | apply below_alloc | apply pw_below_drewN | apply below_drew1) | exact HB.out)⟩
            · rw [if_neg c24] at H
              have c24b0 : (t162 == 11) = false := beq_eq_false_iff_ne.mpr c24
              have c24b1 : (t162 != 11) = true := bne_iff_ne.mpr c24
              exact absurd H (by simp)
        · rw [if_neg c17] at H
          have c17b0 : (t161 == 0) = false := beq_eq_false_iff_ne.mpr c17
          have c17b1 : (t161 != 0) = true := bne_iff_ne.mpr c17
          exact absurd H (by simp)
      · rw [if_neg c16] at H
        have c16b0 : (t160 == 0) = false := beq_eq_false_iff_ne.mpr c16
        have c16b1 : (t160 != 0) = true := bne_iff_ne.mpr c16
        exact absurd H (by simp)
    · replace c15 := Bool.eq_false_iff.mpr c15
      subst c15
      have H1 : (some false) = some true := by rw [if_neg (show ¬ (false = true) by decide)] at H; exact H
      clear H
      have H := H1
      clear H1
      exact absurd H (by simp)

/-- THE ONE PURE STATEMENT of careenlaw01_VarintForth: yours. -/
def careenlaw01_VarintForth.Pure : Prop := ∀ (a0 : ByteArray), a0.size ≤ 140737488351232 → ∃ k, careenlaw01_VarintForth.f k a0 = some true
theorem careenlaw01_VarintForth.walk (P : careenlaw01_VarintForth.Pure) (a0 : ByteArray) (w : World) (w0 : a0.size ≤ 140737488351232) :
    Calls Try.prog 5 #[.string a0] w fun e w' => e = .returned (.bool true) ∧ Below w.heap.size w w' := by
  obtain ⟨k, h⟩ := P a0 w0
  refine (careenlaw01_VarintForth.calls k a0 w h).mono ?_
  rintro e w' ⟨rfl, hd⟩
  exact ⟨rfl, hd⟩

/-! ### careenlaw01_VarintUnlike: function 6 -/
def careenlaw01_VarintUnlike.f (k : Nat) (a0 : Int) (a1 : Int) : Option (Bool) := (careenlaw01_awake.f k).bind fun t165 => ((careenlaw01_pick.f a0 9007199254740993).bind fun t166 => ((careenlaw01_pick.f a1 9007199254740993).bind fun t167 => ((careenlaw01_pick.f a0 9007199254740993).bind fun t168 => ((careenlaw01_pick.f a1 9007199254740993).bind fun t169 => ((varint_Put.f (mn t166 t167)).bind fun bt170 => ((varint_Put.f (mx t168 t169)).bind fun bt172 => (if t165 = true then (if bt170.2 = 0 then (if bt172.2 = 0 then (if ((bt170.1.toList == bt172.1.toList) == ((mn t166 t167) == (mx t168 t169))) = true then (if (bt170.1.size : Int) ≤ (bt172.1.size : Int) then (if (mn t166 t167) = (mx t168 t169) then (some true) else (if 0 ≤ (mn (bt170.1.size : Int) (bt172.1.size : Int)) then (if (mn (bt170.1.size : Int) (bt172.1.size : Int)) ≤ (bt172.1.size : Int) then (some ((bt172.1.extract 0 ((mn (bt170.1.size : Int) (bt172.1.size : Int)) : Int).toNat).toList != bt170.1.toList)) else (none)) else (none))) else (some false)) else (some false)) else (some false)) else (some false)) else (some false))))))))
theorem careenlaw01_VarintUnlike.mono : ∀ a0 a1 k, LeO (careenlaw01_VarintUnlike.f k a0 a1) (careenlaw01_VarintUnlike.f (k + 1) a0 a1) := by
  intro a0 a1 k
  unfold careenlaw01_VarintUnlike.f
  repeat' first
      | (with_reducible exact careenlaw01_awake.mono _)
      | (with_reducible exact LeO.refl _)
      | (with_reducible exact LeO.none _)
      | (with_reducible refine LeO.ite ?_ ?_)
      | (with_reducible refine LeO.bind ?_ (fun _ => ?_))
      | exact careenlaw01_awake.mono _
      | exact LeO.none _
      | refine LeO.ite ?_ ?_
      | refine LeO.bind ?_ (fun _ => ?_)
set_option maxHeartbeats 8000000 in
set_option maxRecDepth 100000 in
theorem careenlaw01_VarintUnlike.calls (k : Nat) (a0 : Int) (a1 : Int) (w : World) (h : careenlaw01_VarintUnlike.f k a0 a1 = some true) :
    Calls Try.prog 6 #[.int .i64 a0, .int .i64 a1] w fun e w' => e = .returned (.bool true) ∧ Below w.heap.size w w' := by
  have HB := Aside0.mk (Below.refl w.heap.size w)
  have H : ((careenlaw01_awake.f k).bind fun t165 => ((careenlaw01_pick.f a0 9007199254740993).bind fun t166 => ((careenlaw01_pick.f a1 9007199254740993).bind fun t167 => ((careenlaw01_pick.f a0 9007199254740993).bind fun t168 => ((careenlaw01_pick.f a1 9007199254740993).bind fun t169 => ((varint_Put.f (mn t166 t167)).bind fun bt170 => ((varint_Put.f (mx t168 t169)).bind fun bt172 => (if t165 = true then (if bt170.2 = 0 then (if bt172.2 = 0 then (if ((bt170.1.toList == bt172.1.toList) == ((mn t166 t167) == (mx t168 t169))) = true then (if (bt170.1.size : Int) ≤ (bt172.1.size : Int) then (if (mn t166 t167) = (mx t168 t169) then (some true) else (if 0 ≤ (mn (bt170.1.size : Int) (bt172.1.size : Int)) then (if (mn (bt170.1.size : Int) (bt172.1.size : Int)) ≤ (bt172.1.size : Int) then (some ((bt172.1.extract 0 ((mn (bt170.1.size : Int) (bt172.1.size : Int)) : Int).toNat).toList != bt170.1.toList)) else (none)) else (none))) else (some false)) else (some false)) else (some false)) else (some false)) else (some false))))))))) = some true := h
  clear h
  replace H := Option.bind_eq_some_iff.mp H
  obtain ⟨t165, A30, H⟩ := H
  replace H : ((careenlaw01_pick.f a0 9007199254740993).bind fun t166 => ((careenlaw01_pick.f a1 9007199254740993).bind fun t167 => ((careenlaw01_pick.f a0 9007199254740993).bind fun t168 => ((careenlaw01_pick.f a1 9007199254740993).bind fun t169 => ((varint_Put.f (mn t166 t167)).bind fun bt170 => ((varint_Put.f (mx t168 t169)).bind fun bt172 => (if t165 = true then (if bt170.2 = 0 then (if bt172.2 = 0 then (if ((bt170.1.toList == bt172.1.toList) == ((mn t166 t167) == (mx t168 t169))) = true then (if (bt170.1.size : Int) ≤ (bt172.1.size : Int) then (if (mn t166 t167) = (mx t168 t169) then (some true) else (if 0 ≤ (mn (bt170.1.size : Int) (bt172.1.size : Int)) then (if (mn (bt170.1.size : Int) (bt172.1.size : Int)) ≤ (bt172.1.size : Int) then (some ((bt172.1.extract 0 ((mn (bt170.1.size : Int) (bt172.1.size : Int)) : Int).toNat).toList != bt170.1.toList)) else (none)) else (none))) else (some false)) else (some false)) else (some false)) else (some false)) else (some false)))))))) = some true := H
  have A3 := Aside0.mk A30
  clear A30
  replace H := Option.bind_eq_some_iff.mp H
  obtain ⟨t166, A40, H⟩ := H
  replace H : ((careenlaw01_pick.f a1 9007199254740993).bind fun t167 => ((careenlaw01_pick.f a0 9007199254740993).bind fun t168 => ((careenlaw01_pick.f a1 9007199254740993).bind fun t169 => ((varint_Put.f (mn t166 t167)).bind fun bt170 => ((varint_Put.f (mx t168 t169)).bind fun bt172 => (if t165 = true then (if bt170.2 = 0 then (if bt172.2 = 0 then (if ((bt170.1.toList == bt172.1.toList) == ((mn t166 t167) == (mx t168 t169))) = true then (if (bt170.1.size : Int) ≤ (bt172.1.size : Int) then (if (mn t166 t167) = (mx t168 t169) then (some true) else (if 0 ≤ (mn (bt170.1.size : Int) (bt172.1.size : Int)) then (if (mn (bt170.1.size : Int) (bt172.1.size : Int)) ≤ (bt172.1.size : Int) then (some ((bt172.1.extract 0 ((mn (bt170.1.size : Int) (bt172.1.size : Int)) : Int).toNat).toList != bt170.1.toList)) else (none)) else (none))) else (some false)) else (some false)) else (some false)) else (some false)) else (some false))))))) = some true := H
  have A4 := Aside0.mk A40
  clear A40
  replace H := Option.bind_eq_some_iff.mp H
  obtain ⟨t167, A50, H⟩ := H
  replace H : ((careenlaw01_pick.f a0 9007199254740993).bind fun t168 => ((careenlaw01_pick.f a1 9007199254740993).bind fun t169 => ((varint_Put.f (mn t166 t167)).bind fun bt170 => ((varint_Put.f (mx t168 t169)).bind fun bt172 => (if t165 = true then (if bt170.2 = 0 then (if bt172.2 = 0 then (if ((bt170.1.toList == bt172.1.toList) == ((mn t166 t167) == (mx t168 t169))) = true then (if (bt170.1.size : Int) ≤ (bt172.1.size : Int) then (if (mn t166 t167) = (mx t168 t169) then (some true) else (if 0 ≤ (mn (bt170.1.size : Int) (bt172.1.size : Int)) then (if (mn (bt170.1.size : Int) (bt172.1.size : Int)) ≤ (bt172.1.size : Int) then (some ((bt172.1.extract 0 ((mn (bt170.1.size : Int) (bt172.1.size : Int)) : Int).toNat).toList != bt170.1.toList)) else (none)) else (none))) else (some false)) else (some false)) else (some false)) else (some false)) else (some false)))))) = some true := H
  have A5 := Aside0.mk A50
  clear A50
  obtain ⟨ji6, hji6⟩ : ∃ j_ : Int, (mn t166 t167) = j_ := ⟨_, rfl⟩
  replace H : ((careenlaw01_pick.f a0 9007199254740993).bind fun t168 => ((careenlaw01_pick.f a1 9007199254740993).bind fun t169 => ((varint_Put.f (ji6)).bind fun bt170 => ((varint_Put.f (mx t168 t169)).bind fun bt172 => (if t165 = true then (if bt170.2 = 0 then (if bt172.2 = 0 then (if ((bt170.1.toList == bt172.1.toList) == ((ji6) == (mx t168 t169))) = true then (if (bt170.1.size : Int) ≤ (bt172.1.size : Int) then (if (ji6) = (mx t168 t169) then (some true) else (if 0 ≤ (mn (bt170.1.size : Int) (bt172.1.size : Int)) then (if (mn (bt170.1.size : Int) (bt172.1.size : Int)) ≤ (bt172.1.size : Int) then (some ((bt172.1.extract 0 ((mn (bt170.1.size : Int) (bt172.1.size : Int)) : Int).toNat).toList != bt170.1.toList)) else (none)) else (none))) else (some false)) else (some false)) else (some false)) else (some false)) else (some false)))))) = some true := by first | (rw [hji6] at H; exact H) | (simp only [hji6] at H ⊢; exact H)
  (try rw [hji6] at A3)
  (try rw [hji6] at A4)
  (try rw [hji6] at A5)
  have hji6_ : (if t167 < t166 then t167 else t166) = ji6 := hji6
  replace H := Option.bind_eq_some_iff.mp H
  obtain ⟨t168, A70, H⟩ := H
  replace H : ((careenlaw01_pick.f a1 9007199254740993).bind fun t169 => ((varint_Put.f (ji6)).bind fun bt170 => ((varint_Put.f (mx t168 t169)).bind fun bt172 => (if t165 = true then (if bt170.2 = 0 then (if bt172.2 = 0 then (if ((bt170.1.toList == bt172.1.toList) == ((ji6) == (mx t168 t169))) = true then (if (bt170.1.size : Int) ≤ (bt172.1.size : Int) then (if (ji6) = (mx t168 t169) then (some true) else (if 0 ≤ (mn (bt170.1.size : Int) (bt172.1.size : Int)) then (if (mn (bt170.1.size : Int) (bt172.1.size : Int)) ≤ (bt172.1.size : Int) then (some ((bt172.1.extract 0 ((mn (bt170.1.size : Int) (bt172.1.size : Int)) : Int).toNat).toList != bt170.1.toList)) else (none)) else (none))) else (some false)) else (some false)) else (some false)) else (some false)) else (some false))))) = some true := H
  have A7 := Aside0.mk A70
  clear A70
  obtain rfl : t166 = t168 := Option.some.inj (A4.out.symm.trans A7.out)
  replace H := Option.bind_eq_some_iff.mp H
  obtain ⟨t169, A80, H⟩ := H
  replace H : ((varint_Put.f (ji6)).bind fun bt170 => ((varint_Put.f (mx t166 t169)).bind fun bt172 => (if t165 = true then (if bt170.2 = 0 then (if bt172.2 = 0 then (if ((bt170.1.toList == bt172.1.toList) == ((ji6) == (mx t166 t169))) = true then (if (bt170.1.size : Int) ≤ (bt172.1.size : Int) then (if (ji6) = (mx t166 t169) then (some true) else (if 0 ≤ (mn (bt170.1.size : Int) (bt172.1.size : Int)) then (if (mn (bt170.1.size : Int) (bt172.1.size : Int)) ≤ (bt172.1.size : Int) then (some ((bt172.1.extract 0 ((mn (bt170.1.size : Int) (bt172.1.size : Int)) : Int).toNat).toList != bt170.1.toList)) else (none)) else (none))) else (some false)) else (some false)) else (some false)) else (some false)) else (some false)))) = some true := H
  have A8 := Aside0.mk A80
  clear A80
  obtain rfl : t167 = t169 := Option.some.inj (A5.out.symm.trans A8.out)
  obtain ⟨ji9, hji9⟩ : ∃ j_ : Int, (mx t166 t167) = j_ := ⟨_, rfl⟩
  replace H : ((varint_Put.f (ji6)).bind fun bt170 => ((varint_Put.f (ji9)).bind fun bt172 => (if t165 = true then (if bt170.2 = 0 then (if bt172.2 = 0 then (if ((bt170.1.toList == bt172.1.toList) == ((ji6) == (ji9))) = true then (if (bt170.1.size : Int) ≤ (bt172.1.size : Int) then (if (ji6) = (ji9) then (some true) else (if 0 ≤ (mn (bt170.1.size : Int) (bt172.1.size : Int)) then (if (mn (bt170.1.size : Int) (bt172.1.size : Int)) ≤ (bt172.1.size : Int) then (some ((bt172.1.extract 0 ((mn (bt170.1.size : Int) (bt172.1.size : Int)) : Int).toNat).toList != bt170.1.toList)) else (none)) else (none))) else (some false)) else (some false)) else (some false)) else (some false)) else (some false)))) = some true := by first | (rw [hji9] at H; exact H) | (simp only [hji9] at H ⊢; exact H)
  (try rw [hji9] at A3)
  (try rw [hji9] at A4)
  (try rw [hji9] at A5)
  (try rw [hji9] at A7)
  (try rw [hji9] at A8)
  have hji9_ : (if t166 < t167 then t167 else t166) = ji9 := hji9
  replace H := Option.bind_eq_some_iff.mp H
  obtain ⟨⟨t170, t171⟩, A100, H⟩ := H
  replace H : ((varint_Put.f (ji9)).bind fun bt172 => (if t165 = true then (if t171 = 0 then (if bt172.2 = 0 then (if ((t170.toList == bt172.1.toList) == ((ji6) == (ji9))) = true then (if (t170.size : Int) ≤ (bt172.1.size : Int) then (if (ji6) = (ji9) then (some true) else (if 0 ≤ (mn (t170.size : Int) (bt172.1.size : Int)) then (if (mn (t170.size : Int) (bt172.1.size : Int)) ≤ (bt172.1.size : Int) then (some ((bt172.1.extract 0 ((mn (t170.size : Int) (bt172.1.size : Int)) : Int).toNat).toList != t170.toList)) else (none)) else (none))) else (some false)) else (some false)) else (some false)) else (some false)) else (some false))) = some true := H
  have A10 := Aside0.mk A100
  clear A100
  replace H := Option.bind_eq_some_iff.mp H
  obtain ⟨⟨t172, t173⟩, A110, H⟩ := H
  replace H : (if t165 = true then (if t171 = 0 then (if t173 = 0 then (if ((t170.toList == t172.toList) == ((ji6) == (ji9))) = true then (if (t170.size : Int) ≤ (t172.size : Int) then (if (ji6) = (ji9) then (some true) else (if 0 ≤ (mn (t170.size : Int) (t172.size : Int)) then (if (mn (t170.size : Int) (t172.size : Int)) ≤ (t172.size : Int) then (some ((t172.extract 0 ((mn (t170.size : Int) (t172.size : Int)) : Int).toNat).toList != t170.toList)) else (none)) else (none))) else (some false)) else (some false)) else (some false)) else (some false)) else (some false)) = some true := H
  have A11 := Aside0.mk A110
  clear A110
  by_cases c12 : t165 = true
  · subst c12
    have H1 : (if t171 = 0 then (if t173 = 0 then (if ((t170.toList == t172.toList) == ((ji6) == (ji9))) = true then (if (t170.size : Int) ≤ (t172.size : Int) then (if (ji6) = (ji9) then (some true) else (if 0 ≤ (mn (t170.size : Int) (t172.size : Int)) then (if (mn (t170.size : Int) (t172.size : Int)) ≤ (t172.size : Int) then (some ((t172.extract 0 ((mn (t170.size : Int) (t172.size : Int)) : Int).toNat).toList != t170.toList)) else (none)) else (none))) else (some false)) else (some false)) else (some false)) else (some false)) = some true := by rw [if_pos rfl] at H; exact H
    clear H
    have H := H1
    clear H1
    by_cases c13 : t171 = 0
    · rw [if_pos c13] at H
      have c13b0 : (t171 == 0) = true := beq_iff_eq.mpr c13
      have c13b1 : (t171 != 0) = false := bne_eq_false_iff_eq.mpr c13
      clear c13
      by_cases c14 : t173 = 0
      · rw [if_pos c14] at H
        have c14b0 : (t173 == 0) = true := beq_iff_eq.mpr c14
        have c14b1 : (t173 != 0) = false := bne_eq_false_iff_eq.mpr c14
        clear c14
        by_cases c15 : ((t170.toList == t172.toList) == ((ji6) == (ji9))) = true
        · rw [if_pos c15] at H
          have c15b0 : ((t170.toList == t172.toList) == ((ji6) == (ji9))) = true := c15
          (try (have c15b1 : decide ((t170.toList == t172.toList) = ((ji6) == (ji9))) = true := by simpa using c15))
          (try (have c15b2 : ((t170.toList == t172.toList) == ((ji6) == (ji9))) = true := by simpa using c15))
          clear c15
          by_cases c16 : (t170.size : Int) ≤ (t172.size : Int)
          · rw [if_pos c16] at H
            have c16b0 : decide ((t170.size : Int) ≤ (t172.size : Int)) = true := decide_eq_true c16
            have c16b1 : decide (t170.size ≤ t172.size) = true := decide_eq_true (Int.ofNat_le.mp c16)
            clear c16
            by_cases c17 : (ji6) = (ji9)
            · rw [if_pos c17] at H
              have c17b0 : ((ji6) == (ji9)) = true := beq_iff_eq.mpr c17
              have zz : (t170.toList == t172.toList) = true := by have z := c15b0; rw [c17b0] at z; simpa using z
              (try (have zz1 : ¬ t170.toList = t172.toList := by simpa using zz))
              (try (have zz2 : t170.toList = t172.toList := by simpa using zz))
              have c17b1 : ((ji6) != (ji9)) = false := bne_eq_false_iff_eq.mpr c17
              clear c17
              clear H
              go_enter Try.func6, Try.ntmps6
              go_wp2_with (first | ((with_reducible refine gate_callee (f := 9) rfl ?_); refine goesL_ (some 12) rfl rfl Try.func9 (by kernel_rfl) rfl #[] rfl (by (try simp only [List.map_toArray, List.map_cons, List.map_nil]); first | done | rfl | (simp only [List.length_drop, List.length_take]; rfl)) ?_; (with_reducible refine (careenlaw01_awake.calls k  true _ A3.out).mono ?_); rintro e w18 ⟨rfl, hb⟩; refine ⟨_, rfl, ?_⟩; have n0_ := Aside0.mk (below_step (by repeat (first | (with_reducible first | exact HB.out | apply below_alloc | apply pw_below_drewN | apply below_drew1) | exact HB.out)) hb); clear HB; have HB := n0_; clear n0_; (try clear hb); (try clear hb2); (try clear hk); (try clear hi)) | ((with_reducible refine gate_callee (f := 10) rfl ?_); refine goesL_ (some 14) rfl rfl Try.func10 (by kernel_rfl) rfl #[.int .i64 a0, .int .i64 9007199254740993] rfl (by (try simp only [List.map_toArray, List.map_cons, List.map_nil]); first | done | rfl | (simp only [List.length_drop, List.length_take]; rfl)) ?_; (with_reducible refine (careenlaw01_pick.calls a0 9007199254740993 t166 _ A4.out).mono ?_); rintro e w' ⟨rfl, ⟨nd, rfl⟩⟩; refine ⟨_, rfl, ?_⟩) | ((with_reducible refine gate_callee (f := 10) rfl ?_); refine goesL_ (some 16) rfl rfl Try.func10 (by kernel_rfl) rfl #[.int .i64 a1, .int .i64 9007199254740993] rfl (by (try simp only [List.map_toArray, List.map_cons, List.map_nil]); first | done | rfl | (simp only [List.length_drop, List.length_take]; rfl)) ?_; (with_reducible refine (careenlaw01_pick.calls a1 9007199254740993 t167 _ A5.out).mono ?_); rintro e w' ⟨rfl, ⟨nd, rfl⟩⟩; refine ⟨_, rfl, ?_⟩) | ((with_reducible refine gate_callee (f := 10) rfl ?_); refine goesL_ (some 19) rfl rfl Try.func10 (by kernel_rfl) rfl #[.int .i64 a0, .int .i64 9007199254740993] rfl (by (try simp only [List.map_toArray, List.map_cons, List.map_nil]); first | done | rfl | (simp only [List.length_drop, List.length_take]; rfl)) ?_; (with_reducible refine (careenlaw01_pick.calls a0 9007199254740993 t166 _ A7.out).mono ?_); rintro e w' ⟨rfl, ⟨nd, rfl⟩⟩; refine ⟨_, rfl, ?_⟩) | ((with_reducible refine gate_callee (f := 10) rfl ?_); refine goesL_ (some 21) rfl rfl Try.func10 (by kernel_rfl) rfl #[.int .i64 a1, .int .i64 9007199254740993] rfl (by (try simp only [List.map_toArray, List.map_cons, List.map_nil]); first | done | rfl | (simp only [List.length_drop, List.length_take]; rfl)) ?_; (with_reducible refine (careenlaw01_pick.calls a1 9007199254740993 t167 _ A8.out).mono ?_); rintro e w' ⟨rfl, ⟨nd, rfl⟩⟩; refine ⟨_, rfl, ?_⟩) | ((with_reducible refine gate_callee (f := 11) rfl ?_); refine goesL_ (some 25) rfl rfl Try.func11 (by kernel_rfl) rfl #[.int .i64 ji6] rfl (by (try simp only [List.map_toArray, List.map_cons, List.map_nil]); first | done | (simp only [hji6]; rfl) | rfl | (simp only [List.length_drop, List.length_take]; rfl)) ?_; (with_reducible refine (varint_Put.calls ji6 t170 t171 _ A10.out).mono ?_); rintro e w19 ⟨rfl, hb⟩; refine ⟨_, rfl, ?_⟩; have n0_ := Aside0.mk (below_step (by repeat (first | (with_reducible first | exact HB.out | apply below_alloc | apply pw_below_drewN | apply below_drew1) | exact HB.out)) hb); clear HB; have HB := n0_; clear n0_; (try clear hb); (try clear hb2); (try clear hk); (try clear hi)) | ((with_reducible refine gate_callee (f := 11) rfl ?_); refine goesL_ (some 30) rfl rfl Try.func11 (by kernel_rfl) rfl #[.int .i64 ji9] rfl (by (try simp only [List.map_toArray, List.map_cons, List.map_nil]); first | done | (simp only [hji9]; rfl) | rfl | (simp only [List.length_drop, List.length_take]; rfl)) ?_; (with_reducible refine (varint_Put.calls ji9 t172 t173 _ A11.out).mono ?_); rintro e w20 ⟨rfl, hb⟩; refine ⟨_, rfl, ?_⟩; have n0_ := Aside0.mk (below_step (by repeat (first | (with_reducible first | exact HB.out | apply below_alloc | apply pw_below_drewN | apply below_drew1) | exact HB.out)) hb); clear HB; have HB := n0_; clear n0_; (try clear hb); (try clear hb2); (try clear hk); (try clear hi)))
              go_ret
              exact ⟨by first | rfl | (simp [errW_none, errW_some] <;> rfl) | (simp only [← hji6, ← hji9]; first | rfl | (simp [errW_none, errW_some] <;> rfl)) | (simp [*, errW_none, errW_some] <;> rfl), by repeat (first | (with_reducible first | exact HB.out | apply below_alloc | apply pw_below_drewN | apply below_drew1) | exact HB.out)⟩
            · rw [if_neg c17] at H
              have c17b0 : ((ji6) == (ji9)) = false := beq_eq_false_iff_ne.mpr c17
              have zz : (t170.toList == t172.toList) = false := by have z := c15b0; rw [c17b0] at z; simpa using z
              (try (have zz1 : ¬ t170.toList = t172.toList := by simpa using zz))
              (try (have zz2 : t170.toList = t172.toList := by simpa using zz))
              have c17b1 : ((ji6) != (ji9)) = true := bne_iff_ne.mpr c17
              obtain ⟨ji21, hji21⟩ : ∃ j_ : Int, (mn (t170.size : Int) (t172.size : Int)) = j_ := ⟨_, rfl⟩
              replace H : (if 0 ≤ (ji21) then (if (ji21) ≤ (t172.size : Int) then (some ((t172.extract 0 ((ji21) : Int).toNat).toList != t170.toList)) else (none)) else (none)) = some true := by first | (rw [hji21] at H; exact H) | (simp only [hji21] at H ⊢; exact H)
              (try rw [hji21] at A3)
              (try rw [hji21] at A4)
              (try rw [hji21] at A5)
              (try rw [hji21] at A7)
              (try rw [hji21] at A8)
              (try rw [hji21] at A10)
              (try rw [hji21] at A11)
              (try (have hji21l : 0 ≤ ji21 := by (rw [← hji21]; unfold mn; (repeat' split) <;> omega)))
              (try (have hji21m : 0 ≤ ji21 := by omega))
              have hji21_ : (if (t172.size : Int) < (t170.size : Int) then (t172.size : Int) else (t170.size : Int)) = ji21 := hji21
              by_cases c22 : 0 ≤ (ji21)
              · rw [if_pos c22] at H
                have c22M : max ji21 0 = ji21 := Int.max_eq_left c22
                have c22b0 := eq_true c22
                have c22b1 : decide (0 ≤ (ji21)) = true := decide_eq_true c22
                clear c22
                by_cases c23 : (ji21) ≤ (t172.size : Int)
                · rw [if_pos c23] at H
                  have c23b0 := eq_true c23
                  have c23b1 : decide ((ji21) ≤ (t172.size : Int)) = true := decide_eq_true c23
                  clear c23
                  have HV_ := Aside0.mk (Option.some.inj H)
                  have hz0 := of_decide_eq_true c16b0
                  have hz : ji21 = (t170.size : Int) := by rw [← hji21]; unfold mn; rw [if_neg (by omega)]
                  have hz1 : ¬ t172.size < t170.size := by omega
                  have hz2 : ¬ (t172.size : Int) < (t170.size : Int) := by omega
                  have HV2_ := HV_.out
                  rw [hz, Int.toNat_natCast] at HV2_
                  clear HV_
                  have HV_ := Aside0.mk HV2_
                  clear HV2_ hz0
                  clear H
                  go_enter Try.func6, Try.ntmps6
                  go_wp2_with (first | ((with_reducible refine gate_callee (f := 9) rfl ?_); refine goesL_ (some 12) rfl rfl Try.func9 (by kernel_rfl) rfl #[] rfl (by (try simp only [List.map_toArray, List.map_cons, List.map_nil]); first | done | rfl | (simp only [List.length_drop, List.length_take]; rfl)) ?_; (with_reducible refine (careenlaw01_awake.calls k  true _ A3.out).mono ?_); rintro e w24 ⟨rfl, hb⟩; refine ⟨_, rfl, ?_⟩; have n0_ := Aside0.mk (below_step (by repeat (first | (with_reducible first | exact HB.out | apply below_alloc | apply pw_below_drewN | apply below_drew1) | exact HB.out)) hb); clear HB; have HB := n0_; clear n0_; (try clear hb); (try clear hb2); (try clear hk); (try clear hi)) | ((with_reducible refine gate_callee (f := 10) rfl ?_); refine goesL_ (some 14) rfl rfl Try.func10 (by kernel_rfl) rfl #[.int .i64 a0, .int .i64 9007199254740993] rfl (by (try simp only [List.map_toArray, List.map_cons, List.map_nil]); first | done | rfl | (simp only [List.length_drop, List.length_take]; rfl)) ?_; (with_reducible refine (careenlaw01_pick.calls a0 9007199254740993 t166 _ A4.out).mono ?_); rintro e w' ⟨rfl, ⟨nd, rfl⟩⟩; refine ⟨_, rfl, ?_⟩) | ((with_reducible refine gate_callee (f := 10) rfl ?_); refine goesL_ (some 16) rfl rfl Try.func10 (by kernel_rfl) rfl #[.int .i64 a1, .int .i64 9007199254740993] rfl (by (try simp only [List.map_toArray, List.map_cons, List.map_nil]); first | done | rfl | (simp only [List.length_drop, List.length_take]; rfl)) ?_; (with_reducible refine (careenlaw01_pick.calls a1 9007199254740993 t167 _ A5.out).mono ?_); rintro e w' ⟨rfl, ⟨nd, rfl⟩⟩; refine ⟨_, rfl, ?_⟩) | ((with_reducible refine gate_callee (f := 10) rfl ?_); refine goesL_ (some 19) rfl rfl Try.func10 (by kernel_rfl) rfl #[.int .i64 a0, .int .i64 9007199254740993] rfl (by (try simp only [List.map_toArray, List.map_cons, List.map_nil]); first | done | rfl | (simp only [List.length_drop, List.length_take]; rfl)) ?_; (with_reducible refine (careenlaw01_pick.calls a0 9007199254740993 t166 _ A7.out).mono ?_); rintro e w' ⟨rfl, ⟨nd, rfl⟩⟩; refine ⟨_, rfl, ?_⟩) | ((with_reducible refine gate_callee (f := 10) rfl ?_); refine goesL_ (some 21) rfl rfl Try.func10 (by kernel_rfl) rfl #[.int .i64 a1, .int .i64 9007199254740993] rfl (by (try simp only [List.map_toArray, List.map_cons, List.map_nil]); first | done | rfl | (simp only [List.length_drop, List.length_take]; rfl)) ?_; (with_reducible refine (careenlaw01_pick.calls a1 9007199254740993 t167 _ A8.out).mono ?_); rintro e w' ⟨rfl, ⟨nd, rfl⟩⟩; refine ⟨_, rfl, ?_⟩) | ((with_reducible refine gate_callee (f := 11) rfl ?_); refine goesL_ (some 25) rfl rfl Try.func11 (by kernel_rfl) rfl #[.int .i64 ji6] rfl (by (try simp only [List.map_toArray, List.map_cons, List.map_nil]); first | done | (simp only [hji6]; rfl) | rfl | (simp only [List.length_drop, List.length_take]; rfl)) ?_; (with_reducible refine (varint_Put.calls ji6 t170 t171 _ A10.out).mono ?_); rintro e w25 ⟨rfl, hb⟩; refine ⟨_, rfl, ?_⟩; have n0_ := Aside0.mk (below_step (by repeat (first | (with_reducible first | exact HB.out | apply below_alloc | apply pw_below_drewN | apply below_drew1) | exact HB.out)) hb); clear HB; have HB := n0_; clear n0_; (try clear hb); (try clear hb2); (try clear hk); (try clear hi)) | ((with_reducible refine gate_callee (f := 11) rfl ?_); refine goesL_ (some 30) rfl rfl Try.func11 (by kernel_rfl) rfl #[.int .i64 ji9] rfl (by (try simp only [List.map_toArray, List.map_cons, List.map_nil]); first | done | (simp only [hji9]; rfl) | rfl | (simp only [List.length_drop, List.length_take]; rfl)) ?_; (with_reducible refine (varint_Put.calls ji9 t172 t173 _ A11.out).mono ?_); rintro e w26 ⟨rfl, hb⟩; refine ⟨_, rfl, ?_⟩; have n0_ := Aside0.mk (below_step (by repeat (first | (with_reducible first | exact HB.out | apply below_alloc | apply pw_below_drewN | apply below_drew1) | exact HB.out)) hb); clear HB; have HB := n0_; clear n0_; (try clear hb); (try clear hb2); (try clear hk); (try clear hi)))
                  go_ret
                  exact ⟨by first | exact congrArg (fun b_ => Ending.returned (Value.bool b_)) HV_.out | (have hv_ := HV_.out; simp only [Bool.and_eq_true, beq_iff_eq] at hv_; simp [hv_]; done) | (have hv_ := HV_.out; simp at hv_; simp [*]; done) | rfl | (simp [errW_none, errW_some] <;> rfl) | (simp only [← hji6, ← hji9, ← hji21]; first | rfl | (simp [errW_none, errW_some] <;> rfl)) | (simp [*, errW_none, errW_some] <;> rfl), by repeat (first | (with_reducible first | exact HB.out | apply below_alloc | apply pw_below_drewN | apply below_drew1) | exact HB.out)⟩
                · rw [if_neg c23] at H
                  exact absurd H (by simp)
              · rw [if_neg c22] at H
                exact absurd H (by simp)
          · rw [if_neg c16] at H
            have c16b0 : decide ((t170.size : Int) ≤ (t172.size : Int)) = false := decide_eq_false c16
            have c16b1 : decide (t170.size ≤ t172.size) = false := decide_eq_false (fun h => c16 (Int.ofNat_le.mpr h))
            clear c16
            exact absurd H (by simp)
        · rw [if_neg c15] at H
          have c15b0 : ((t170.toList == t172.toList) == ((ji6) == (ji9))) = false := by simpa using c15
          (try (have c15b1 : decide ((t170.toList == t172.toList) = ((ji6) == (ji9))) = false := by simpa using c15))
          (try (have c15b2 : ((t170.toList == t172.toList) == ((ji6) == (ji9))) = false := by simpa using c15))
          (try (have c15b3 : ¬ ((t170.toList == t172.toList) = ((ji6) == (ji9))) := by simpa using c15))
          clear c15
          exact absurd H (by simp)
      · rw [if_neg c14] at H
        have c14b0 : (t173 == 0) = false := beq_eq_false_iff_ne.mpr c14
        have c14b1 : (t173 != 0) = true := bne_iff_ne.mpr c14
        exact absurd H (by simp)
    · rw [if_neg c13] at H
      have c13b0 : (t171 == 0) = false := beq_eq_false_iff_ne.mpr c13
      have c13b1 : (t171 != 0) = true := bne_iff_ne.mpr c13
      exact absurd H (by simp)
  · replace c12 := Bool.eq_false_iff.mpr c12
    subst c12
    have H1 : (some false) = some true := by rw [if_neg (show ¬ (false = true) by decide)] at H; exact H
    clear H
    have H := H1
    clear H1
    exact absurd H (by simp)

/-- THE ONE PURE STATEMENT of careenlaw01_VarintUnlike: yours. -/
def careenlaw01_VarintUnlike.Pure : Prop := ∀ (a0 : Int) (a1 : Int), (Lit.int .i64 a0).wf = true → (Lit.int .i64 a1).wf = true → ∃ k, careenlaw01_VarintUnlike.f k a0 a1 = some true
theorem careenlaw01_VarintUnlike.walk (P : careenlaw01_VarintUnlike.Pure) (a0 : Int) (a1 : Int) (w : World) (w0 : (Lit.int .i64 a0).wf = true) (w1 : (Lit.int .i64 a1).wf = true) :
    Calls Try.prog 6 #[.int .i64 a0, .int .i64 a1] w fun e w' => e = .returned (.bool true) ∧ Below w.heap.size w w' := by
  obtain ⟨k, h⟩ := P a0 a1 w0 w1
  refine (careenlaw01_VarintUnlike.calls k a0 a1 w h).mono ?_
  rintro e w' ⟨rfl, hd⟩
  exact ⟨rfl, hd⟩

end Go.Proofs.Ytdoehfppncgieaa.PAll
