-- Written by a program of this session (wip/xpatch.py, wip/xprint.sh) for seat Ytmicfaeloanffaa.
import Derived.Test.YtmicfaeloanffaaPAllx0
import Derived.Test.YtmicfaeloanffaaPAllx3
import Derived.Test.YtmicfaeloanffaaPAllx5
import Derived.Test.YtmicfaeloanffaaPAllx6
import Derived.Test.YtmicfaeloanffaaPAllx7
import Derived.Test.YtmicfaeloanffaaPFrx
import Derived.Test.YtmicfaeloanffaaPAllx9
namespace Go.Proofs.Ytmicfaeloanffaa.PAll
attribute [local go_sem high] Go.Proofs.Ytmicfaeloanffaa.Hand.unary_xor_u32
open Go.RowKit Go.Proofs.YtmicfaeloanffaaW.PrintWords Go.Proofs.YtmicfaeloanffaaW.PrintLast Go.Proofs.YtmicfaeloanffaaW.PrintMore
attribute [local go_sem] max2_int min2_int max_two min_two max_three min_three max_four min_four   -- for this text's walks alone
set_option linter.unusedVariables false
set_option linter.unusedSimpArgs false

/-! ### careenlaw06_bytes: function 21 -/
def careenlaw06_bytes.l0 : Nat → Int → List (S23) → ByteArray → Int → Option (ByteArray × Bool)
  | 0, _, _, _, _ => none
  | k + 1, x0, x1, x6, x7 => if x7 < (x1.length : Int) then (if 0 ≤ x7 then ((frame_Encode.f x0 ((rd_T23 x1 x7).f0) ((rd_T23 x1 x7).f1) ((rd_T23 x1 x7).f2)).bind fun bt247 => (if bt247.2 = 0 then (if x6.size + bt247.1.size ≤ 9223372036854775807 then (careenlaw06_bytes.l0 k x0 x1 (x6 ++ bt247.1) (wrap64 (x7 + 1))) else (none)) else (some ((⟨#[]⟩ : ByteArray), false)))) else (none)) else (some (x6, true))
def careenlaw06_bytes.f (k : Nat) (a0 : Int) (l1 : List (S23)) : Option (ByteArray × Bool) := careenlaw06_bytes.l0 k a0 l1 (⟨#[]⟩ : ByteArray) 0
theorem careenlaw06_bytes.mono_l : ∀ k, (∀ y0 y1 y2 y3, LeO (careenlaw06_bytes.l0 k y0 y1 y2 y3) (careenlaw06_bytes.l0 (k + 1) y0 y1 y2 y3))
  | 0 => (fun _ _ _ _ r h => by cases (show (none : Option _) = some r from h))
  | k + 1 => by
    have ih0 := careenlaw06_bytes.mono_l k
    · intro y0 y1 y2 y3
      unfold careenlaw06_bytes.l0
      repeat' first
      | (with_reducible exact ih0 _ _ _ _)
      | (with_reducible exact LeO.refl _)
      | (with_reducible exact LeO.none _)
      | (with_reducible refine LeO.ite ?_ ?_)
      | (with_reducible refine LeO.bind ?_ (fun _ => ?_))
      | exact ih0 _ _ _ _
      | exact LeO.none _
      | refine LeO.ite ?_ ?_
      | refine LeO.bind ?_ (fun _ => ?_)
theorem careenlaw06_bytes.mono : ∀ a0 a1 k, LeO (careenlaw06_bytes.f k a0 a1) (careenlaw06_bytes.f (k + 1) a0 a1) := by
  intro a0 a1 k
  have ih0 := careenlaw06_bytes.mono_l k
  unfold careenlaw06_bytes.f
  repeat' first
      | (with_reducible exact ih0 _ _ _ _)
      | (with_reducible exact LeO.refl _)
      | (with_reducible exact LeO.none _)
      | (with_reducible refine LeO.ite ?_ ?_)
      | (with_reducible refine LeO.bind ?_ (fun _ => ?_))
      | exact ih0 _ _ _ _
      | exact LeO.none _
      | refine LeO.ite ?_ ?_
      | refine LeO.bind ?_ (fun _ => ?_)
set_option maxHeartbeats 8000000 in
set_option maxRecDepth 100000 in
theorem careenlaw06_bytes.calls (k : Nat) (a0 : Int) (A1 : Option Addr) (c1 : Nat) (l1 : List (S23)) (r1 : ByteArray) (r2 : Bool) (w : World) (hr1 : Kd.C k23 w A1 l1.length l1) (hc1 : l1.length ≤ c1) (h : careenlaw06_bytes.f k a0 l1 = some (r1, r2)) :
    Calls Try.prog 21 #[.int .i64 a0, .slice A1 l1.length c1] w fun e w' => e = .returned (.tuple #[.string r1, .bool r2]) ∧ Below w.heap.size w w' := by
  have hu23 := Try.underlying23
  have HR1 := Aside0.mk hr1
  have HC1 := Aside0.mk hc1
  clear hr1 hc1
  have HB := Aside0.mk (Below.refl w.heap.size w)
  have H : (careenlaw06_bytes.l0 k a0 l1 (⟨#[]⟩ : ByteArray) 0) = some (r1, r2) := h
  clear h
  have H' := Aside0.mk H
  clear H
  go_enter Try.func21, Try.ntmps21
  go_wp2
  go_loopg [6, 7] k (fun kq v6 v7 w' => ∃ (x6_1 : ByteArray) (x7_1 : Int), v6 = .string x6_1 ∧ v7 = .int .i64 x7_1 ∧ Aside0 (careenlaw06_bytes.l0 kq a0 l1 x6_1 x7_1 = some (r1, r2)) ∧ Aside0 (kq ≤ k) ∧ Aside0 (Below w.heap.size w w'))
  case atStart => exact ⟨((⟨#[]⟩ : ByteArray)), (0), (by first | rfl | (simp; done) | (simp [*]; done)), (by first | rfl | (simp; done) | (simp [*]; done)), H', ⟨Nat.le_refl _⟩, ⟨by repeat (first | (with_reducible first | exact HB.out | apply below_alloc | apply pw_below_drewN | apply below_drew1) | exact HB.out)⟩⟩
  case round =>
    clear H'
    try clear c1
    try clear c2
    try clear p2
    obtain ⟨x6_1, x7_1, rfl, rfl, HA, HK1, HB⟩ := hrel
    cases gk with
    | zero => cases (show (none : Option _) = some _ from HA.out)
    | succ k1 =>
      have H := HA.out
      clear HA
      simp only [careenlaw06_bytes.l0] at H
      by_cases c3 : x7_1 < (l1.length : Int)
      · rw [if_pos c3] at H
        have c3b0 : decide (x7_1 < (l1.length : Int)) = true := decide_eq_true c3
        clear c3
        by_cases c4 : 0 ≤ x7_1
        · rw [if_pos c4] at H
          have c4b0 : decide (0 ≤ x7_1) = true := decide_eq_true c4
          clear c4
          replace H := Option.bind_eq_some_iff.mp H
          obtain ⟨⟨t247, t248⟩, A50, H⟩ := H
          replace H : (if t248 = 0 then (if x6_1.size + t247.size ≤ 9223372036854775807 then (careenlaw06_bytes.l0 k1 a0 l1 (x6_1 ++ t247) (wrap64 (x7_1 + 1))) else (none)) else (some ((⟨#[]⟩ : ByteArray), false))) = some (r1, r2) := H
          have A5 := Aside0.mk A50
          clear A50
          by_cases c6 : t248 = 0
          · rw [if_pos c6] at H
            have c6b0 : (t248 == 0) = true := beq_iff_eq.mpr c6
            have c6b1 : (t248 != 0) = false := bne_eq_false_iff_eq.mpr c6
            clear c6
            by_cases c7 : x6_1.size + t247.size ≤ 9223372036854775807
            · rw [if_pos c7] at H
              have c7b0 := eq_true c7
              have c7b1 : decide (x6_1.size + t247.size ≤ 9223372036854775807) = true := decide_eq_true c7
              try have c7b2 : (9223372036854775807 < x6_1.size + t247.size) = False := eq_false (Nat.not_lt.2 c7)
              have H' := Aside0.mk H
              clear H
              have p246 : 0 ≤ (x7_1 : Int) := of_decide_eq_true (by first | (with_reducible assumption) | assumption)
              have q246 : x7_1 < (l1.length : Int) := of_decide_eq_true (by first | (with_reducible assumption) | assumption)
              obtain ⟨ad246, e246, hx246_0, hx246_1, hx246_2⟩ := at_T23 HR1.out x7_1 p246 q246
              cases e246
              replace hx246_0 := (HB.out.cell (World.block_lt_of_cell? w _ hx246_0)).trans hx246_0
              replace hx246_1 := (HB.out.cell (World.block_lt_of_cell? w _ hx246_1)).trans hx246_1
              replace hx246_2 := (HB.out.cell (World.block_lt_of_cell? w _ hx246_2)).trans hx246_2
              replace p246 := eq_true p246
              replace q246 := eq_true q246
              go_wp2_with (first | ((with_reducible refine gate_callee (f := 12) rfl ?_); refine goesL_ (some 22) rfl rfl Try.func12 (by kernel_rfl) rfl #[.int .i64 a0, .agg #[.int .i64 ((rd_T23 l1 x7_1).f0), .int .i64 ((rd_T23 l1 x7_1).f1), .string ((rd_T23 l1 x7_1).f2)]] rfl (by (try simp only [List.map_toArray, List.map_cons, List.map_nil]); first | done | rfl | (simp only [List.length_drop, List.length_take]; rfl)) ?_; (with_reducible refine (frame_Encode.calls a0 ((rd_T23 l1 x7_1).f0) ((rd_T23 l1 x7_1).f1) ((rd_T23 l1 x7_1).f2) t247 t248 _ A5.out).mono ?_); rintro e w8 ⟨rfl, hb⟩; refine ⟨_, rfl, ?_⟩; have n0_ := Aside0.mk (below_step (by repeat (first | (with_reducible first | exact HB.out | apply below_alloc | apply pw_below_drewN | apply below_drew1) | exact HB.out)) hb); clear HB; have HB := n0_; clear n0_; (try clear hb); (try clear hb2); (try clear hk); (try clear hi)))
              go_roundg k1
              case measure => have := HK1.out; omega
              case rel => exact ⟨(x6_1 ++ t247), (wrap64 (x7_1 + 1)), (by first | rfl | (simp; done) | (simp [*]; done)), (by first | rfl | (simp; done) | (simp [*]; done)), H', ⟨by have := HK1.out; omega⟩, ⟨by repeat (first | (with_reducible first | exact HB.out | apply below_alloc | apply pw_below_drewN | apply below_drew1) | exact HB.out)⟩⟩
            · rw [if_neg c7] at H
              exact absurd H (by simp)
          · rw [if_neg c6] at H
            have c6b0 : (t248 == 0) = false := beq_eq_false_iff_ne.mpr c6
            have c6b1 : (t248 != 0) = true := bne_iff_ne.mpr c6
            simp only [Option.some.injEq, Prod.mk.injEq] at H
            obtain ⟨rfl, rfl⟩ := H
            have p246 : 0 ≤ (x7_1 : Int) := of_decide_eq_true (by first | (with_reducible assumption) | assumption)
            have q246 : x7_1 < (l1.length : Int) := of_decide_eq_true (by first | (with_reducible assumption) | assumption)
            obtain ⟨ad246, e246, hx246_0, hx246_1, hx246_2⟩ := at_T23 HR1.out x7_1 p246 q246
            cases e246
            replace hx246_0 := (HB.out.cell (World.block_lt_of_cell? w _ hx246_0)).trans hx246_0
            replace hx246_1 := (HB.out.cell (World.block_lt_of_cell? w _ hx246_1)).trans hx246_1
            replace hx246_2 := (HB.out.cell (World.block_lt_of_cell? w _ hx246_2)).trans hx246_2
            replace p246 := eq_true p246
            replace q246 := eq_true q246
            go_wp2_with (first | ((with_reducible refine gate_callee (f := 12) rfl ?_); refine goesL_ (some 22) rfl rfl Try.func12 (by kernel_rfl) rfl #[.int .i64 a0, .agg #[.int .i64 ((rd_T23 l1 x7_1).f0), .int .i64 ((rd_T23 l1 x7_1).f1), .string ((rd_T23 l1 x7_1).f2)]] rfl (by (try simp only [List.map_toArray, List.map_cons, List.map_nil]); first | done | rfl | (simp only [List.length_drop, List.length_take]; rfl)) ?_; (with_reducible refine (frame_Encode.calls a0 ((rd_T23 l1 x7_1).f0) ((rd_T23 l1 x7_1).f1) ((rd_T23 l1 x7_1).f2) t247 t248 _ A5.out).mono ?_); rintro e w9 ⟨rfl, hb⟩; refine ⟨_, rfl, ?_⟩; have n0_ := Aside0.mk (below_step (by repeat (first | (with_reducible first | exact HB.out | apply below_alloc | apply pw_below_drewN | apply below_drew1) | exact HB.out)) hb); clear HB; have HB := n0_; clear n0_; (try clear hb); (try clear hb2); (try clear hk); (try clear hi)))
            go_ret2
            exact ⟨by first | rfl | (simp [errW_none, errW_some] <;> rfl) | (simp [*, errW_none, errW_some] <;> rfl), by repeat (first | (with_reducible first | exact HB.out | apply below_alloc | apply pw_below_drewN | apply below_drew1) | exact HB.out)⟩
        · rw [if_neg c4] at H
          exact absurd H (by simp)
      · rw [if_neg c3] at H
        have c3b0 : decide (x7_1 < (l1.length : Int)) = false := decide_eq_false c3
        clear c3
        simp only [Option.some.injEq, Prod.mk.injEq] at H
        obtain ⟨rfl, rfl⟩ := H
        go_wp2
        go_ret2
        exact ⟨by first | rfl | (simp [errW_none, errW_some] <;> rfl) | (simp [*, errW_none, errW_some] <;> rfl), by repeat (first | (with_reducible first | exact HB.out | apply below_alloc | apply pw_below_drewN | apply below_drew1) | exact HB.out)⟩

/-! ### careenlaw06_FrameBack: function 4 -/
def careenlaw06_FrameBack.l0 : Nat → List (S57) → List ByteArray → Bool → Int → Option (Bool)
  | 0, _, _, _, _ => none
  | k + 1, x0, x1, x5, x6 => if x6 ≤ 2 then ((careenlaw06_Frames.f k x6 x0 x1).bind fun t250 => ((careenlaw06_bytes.f k x6 t250).bind fun bt253 => ((frame_Scan.f k x6 bt253.1).bind fun bt255 => (if bt253.2 = true then (if bt255.2.2 = 0 then (if bt255.2.1 = (bt253.1.size : Int) then ((careenref06_Same.f k t250 bt255.1).bind fun t260 => (if t260 = true then (careenlaw06_FrameBack.l0 k x0 x1 x5 (wrap64 (x6 + 1))) else (some false))) else (some false)) else (some false)) else (some false))))) else (some x5)
def careenlaw06_FrameBack.f (k : Nat) (l0 : List (S57)) (l1 : List ByteArray) : Option (Bool) := (careenlaw06_awake.f k).bind fun t249 => (careenlaw06_FrameBack.l0 k l0 l1 t249 1)
theorem careenlaw06_FrameBack.mono_l : ∀ k, (∀ y0 y1 y2 y3, LeO (careenlaw06_FrameBack.l0 k y0 y1 y2 y3) (careenlaw06_FrameBack.l0 (k + 1) y0 y1 y2 y3))
  | 0 => (fun _ _ _ _ r h => by cases (show (none : Option _) = some r from h))
  | k + 1 => by
    have ih0 := careenlaw06_FrameBack.mono_l k
    · intro y0 y1 y2 y3
      unfold careenlaw06_FrameBack.l0
      repeat' first
      | (with_reducible exact ih0 _ _ _ _)
      | (with_reducible exact careenlaw06_Frames.mono _ _ _ _)
      | (with_reducible exact careenlaw06_awake.mono _)
      | (with_reducible exact careenlaw06_bytes.mono _ _ _)
      | (with_reducible exact careenref06_Same.mono _ _ _)
      | (with_reducible exact frame_Scan.mono _ _ _)
      | (with_reducible exact LeO.refl _)
      | (with_reducible exact LeO.none _)
      | (with_reducible refine LeO.ite ?_ ?_)
      | (with_reducible refine LeO.bind ?_ (fun _ => ?_))
      | exact ih0 _ _ _ _
      | exact careenlaw06_Frames.mono _ _ _ _
      | exact careenlaw06_awake.mono _
      | exact careenlaw06_bytes.mono _ _ _
      | exact careenref06_Same.mono _ _ _
      | exact frame_Scan.mono _ _ _
      | exact LeO.none _
      | refine LeO.ite ?_ ?_
      | refine LeO.bind ?_ (fun _ => ?_)
theorem careenlaw06_FrameBack.mono : ∀ a0 a1 k, LeO (careenlaw06_FrameBack.f k a0 a1) (careenlaw06_FrameBack.f (k + 1) a0 a1) := by
  intro a0 a1 k
  have ih0 := careenlaw06_FrameBack.mono_l k
  unfold careenlaw06_FrameBack.f
  repeat' first
      | (with_reducible exact ih0 _ _ _ _)
      | (with_reducible exact careenlaw06_Frames.mono _ _ _ _)
      | (with_reducible exact careenlaw06_awake.mono _)
      | (with_reducible exact careenlaw06_bytes.mono _ _ _)
      | (with_reducible exact careenref06_Same.mono _ _ _)
      | (with_reducible exact frame_Scan.mono _ _ _)
      | (with_reducible exact LeO.refl _)
      | (with_reducible exact LeO.none _)
      | (with_reducible refine LeO.ite ?_ ?_)
      | (with_reducible refine LeO.bind ?_ (fun _ => ?_))
      | exact ih0 _ _ _ _
      | exact careenlaw06_Frames.mono _ _ _ _
      | exact careenlaw06_awake.mono _
      | exact careenlaw06_bytes.mono _ _ _
      | exact careenref06_Same.mono _ _ _
      | exact frame_Scan.mono _ _ _
      | exact LeO.none _
      | refine LeO.ite ?_ ?_
      | refine LeO.bind ?_ (fun _ => ?_)
set_option maxHeartbeats 8000000 in
set_option maxRecDepth 100000 in
theorem careenlaw06_FrameBack.calls (k : Nat) (A0 : Option Addr) (c0 : Nat) (l0 : List (S57)) (A1 : Option Addr) (c1 : Nat) (l1 : List ByteArray) (w : World) (hr0 : Kd.C k57 w A0 l0.length l0) (hc0 : l0.length ≤ c0) (hr1 : Kd.C Kd.string w A1 l1.length l1) (hc1 : l1.length ≤ c1) (h : careenlaw06_FrameBack.f k l0 l1 = some true) :
    Calls Try.prog 4 #[.slice A0 l0.length c0, .slice A1 l1.length c1] w fun e w' => e = .returned (.bool true) ∧ Below w.heap.size w w' := by
  have HR0 := Aside0.mk hr0
  have HC0 := Aside0.mk hc0
  clear hr0 hc0
  have HR1 := Aside0.mk hr1
  have HC1 := Aside0.mk hc1
  clear hr1 hc1
  have HB := Aside0.mk (Below.refl w.heap.size w)
  have H : ((careenlaw06_awake.f k).bind fun t249 => (careenlaw06_FrameBack.l0 k l0 l1 t249 1)) = some true := h
  clear h
  replace H := Option.bind_eq_some_iff.mp H
  obtain ⟨t249, A30, H⟩ := H
  replace H : (careenlaw06_FrameBack.l0 k l0 l1 t249 1) = some true := H
  have A3 := Aside0.mk A30
  clear A30
  have H' := Aside0.mk H
  clear H
  go_enter Try.func4, Try.ntmps4
  go_wp2_with (first | ((with_reducible refine gate_callee (f := 11) rfl ?_); refine goesL_ (some 13) rfl rfl Try.func11 (by kernel_rfl) rfl #[] rfl (by (try simp only [List.map_toArray, List.map_cons, List.map_nil]); first | done | rfl | (simp only [List.length_drop, List.length_take]; rfl)) ?_; (with_reducible refine (careenlaw06_awake.calls k  t249 _ A3.out).mono ?_); rintro e w4 ⟨rfl, hb⟩; refine ⟨_, rfl, ?_⟩; have n0_ := Aside0.mk (below_step (by repeat (first | (with_reducible first | exact HB.out | apply below_alloc | apply pw_below_drewN | apply below_drew1) | exact HB.out)) hb); clear HB; have HB := n0_; clear n0_; (try clear hb); (try clear hb2); (try clear hk); (try clear hi)))
  go_loopg [6] k (fun kq v6 w' => ∃ (x6_1 : Int), v6 = .int .i64 x6_1 ∧ Aside0 (careenlaw06_FrameBack.l0 kq l0 l1 t249 x6_1 = some true) ∧ Aside0 (kq ≤ k) ∧ Aside0 (Below w.heap.size w w'))
  case atStart => exact ⟨(1), (by first | rfl | (simp; done) | (simp [*]; done)), H', ⟨Nat.le_refl _⟩, ⟨by repeat (first | (with_reducible first | exact HB.out | apply below_alloc | apply pw_below_drewN | apply below_drew1) | exact HB.out)⟩⟩
  case round =>
    clear H'
    try clear c1
    try clear p2
    try clear c4
    obtain ⟨x6_1, rfl, HA, HK1, HB⟩ := hrel
    cases gk with
    | zero => cases (show (none : Option _) = some _ from HA.out)
    | succ k1 =>
      have H := HA.out
      clear HA
      simp only [careenlaw06_FrameBack.l0] at H
      by_cases c5 : x6_1 ≤ 2
      · rw [if_pos c5] at H
        have c5b0 : decide (x6_1 ≤ 2) = true := decide_eq_true c5
        clear c5
        replace H := Option.bind_eq_some_iff.mp H
        obtain ⟨t250, A60, H⟩ := H
        replace H : ((careenlaw06_bytes.f k1 x6_1 t250).bind fun bt253 => ((frame_Scan.f k1 x6_1 bt253.1).bind fun bt255 => (if bt253.2 = true then (if bt255.2.2 = 0 then (if bt255.2.1 = (bt253.1.size : Int) then ((careenref06_Same.f k1 t250 bt255.1).bind fun t260 => (if t260 = true then (careenlaw06_FrameBack.l0 k1 l0 l1 t249 (wrap64 (x6_1 + 1))) else (some false))) else (some false)) else (some false)) else (some false)))) = some true := H
        have A6 := Aside0.mk A60
        clear A60
        replace H := Option.bind_eq_some_iff.mp H
        obtain ⟨⟨t253, t254⟩, A70, H⟩ := H
        replace H : ((frame_Scan.f k1 x6_1 t253).bind fun bt255 => (if t254 = true then (if bt255.2.2 = 0 then (if bt255.2.1 = (t253.size : Int) then ((careenref06_Same.f k1 t250 bt255.1).bind fun t260 => (if t260 = true then (careenlaw06_FrameBack.l0 k1 l0 l1 t249 (wrap64 (x6_1 + 1))) else (some false))) else (some false)) else (some false)) else (some false))) = some true := H
        have A7 := Aside0.mk A70
        clear A70
        replace H := Option.bind_eq_some_iff.mp H
        obtain ⟨⟨t255, t256, t257⟩, A80, H⟩ := H
        replace H : (if t254 = true then (if t257 = 0 then (if t256 = (t253.size : Int) then ((careenref06_Same.f k1 t250 t255).bind fun t260 => (if t260 = true then (careenlaw06_FrameBack.l0 k1 l0 l1 t249 (wrap64 (x6_1 + 1))) else (some false))) else (some false)) else (some false)) else (some false)) = some true := H
        have A8 := Aside0.mk A80
        clear A80
        by_cases c9 : t254 = true
        · subst c9
          have H1 : (if t257 = 0 then (if t256 = (t253.size : Int) then ((careenref06_Same.f k1 t250 t255).bind fun t260 => (if t260 = true then (careenlaw06_FrameBack.l0 k1 l0 l1 t249 (wrap64 (x6_1 + 1))) else (some false))) else (some false)) else (some false)) = some true := by rw [if_pos rfl] at H; exact H
          clear H
          have H := H1
          clear H1
          by_cases c10 : t257 = 0
          · rw [if_pos c10] at H
            have c10b0 : (t257 == 0) = true := beq_iff_eq.mpr c10
            have c10b1 : (t257 != 0) = false := bne_eq_false_iff_eq.mpr c10
            clear c10
            by_cases c11 : t256 = (t253.size : Int)
            · rw [if_pos c11] at H
              have c11b0 : (t256 == (t253.size : Int)) = true := beq_iff_eq.mpr c11
              have c11b1 : (t256 != (t253.size : Int)) = false := bne_eq_false_iff_eq.mpr c11
              clear c11
              replace H := Option.bind_eq_some_iff.mp H
              obtain ⟨t260, A120, H⟩ := H
              replace H : (if t260 = true then (careenlaw06_FrameBack.l0 k1 l0 l1 t249 (wrap64 (x6_1 + 1))) else (some false)) = some true := H
              have A12 := Aside0.mk A120
              clear A120
              by_cases c13 : t260 = true
              · subst c13
                have H1 : (careenlaw06_FrameBack.l0 k1 l0 l1 t249 (wrap64 (x6_1 + 1))) = some true := by rw [if_pos rfl] at H; exact H
                clear H
                have H := H1
                clear H1
                have H' := Aside0.mk H
                clear H
                go_wp2_with (first | ((with_reducible refine gate_callee (f := 16) rfl ?_); refine goesL_ (some 21) rfl rfl Try.func16 (by kernel_rfl) rfl #[.int .i64 x6_1, .slice A0 l0.length c0, .slice A1 l1.length c1] rfl (by (try simp only [List.map_toArray, List.map_cons, List.map_nil]); first | done | rfl | (simp only [List.length_drop, List.length_take]; rfl)) ?_; (with_reducible refine (careenlaw06_Frames.calls k1 x6_1 _ _ l0 _ _ l1 t250 _ ?side1 ?side2 ?side3 ?side4 A6.out).mono ?_); (case side1 => repeat (first | exact (Kd.C_below HR0.out HB.out) | (with_reducible refine Kd.C_alloc ?_ _) | (with_reducible refine Kd.C_drewN ?_ _) | (with_reducible refine Kd.C_drew ?_))); (case side2 => exact HC0.out); (case side3 => repeat (first | exact (Kd.C_below HR1.out HB.out) | (with_reducible refine Kd.C_alloc ?_ _) | (with_reducible refine Kd.C_drewN ?_ _) | (with_reducible refine Kd.C_drew ?_))); (case side4 => exact HC1.out); rintro e w14 ⟨v251, rfl, ho0, hb⟩; refine ⟨_, rfl, ?_⟩; have n0_ := Aside0.mk (Kd.R_lower ho0 (below_size (by repeat (first | (with_reducible first | exact HB.out | apply below_alloc | apply pw_below_drewN | apply below_drew1) | exact HB.out)))); have n1_ := Aside0.mk (below_step (by repeat (first | (with_reducible first | exact HB.out | apply below_alloc | apply pw_below_drewN | apply below_drew1) | exact HB.out)) hb); clear HB; have HO252 := n0_; have HB := n1_; clear n0_ n1_; (try clear hb); (try clear hb2); (try clear hk); (try clear hi); (try clear ho0); obtain ⟨Ao15, co15, eo15⟩ := Kd.R_slice HO252.out; subst eo15) | ((with_reducible refine gate_callee (f := 21) rfl ?_); refine goesL_ (some 25) rfl rfl Try.func21 (by kernel_rfl) rfl #[.int .i64 x6_1, .slice Ao15 t250.length co15] rfl (by (try simp only [List.map_toArray, List.map_cons, List.map_nil]); first | done | rfl | (simp only [List.length_drop, List.length_take]; rfl)) ?_; (with_reducible refine (careenlaw06_bytes.calls k1 x6_1 _ _ t250 t253 true _ ?side1 ?side2 A7.out).mono ?_); (case side1 => repeat (first | exact (Kd.R_reads' HO252.out).2.2 | (with_reducible refine Kd.C_alloc ?_ _) | (with_reducible refine Kd.C_drewN ?_ _) | (with_reducible refine Kd.C_drew ?_))); (case side2 => exact (Kd.R_reads' HO252.out).2.1); rintro e w16 ⟨rfl, hb⟩; refine ⟨_, rfl, ?_⟩; have n0_ := Aside0.mk (Kd.R_below (by (with_reducible repeat (first | apply Kd.R_alloc | apply Kd.R_drewN | apply Kd.R_drew)); exact HO252.out) hb); have n1_ := Aside0.mk (below_step (by repeat (first | (with_reducible first | exact HB.out | apply below_alloc | apply pw_below_drewN | apply below_drew1) | exact HB.out)) hb); clear HO252; clear HB; have HO252 := n0_; have HB := n1_; clear n0_ n1_; (try clear hb); (try clear hb2); (try clear hk); (try clear hi)) | ((with_reducible refine gate_callee (f := 18) rfl ?_); refine goesL_ (some 31) rfl rfl Try.func18 (by kernel_rfl) rfl #[.int .i64 x6_1, .string t253] rfl (by (try simp only [List.map_toArray, List.map_cons, List.map_nil]); first | done | rfl | (simp only [List.length_drop, List.length_take]; rfl)) ?_; (with_reducible refine (frame_Scan.calls k1 x6_1 t253 t255 t256 t257 _ A8.out).mono ?_); rintro e w17 ⟨v258, rfl, ho0, hb⟩; refine ⟨_, rfl, ?_⟩; have n0_ := Aside0.mk (Kd.R_elder' (by (with_reducible repeat (first | apply Kd.R_alloc | apply Kd.R_drewN | apply Kd.R_drew)); exact HO252.out) (Kd.R_base ho0) hb); have n1_ := Aside0.mk (Kd.R_lower (Kd.R_new' ho0 (Kd.R_lt (by (with_reducible repeat (first | apply Kd.R_alloc | apply Kd.R_drewN | apply Kd.R_drew)); exact HO252.out))) (below_size (by repeat (first | (with_reducible first | exact HB.out | apply below_alloc | apply pw_below_drewN | apply below_drew1) | exact HB.out)))); have n2_ := Aside0.mk (below_step (by repeat (first | (with_reducible first | exact HB.out | apply below_alloc | apply pw_below_drewN | apply below_drew1) | exact HB.out)) hb); clear HO252; clear HB; have HO252 := n0_; have HO259 := n1_; have HB := n2_; clear n0_ n1_ n2_; (try clear hb); (try clear hb2); (try clear hk); (try clear hi); (try clear ho0); obtain ⟨Ao18, co18, eo18⟩ := Kd.R_slice HO259.out; subst eo18) | (go_at_call 20; (with_reducible refine (careenref06_Same.calls k1 _ _ t250 _ _ t255 true _ ?side1 ?side2 ?side3 ?side4 A12.out).mono ?_); (case side1 => repeat (first | exact (Kd.R_reads' HO252.out).2.2 | (with_reducible refine Kd.C_alloc ?_ _) | (with_reducible refine Kd.C_drewN ?_ _) | (with_reducible refine Kd.C_drew ?_))); (case side2 => exact (Kd.R_reads' HO252.out).2.1); (case side3 => repeat (first | exact (Kd.R_reads' HO259.out).2.2 | (with_reducible refine Kd.C_alloc ?_ _) | (with_reducible refine Kd.C_drewN ?_ _) | (with_reducible refine Kd.C_drew ?_))); (case side4 => exact (Kd.R_reads' HO259.out).2.1); rintro e w' ⟨rfl, ⟨nd, rfl⟩⟩))
                go_roundg k1
                case measure => have := HK1.out; omega
                case rel => exact ⟨(wrap64 (x6_1 + 1)), (by first | rfl | (simp; done) | (simp [*]; done)), H', ⟨by have := HK1.out; omega⟩, ⟨by repeat (first | (with_reducible first | exact HB.out | apply below_alloc | apply pw_below_drewN | apply below_drew1) | exact HB.out)⟩⟩
              · replace c13 := Bool.eq_false_iff.mpr c13
                subst c13
                have H1 : (some false) = some true := by rw [if_neg (show ¬ (false = true) by decide)] at H; exact H
                clear H
                have H := H1
                clear H1
                exact absurd H (by simp)
            · rw [if_neg c11] at H
              have c11b0 : (t256 == (t253.size : Int)) = false := beq_eq_false_iff_ne.mpr c11
              have c11b1 : (t256 != (t253.size : Int)) = true := bne_iff_ne.mpr c11
              exact absurd H (by simp)
          · rw [if_neg c10] at H
            have c10b0 : (t257 == 0) = false := beq_eq_false_iff_ne.mpr c10
            have c10b1 : (t257 != 0) = true := bne_iff_ne.mpr c10
            exact absurd H (by simp)
        · replace c9 := Bool.eq_false_iff.mpr c9
          subst c9
          have H1 : (some false) = some true := by rw [if_neg (show ¬ (false = true) by decide)] at H; exact H
          clear H
          have H := H1
          clear H1
          exact absurd H (by simp)
      · rw [if_neg c5] at H
        have c5b0 : decide (x6_1 ≤ 2) = false := decide_eq_false c5
        clear c5
        have HV_ := Aside0.mk (Option.some.inj H)
        clear H
        go_wp2
        go_ret
        exact ⟨by first | exact congrArg (fun b_ => Ending.returned (Value.bool b_)) HV_.out | (have hv_ := HV_.out; simp only [Bool.and_eq_true, beq_iff_eq] at hv_; simp [hv_]; done) | (have hv_ := HV_.out; simp at hv_; simp [*]; done) | rfl | (simp [errW_none, errW_some] <;> rfl) | (simp [*, errW_none, errW_some] <;> rfl), by repeat (first | (with_reducible first | exact HB.out | apply below_alloc | apply pw_below_drewN | apply below_drew1) | exact HB.out)⟩

/-- THE ONE PURE STATEMENT of careenlaw06_FrameBack. -/
def careenlaw06_FrameBack.Pure : Prop := ∀ (l0 : List (S57)) (l1 : List ByteArray), l0.length * 24 ≤ 140737488351232 → (∀ x ∈ l0, (Lit.int .i64 x.f0).wf = true ∧ (Lit.int .i64 x.f1).wf = true ∧ (Lit.int .i64 x.f2).wf = true) → l1.length * 16 ≤ 140737488351232 → (∀ x ∈ l1, x.size ≤ 9223372036854775807) → ∃ k, careenlaw06_FrameBack.f k l0 l1 = some true

/-! ### careenlaw06_FrameTorn: function 5 -/
mutual
def careenlaw06_FrameTorn.l0 : Nat → List (S57) → List ByteArray → Int → Bool → Int → Option (Bool)
  | 0, _, _, _, _, _ => none
  | k + 1, x0, x1, x2, x7, x8 => if x8 ≤ 2 then ((careenlaw06_Frames.f k x8 x0 x1).bind fun t262 => ((careenlaw06_bytes.f k x8 t262).bind fun bt265 => ((careenlaw06_pick.f x2 (wrap64 ((bt265.1.size : Int) + 1))).bind fun t267 => (if 0 ≤ t267 then (if t267 ≤ (bt265.1.size : Int) then ((frame_Scan.f k x8 (bt265.1.extract 0 (t267 : Int).toNat)).bind fun bt268 => (if bt265.2 = true then (if bt268.2.2 = 0 then (if bt268.2.1 > t267 then (careenlaw06_FrameTorn.j1 k x0 x1 x2 x7 x8 t262 t267 bt268.1 bt268.2.1 true) else (if (bt268.1.length : Int) > (t262.length : Int) then (careenlaw06_FrameTorn.j1 k x0 x1 x2 x7 x8 t262 t267 bt268.1 bt268.2.1 true) else (if 0 ≤ (bt268.1.length : Int) then (if (bt268.1.length : Int) ≤ (t262.length : Int) then ((careenref06_Same.f k bt268.1 (t262.take ((bt268.1.length : Int) : Int).toNat)).bind fun t277 => (careenlaw06_FrameTorn.j1 k x0 x1 x2 x7 x8 t262 t267 bt268.1 bt268.2.1 (!t277))) else (none)) else (none)))) else (careenlaw06_FrameTorn.j1 k x0 x1 x2 x7 x8 t262 t267 bt268.1 bt268.2.1 true)) else (careenlaw06_FrameTorn.j1 k x0 x1 x2 x7 x8 t262 t267 bt268.1 bt268.2.1 true))) else (none)) else (none))))) else (some x7)
def careenlaw06_FrameTorn.j1 : Nat → List (S57) → List ByteArray → Int → Bool → Int → List (S23) → Int → List (S23) → Int → Bool → Option (Bool)
  | 0, _, _, _, _, _, _, _, _, _, _ => none
  | k + 1, x0, x1, x2, x7, x8, x9, x12, x13, x14, x75 => if x75 = true then (some false) else (if 0 ≤ (x13.length : Int) then (if (x13.length : Int) ≤ (x9.length : Int) then ((careenlaw06_bytes.f k x8 (x9.take ((x13.length : Int) : Int).toNat)).bind fun bt282 => (if (bt282.1.size : Int) = x14 then (if (x13.length : Int) < (x9.length : Int) then (if 0 ≤ (wrap64 ((x13.length : Int) + 1)) then (if (wrap64 ((x13.length : Int) + 1)) ≤ (x9.length : Int) then ((careenlaw06_bytes.f k x8 (x9.take ((wrap64 ((x13.length : Int) + 1)) : Int).toNat)).bind fun bt288 => (if (bt288.1.size : Int) ≤ x12 then (some false) else (careenlaw06_FrameTorn.l0 k x0 x1 x2 x7 (wrap64 (x8 + 1))))) else (none)) else (none)) else (careenlaw06_FrameTorn.l0 k x0 x1 x2 x7 (wrap64 (x8 + 1)))) else (some false))) else (none)) else (none))
end
def careenlaw06_FrameTorn.f (k : Nat) (l0 : List (S57)) (l1 : List ByteArray) (a2 : Int) : Option (Bool) := (careenlaw06_awake.f k).bind fun t261 => (careenlaw06_FrameTorn.l0 k l0 l1 a2 t261 1)
theorem careenlaw06_FrameTorn.mono_l : ∀ k, (∀ y0 y1 y2 y3 y4, LeO (careenlaw06_FrameTorn.l0 k y0 y1 y2 y3 y4) (careenlaw06_FrameTorn.l0 (k + 1) y0 y1 y2 y3 y4)) ∧ (∀ y0 y1 y2 y3 y4 y5 y6 y7 y8 y9, LeO (careenlaw06_FrameTorn.j1 k y0 y1 y2 y3 y4 y5 y6 y7 y8 y9) (careenlaw06_FrameTorn.j1 (k + 1) y0 y1 y2 y3 y4 y5 y6 y7 y8 y9))
  | 0 => ⟨(fun _ _ _ _ _ r h => by cases (show (none : Option _) = some r from h)), (fun _ _ _ _ _ _ _ _ _ _ r h => by cases (show (none : Option _) = some r from h))⟩
  | k + 1 => by
    obtain ⟨ih0, ih1⟩ := careenlaw06_FrameTorn.mono_l k
    refine ⟨?_, ?_⟩
    · intro y0 y1 y2 y3 y4
      unfold careenlaw06_FrameTorn.l0
      repeat' first
      | (with_reducible exact ih0 _ _ _ _ _)
      | (with_reducible exact ih1 _ _ _ _ _ _ _ _ _ _)
      | (with_reducible exact careenlaw06_Frames.mono _ _ _ _)
      | (with_reducible exact careenlaw06_awake.mono _)
      | (with_reducible exact careenlaw06_bytes.mono _ _ _)
      | (with_reducible exact careenref06_Same.mono _ _ _)
      | (with_reducible exact frame_Scan.mono _ _ _)
      | (with_reducible exact LeO.refl _)
      | (with_reducible exact LeO.none _)
      | (with_reducible refine LeO.ite ?_ ?_)
      | (with_reducible refine LeO.bind ?_ (fun _ => ?_))
      | exact ih0 _ _ _ _ _
      | exact ih1 _ _ _ _ _ _ _ _ _ _
      | exact careenlaw06_Frames.mono _ _ _ _
      | exact careenlaw06_awake.mono _
      | exact careenlaw06_bytes.mono _ _ _
      | exact careenref06_Same.mono _ _ _
      | exact frame_Scan.mono _ _ _
      | exact LeO.none _
      | refine LeO.ite ?_ ?_
      | refine LeO.bind ?_ (fun _ => ?_)
    · intro y0 y1 y2 y3 y4 y5 y6 y7 y8 y9
      unfold careenlaw06_FrameTorn.j1
      repeat' first
      | (with_reducible exact ih0 _ _ _ _ _)
      | (with_reducible exact ih1 _ _ _ _ _ _ _ _ _ _)
      | (with_reducible exact careenlaw06_Frames.mono _ _ _ _)
      | (with_reducible exact careenlaw06_awake.mono _)
      | (with_reducible exact careenlaw06_bytes.mono _ _ _)
      | (with_reducible exact careenref06_Same.mono _ _ _)
      | (with_reducible exact frame_Scan.mono _ _ _)
      | (with_reducible exact LeO.refl _)
      | (with_reducible exact LeO.none _)
      | (with_reducible refine LeO.ite ?_ ?_)
      | (with_reducible refine LeO.bind ?_ (fun _ => ?_))
      | exact ih0 _ _ _ _ _
      | exact ih1 _ _ _ _ _ _ _ _ _ _
      | exact careenlaw06_Frames.mono _ _ _ _
      | exact careenlaw06_awake.mono _
      | exact careenlaw06_bytes.mono _ _ _
      | exact careenref06_Same.mono _ _ _
      | exact frame_Scan.mono _ _ _
      | exact LeO.none _
      | refine LeO.ite ?_ ?_
      | refine LeO.bind ?_ (fun _ => ?_)
theorem careenlaw06_FrameTorn.mono : ∀ a0 a1 a2 k, LeO (careenlaw06_FrameTorn.f k a0 a1 a2) (careenlaw06_FrameTorn.f (k + 1) a0 a1 a2) := by
  intro a0 a1 a2 k
  obtain ⟨ih0, ih1⟩ := careenlaw06_FrameTorn.mono_l k
  unfold careenlaw06_FrameTorn.f
  repeat' first
      | (with_reducible exact ih0 _ _ _ _ _)
      | (with_reducible exact ih1 _ _ _ _ _ _ _ _ _ _)
      | (with_reducible exact careenlaw06_Frames.mono _ _ _ _)
      | (with_reducible exact careenlaw06_awake.mono _)
      | (with_reducible exact careenlaw06_bytes.mono _ _ _)
      | (with_reducible exact careenref06_Same.mono _ _ _)
      | (with_reducible exact frame_Scan.mono _ _ _)
      | (with_reducible exact LeO.refl _)
      | (with_reducible exact LeO.none _)
      | (with_reducible refine LeO.ite ?_ ?_)
      | (with_reducible refine LeO.bind ?_ (fun _ => ?_))
      | exact ih0 _ _ _ _ _
      | exact ih1 _ _ _ _ _ _ _ _ _ _
      | exact careenlaw06_Frames.mono _ _ _ _
      | exact careenlaw06_awake.mono _
      | exact careenlaw06_bytes.mono _ _ _
      | exact careenref06_Same.mono _ _ _
      | exact frame_Scan.mono _ _ _
      | exact LeO.none _
      | refine LeO.ite ?_ ?_
      | refine LeO.bind ?_ (fun _ => ?_)
set_option maxHeartbeats 8000000 in
set_option maxRecDepth 100000 in
theorem careenlaw06_FrameTorn.calls (k : Nat) (A0 : Option Addr) (c0 : Nat) (l0 : List (S57)) (A1 : Option Addr) (c1 : Nat) (l1 : List ByteArray) (a2 : Int) (w : World) (hr0 : Kd.C k57 w A0 l0.length l0) (hc0 : l0.length ≤ c0) (hr1 : Kd.C Kd.string w A1 l1.length l1) (hc1 : l1.length ≤ c1) (h : careenlaw06_FrameTorn.f k l0 l1 a2 = some true) :
    Calls Try.prog 5 #[.slice A0 l0.length c0, .slice A1 l1.length c1, .int .i64 a2] w fun e w' => e = .returned (.bool true) ∧ Below w.heap.size w w' := by
  have HR0 := Aside0.mk hr0
  have HC0 := Aside0.mk hc0
  clear hr0 hc0
  have HR1 := Aside0.mk hr1
  have HC1 := Aside0.mk hc1
  clear hr1 hc1
  have HB := Aside0.mk (Below.refl w.heap.size w)
  have H : ((careenlaw06_awake.f k).bind fun t261 => (careenlaw06_FrameTorn.l0 k l0 l1 a2 t261 1)) = some true := h
  clear h
  replace H := Option.bind_eq_some_iff.mp H
  obtain ⟨t261, A40, H⟩ := H
  replace H : (careenlaw06_FrameTorn.l0 k l0 l1 a2 t261 1) = some true := H
  have A4 := Aside0.mk A40
  clear A40
  have H' := Aside0.mk H
  clear H
  go_enter Try.func5, Try.ntmps5
  go_wp2_with (first | ((with_reducible refine gate_callee (f := 11) rfl ?_); refine goesL_ (some 20) rfl rfl Try.func11 (by kernel_rfl) rfl #[] rfl (by (try simp only [List.map_toArray, List.map_cons, List.map_nil]); first | done | rfl | (simp only [List.length_drop, List.length_take]; rfl)) ?_; (with_reducible refine (careenlaw06_awake.calls k  t261 _ A4.out).mono ?_); rintro e w5 ⟨rfl, hb⟩; refine ⟨_, rfl, ?_⟩; have n0_ := Aside0.mk (below_step (by repeat (first | (with_reducible first | exact HB.out | apply below_alloc | apply pw_below_drewN | apply below_drew1) | exact HB.out)) hb); clear HB; have HB := n0_; clear n0_; (try clear hb); (try clear hb2); (try clear hk); (try clear hi)))
  go_loopg [8] k (fun kq v8 w' => ∃ (x8_1 : Int), v8 = .int .i64 x8_1 ∧ Aside0 (careenlaw06_FrameTorn.l0 kq l0 l1 a2 t261 x8_1 = some true) ∧ Aside0 (kq ≤ k) ∧ Aside0 (Below w.heap.size w w'))
  case atStart => exact ⟨(1), (by first | rfl | (simp; done) | (simp [*]; done)), H', ⟨Nat.le_refl _⟩, ⟨by repeat (first | (with_reducible first | exact HB.out | apply below_alloc | apply pw_below_drewN | apply below_drew1) | exact HB.out)⟩⟩
  case round =>
    clear H'
    try clear c1
    try clear p2
    try clear c5
    obtain ⟨x8_1, rfl, HA, HK1, HB⟩ := hrel
    cases gk with
    | zero => cases (show (none : Option _) = some _ from HA.out)
    | succ k1 =>
      have H := HA.out
      clear HA
      simp only [careenlaw06_FrameTorn.l0] at H
      by_cases c6 : x8_1 ≤ 2
      · rw [if_pos c6] at H
        have c6b0 : decide (x8_1 ≤ 2) = true := decide_eq_true c6
        clear c6
        replace H := Option.bind_eq_some_iff.mp H
        obtain ⟨t262, A70, H⟩ := H
        replace H : ((careenlaw06_bytes.f k1 x8_1 t262).bind fun bt265 => ((careenlaw06_pick.f a2 (wrap64 ((bt265.1.size : Int) + 1))).bind fun t267 => (if 0 ≤ t267 then (if t267 ≤ (bt265.1.size : Int) then ((frame_Scan.f k1 x8_1 (bt265.1.extract 0 (t267 : Int).toNat)).bind fun bt268 => (if bt265.2 = true then (if bt268.2.2 = 0 then (if bt268.2.1 > t267 then (careenlaw06_FrameTorn.j1 k1 l0 l1 a2 t261 x8_1 t262 t267 bt268.1 bt268.2.1 true) else (if (bt268.1.length : Int) > (t262.length : Int) then (careenlaw06_FrameTorn.j1 k1 l0 l1 a2 t261 x8_1 t262 t267 bt268.1 bt268.2.1 true) else (if 0 ≤ (bt268.1.length : Int) then (if (bt268.1.length : Int) ≤ (t262.length : Int) then ((careenref06_Same.f k1 bt268.1 (t262.take ((bt268.1.length : Int) : Int).toNat)).bind fun t277 => (careenlaw06_FrameTorn.j1 k1 l0 l1 a2 t261 x8_1 t262 t267 bt268.1 bt268.2.1 (!t277))) else (none)) else (none)))) else (careenlaw06_FrameTorn.j1 k1 l0 l1 a2 t261 x8_1 t262 t267 bt268.1 bt268.2.1 true)) else (careenlaw06_FrameTorn.j1 k1 l0 l1 a2 t261 x8_1 t262 t267 bt268.1 bt268.2.1 true))) else (none)) else (none)))) = some true := H
        have A7 := Aside0.mk A70
        clear A70
        replace H := Option.bind_eq_some_iff.mp H
        obtain ⟨⟨t265, t266⟩, A80, H⟩ := H
        replace H : ((careenlaw06_pick.f a2 (wrap64 ((t265.size : Int) + 1))).bind fun t267 => (if 0 ≤ t267 then (if t267 ≤ (t265.size : Int) then ((frame_Scan.f k1 x8_1 (t265.extract 0 (t267 : Int).toNat)).bind fun bt268 => (if t266 = true then (if bt268.2.2 = 0 then (if bt268.2.1 > t267 then (careenlaw06_FrameTorn.j1 k1 l0 l1 a2 t261 x8_1 t262 t267 bt268.1 bt268.2.1 true) else (if (bt268.1.length : Int) > (t262.length : Int) then (careenlaw06_FrameTorn.j1 k1 l0 l1 a2 t261 x8_1 t262 t267 bt268.1 bt268.2.1 true) else (if 0 ≤ (bt268.1.length : Int) then (if (bt268.1.length : Int) ≤ (t262.length : Int) then ((careenref06_Same.f k1 bt268.1 (t262.take ((bt268.1.length : Int) : Int).toNat)).bind fun t277 => (careenlaw06_FrameTorn.j1 k1 l0 l1 a2 t261 x8_1 t262 t267 bt268.1 bt268.2.1 (!t277))) else (none)) else (none)))) else (careenlaw06_FrameTorn.j1 k1 l0 l1 a2 t261 x8_1 t262 t267 bt268.1 bt268.2.1 true)) else (careenlaw06_FrameTorn.j1 k1 l0 l1 a2 t261 x8_1 t262 t267 bt268.1 bt268.2.1 true))) else (none)) else (none))) = some true := H
        have A8 := Aside0.mk A80
        clear A80
        replace H := Option.bind_eq_some_iff.mp H
        obtain ⟨t267, A90, H⟩ := H
        replace H : (if 0 ≤ t267 then (if t267 ≤ (t265.size : Int) then ((frame_Scan.f k1 x8_1 (t265.extract 0 (t267 : Int).toNat)).bind fun bt268 => (if t266 = true then (if bt268.2.2 = 0 then (if bt268.2.1 > t267 then (careenlaw06_FrameTorn.j1 k1 l0 l1 a2 t261 x8_1 t262 t267 bt268.1 bt268.2.1 true) else (if (bt268.1.length : Int) > (t262.length : Int) then (careenlaw06_FrameTorn.j1 k1 l0 l1 a2 t261 x8_1 t262 t267 bt268.1 bt268.2.1 true) else (if 0 ≤ (bt268.1.length : Int) then (if (bt268.1.length : Int) ≤ (t262.length : Int) then ((careenref06_Same.f k1 bt268.1 (t262.take ((bt268.1.length : Int) : Int).toNat)).bind fun t277 => (careenlaw06_FrameTorn.j1 k1 l0 l1 a2 t261 x8_1 t262 t267 bt268.1 bt268.2.1 (!t277))) else (none)) else (none)))) else (careenlaw06_FrameTorn.j1 k1 l0 l1 a2 t261 x8_1 t262 t267 bt268.1 bt268.2.1 true)) else (careenlaw06_FrameTorn.j1 k1 l0 l1 a2 t261 x8_1 t262 t267 bt268.1 bt268.2.1 true))) else (none)) else (none)) = some true := H
        have A9 := Aside0.mk A90
        clear A90
        by_cases c10 : 0 ≤ t267
        · rw [if_pos c10] at H
          have c10b0 := eq_true c10
          have c10b1 : decide (0 ≤ t267) = true := decide_eq_true c10
          clear c10
          by_cases c11 : t267 ≤ (t265.size : Int)
          · rw [if_pos c11] at H
            have c11b0 := eq_true c11
            have c11b1 : decide (t267 ≤ (t265.size : Int)) = true := decide_eq_true c11
            clear c11
            replace H := Option.bind_eq_some_iff.mp H
            obtain ⟨⟨t268, t269, t270⟩, A120, H⟩ := H
            replace H : (if t266 = true then (if t270 = 0 then (if t269 > t267 then (careenlaw06_FrameTorn.j1 k1 l0 l1 a2 t261 x8_1 t262 t267 t268 t269 true) else (if (t268.length : Int) > (t262.length : Int) then (careenlaw06_FrameTorn.j1 k1 l0 l1 a2 t261 x8_1 t262 t267 t268 t269 true) else (if 0 ≤ (t268.length : Int) then (if (t268.length : Int) ≤ (t262.length : Int) then ((careenref06_Same.f k1 t268 (t262.take ((t268.length : Int) : Int).toNat)).bind fun t277 => (careenlaw06_FrameTorn.j1 k1 l0 l1 a2 t261 x8_1 t262 t267 t268 t269 (!t277))) else (none)) else (none)))) else (careenlaw06_FrameTorn.j1 k1 l0 l1 a2 t261 x8_1 t262 t267 t268 t269 true)) else (careenlaw06_FrameTorn.j1 k1 l0 l1 a2 t261 x8_1 t262 t267 t268 t269 true)) = some true := H
            have A12 := Aside0.mk A120
            clear A120
            have HC13 := Aside0.mk H
            clear H
            go_upto_region 9 with (first | ((with_reducible refine gate_callee (f := 16) rfl ?_); refine goesL_ (some 28) rfl rfl Try.func16 (by kernel_rfl) rfl #[.int .i64 x8_1, .slice A0 l0.length c0, .slice A1 l1.length c1] rfl (by (try simp only [List.map_toArray, List.map_cons, List.map_nil]); first | done | rfl | (simp only [List.length_drop, List.length_take]; rfl)) ?_; (with_reducible refine (careenlaw06_Frames.calls k1 x8_1 _ _ l0 _ _ l1 t262 _ ?side1 ?side2 ?side3 ?side4 A7.out).mono ?_); (case side1 => repeat (first | exact (Kd.C_below HR0.out HB.out) | (with_reducible refine Kd.C_alloc ?_ _) | (with_reducible refine Kd.C_drewN ?_ _) | (with_reducible refine Kd.C_drew ?_))); (case side2 => exact HC0.out); (case side3 => repeat (first | exact (Kd.C_below HR1.out HB.out) | (with_reducible refine Kd.C_alloc ?_ _) | (with_reducible refine Kd.C_drewN ?_ _) | (with_reducible refine Kd.C_drew ?_))); (case side4 => exact HC1.out); rintro e w14 ⟨v263, rfl, ho0, hb⟩; refine ⟨_, rfl, ?_⟩; have n0_ := Aside0.mk (Kd.R_lower ho0 (below_size (by repeat (first | (with_reducible first | exact HB.out | apply below_alloc | apply pw_below_drewN | apply below_drew1) | exact HB.out)))); have n1_ := Aside0.mk (below_step (by repeat (first | (with_reducible first | exact HB.out | apply below_alloc | apply pw_below_drewN | apply below_drew1) | exact HB.out)) hb); clear HB; have HO264 := n0_; have HB := n1_; clear n0_ n1_; (try clear hb); (try clear hb2); (try clear hk); (try clear hi); (try clear ho0); obtain ⟨Ao15, co15, eo15⟩ := Kd.R_slice HO264.out; subst eo15) | ((with_reducible refine gate_callee (f := 21) rfl ?_); refine goesL_ (some 32) rfl rfl Try.func21 (by kernel_rfl) rfl #[.int .i64 x8_1, .slice Ao15 t262.length co15] rfl (by (try simp only [List.map_toArray, List.map_cons, List.map_nil]); first | done | rfl | (simp only [List.length_drop, List.length_take]; rfl)) ?_; (with_reducible refine (careenlaw06_bytes.calls k1 x8_1 _ _ t262 t265 t266 _ ?side1 ?side2 A8.out).mono ?_); (case side1 => repeat (first | exact (Kd.R_reads' HO264.out).2.2 | (with_reducible refine Kd.C_alloc ?_ _) | (with_reducible refine Kd.C_drewN ?_ _) | (with_reducible refine Kd.C_drew ?_))); (case side2 => exact (Kd.R_reads' HO264.out).2.1); rintro e w16 ⟨rfl, hb⟩; refine ⟨_, rfl, ?_⟩; have n0_ := Aside0.mk (Kd.R_below (by (with_reducible repeat (first | apply Kd.R_alloc | apply Kd.R_drewN | apply Kd.R_drew)); exact HO264.out) hb); have n1_ := Aside0.mk (below_step (by repeat (first | (with_reducible first | exact HB.out | apply below_alloc | apply pw_below_drewN | apply below_drew1) | exact HB.out)) hb); clear HO264; clear HB; have HO264 := n0_; have HB := n1_; clear n0_ n1_; (try clear hb); (try clear hb2); (try clear hk); (try clear hi)) | ((with_reducible refine gate_callee (f := 17) rfl ?_); refine goesL_ (some 39) rfl rfl Try.func17 (by kernel_rfl) rfl #[.int .i64 a2, .int .i64 (wrap64 ((t265.size : Int) + 1))] rfl (by (try simp only [List.map_toArray, List.map_cons, List.map_nil]); first | done | rfl | (simp only [List.length_drop, List.length_take]; rfl)) ?_; (with_reducible refine (careenlaw06_pick.calls a2 (wrap64 ((t265.size : Int) + 1)) t267 _ A9.out).mono ?_); rintro e w' ⟨rfl, ⟨nd, rfl⟩⟩; refine ⟨_, rfl, ?_⟩) | ((with_reducible refine gate_callee (f := 18) rfl ?_); refine goesL_ (some 45) rfl rfl Try.func18 (by kernel_rfl) rfl #[.int .i64 x8_1, .string (t265.extract 0 (t267 : Int).toNat)] rfl (by (try simp only [List.map_toArray, List.map_cons, List.map_nil]); first | done | rfl | (simp only [List.length_drop, List.length_take]; rfl)) ?_; (with_reducible refine (frame_Scan.calls k1 x8_1 (t265.extract 0 (t267 : Int).toNat) t268 t269 t270 _ A12.out).mono ?_); rintro e w17 ⟨v271, rfl, ho0, hb⟩; refine ⟨_, rfl, ?_⟩; have n0_ := Aside0.mk (Kd.R_elder' (by (with_reducible repeat (first | apply Kd.R_alloc | apply Kd.R_drewN | apply Kd.R_drew)); exact HO264.out) (Kd.R_base ho0) hb); have n1_ := Aside0.mk (Kd.R_lower (Kd.R_new' ho0 (Kd.R_lt (by (with_reducible repeat (first | apply Kd.R_alloc | apply Kd.R_drewN | apply Kd.R_drew)); exact HO264.out))) (below_size (by repeat (first | (with_reducible first | exact HB.out | apply below_alloc | apply pw_below_drewN | apply below_drew1) | exact HB.out)))); have n2_ := Aside0.mk (below_step (by repeat (first | (with_reducible first | exact HB.out | apply below_alloc | apply pw_below_drewN | apply below_drew1) | exact HB.out)) hb); clear HO264; clear HB; have HO264 := n0_; have HO272 := n1_; have HB := n2_; clear n0_ n1_ n2_; (try clear hb); (try clear hb2); (try clear hk); (try clear hi); (try clear ho0)))
            (try simp only [Act.put, List.setIfInBounds_toArray, List.set_cons_zero, List.set_cons_succ])
            go_cut [75] (fun v75 wc => ∃ (kq : Nat) (x75_12 : Bool), v75 = .bool x75_12 ∧ Aside0 (careenlaw06_FrameTorn.j1 kq l0 l1 a2 t261 x8_1 t262 t267 t268 t269 x75_12 = some true) ∧ Aside0 (kq ≤ k1) ∧ Aside0 (Kd.R k23 23 wc w.heap.size (fun k_ => some k_ ≠ (v271 : Value).ownBlock) (.slice Ao15 t262.length co15) t262) ∧ Aside0 (Kd.R k23 23 wc w.heap.size (fun k_ => some k_ ≠ ((.slice Ao15 t262.length co15) : Value).ownBlock) v271 t268) ∧ Aside0 (Below w.heap.size w wc))
            case first =>
              have H := HC13.out
              clear HC13
              by_cases c18 : t266 = true
              · subst c18
                have H1 : (if t270 = 0 then (if t269 > t267 then (careenlaw06_FrameTorn.j1 k1 l0 l1 a2 t261 x8_1 t262 t267 t268 t269 true) else (if (t268.length : Int) > (t262.length : Int) then (careenlaw06_FrameTorn.j1 k1 l0 l1 a2 t261 x8_1 t262 t267 t268 t269 true) else (if 0 ≤ (t268.length : Int) then (if (t268.length : Int) ≤ (t262.length : Int) then ((careenref06_Same.f k1 t268 (t262.take ((t268.length : Int) : Int).toNat)).bind fun t277 => (careenlaw06_FrameTorn.j1 k1 l0 l1 a2 t261 x8_1 t262 t267 t268 t269 (!t277))) else (none)) else (none)))) else (careenlaw06_FrameTorn.j1 k1 l0 l1 a2 t261 x8_1 t262 t267 t268 t269 true)) = some true := by rw [if_pos rfl] at H; exact H
                clear H
                have H := H1
                clear H1
                by_cases c19 : t270 = 0
                · rw [if_pos c19] at H
                  have c19b0 : (t270 == 0) = true := beq_iff_eq.mpr c19
                  have c19b1 : (t270 != 0) = false := bne_eq_false_iff_eq.mpr c19
                  clear c19
                  (first | rw [c19b0] | (simp only [i64_w, i32_w]; rw [c19b0]) | skip)
                  by_cases c20 : t269 > t267
                  · rw [if_pos c20] at H
                    have c20b0 : decide (t267 < t269) = true := decide_eq_true c20
                    clear c20
                    have H' := Aside0.mk H
                    clear H
                    go_wp2
                    go_meet
                    case rel => exact ⟨_, (true), (by first | rfl | (simp; done) | (simp [*]; done)), H', ⟨by have := HK1.out; first | omega | exact Nat.le_refl _⟩, ⟨by (with_reducible repeat (first | apply Kd.R_alloc | apply Kd.R_drewN | apply Kd.R_drew)); exact Kd.R_mono HO264.out (fun _ hk => hk.2)⟩, ⟨by (with_reducible repeat (first | apply Kd.R_alloc | apply Kd.R_drewN | apply Kd.R_drew)); exact Kd.R_mono HO272.out (fun _ hk => hk.2)⟩, ⟨by repeat (first | (with_reducible first | exact HB.out | apply below_alloc | apply pw_below_drewN | apply below_drew1) | exact HB.out)⟩⟩
                  · rw [if_neg c20] at H
                    have c20b0 : decide (t267 < t269) = false := decide_eq_false c20
                    clear c20
                    by_cases c21 : (t268.length : Int) > (t262.length : Int)
                    · rw [if_pos c21] at H
                      have c21b0 : decide ((t262.length : Int) < (t268.length : Int)) = true := decide_eq_true c21
                      have c21b1 : decide (t262.length < t268.length) = true := decide_eq_true (Int.ofNat_lt.mp c21)
                      clear c21
                      have H' := Aside0.mk H
                      clear H
                      obtain ⟨Ao22, co22, eo22⟩ := Kd.R_slice HO272.out
                      subst eo22
                      go_wp2
                      go_meet
                      case rel => exact ⟨_, (true), (by first | rfl | (simp; done) | (simp [*]; done)), H', ⟨by have := HK1.out; first | omega | exact Nat.le_refl _⟩, ⟨by (with_reducible repeat (first | apply Kd.R_alloc | apply Kd.R_drewN | apply Kd.R_drew)); exact Kd.R_mono HO264.out (fun _ hk => hk.2)⟩, ⟨by (with_reducible repeat (first | apply Kd.R_alloc | apply Kd.R_drewN | apply Kd.R_drew)); exact Kd.R_mono HO272.out (fun _ hk => hk.2)⟩, ⟨by repeat (first | (with_reducible first | exact HB.out | apply below_alloc | apply pw_below_drewN | apply below_drew1) | exact HB.out)⟩⟩
                    · rw [if_neg c21] at H
                      have c21b0 : decide ((t262.length : Int) < (t268.length : Int)) = false := decide_eq_false c21
                      have c21b1 : decide (t262.length < t268.length) = false := decide_eq_false (fun h => c21 (Int.ofNat_lt.mpr h))
                      clear c21
                      by_cases c23 : 0 ≤ (t268.length : Int)
                      · rw [if_pos c23] at H
                        have c23b0 := eq_true c23
                        have c23b1 : decide (0 ≤ (t268.length : Int)) = true := decide_eq_true c23
                        clear c23
                        by_cases c24 : (t268.length : Int) ≤ (t262.length : Int)
                        · rw [if_pos c24] at H
                          have c24b0 := eq_true c24
                          have c24b1 : decide ((t268.length : Int) ≤ (t262.length : Int)) = true := decide_eq_true c24
                          clear c24
                          obtain ⟨y273, hy273⟩ : ∃ y_ : List (S23), y_ = (t262.take ((t268.length : Int) : Int).toNat) := ⟨_, rfl⟩
                          replace H : ((careenref06_Same.f k1 t268 y273).bind fun t277 => (careenlaw06_FrameTorn.j1 k1 l0 l1 a2 t261 x8_1 t262 t267 t268 t269 (!t277))) = some true := by first | (rw [hy273]; with_reducible exact H) | (have H2_ := (Option.bind_some _ _).symm.trans H; rw [hy273]; with_reducible exact H2_) | (have H2_ := (Option.bind_some _ _).symm.trans H; with_reducible exact H2_) | with_reducible exact H | (rw [hy273]; exact H) | exact H
                          have Ny273 := Aside0.mk hy273
                          clear hy273
                          replace H := Option.bind_eq_some_iff.mp H
                          obtain ⟨t277, A250, H⟩ := H
                          replace H : (careenlaw06_FrameTorn.j1 k1 l0 l1 a2 t261 x8_1 t262 t267 t268 t269 (!t277)) = some true := H
                          have A25 := Aside0.mk A250
                          clear A250
                          have H' := Aside0.mk H
                          clear H
                          obtain ⟨Ao26, co26, eo26⟩ := Kd.R_slice HO272.out
                          subst eo26
                          have q27 : ((t268.length : Int) : Int) ≤ ((t262.length : Int) : Int) := of_decide_eq_true (by first | (with_reducible assumption) | assumption)
                          obtain ⟨i027, hi027, _, hsz27, _⟩ := info_parts info23
                          have hroom27 : t262.length ≤ co15 := (Kd.R_reads' HO264.out).2.1
                          have hC27 : Kd.C k23 _ Ao15 t262.length t262 := (Kd.R_reads' HO264.out).2.2
                          have hcut27 := cut_to (P := Try.prog) 32 23 .i64 Try.underlying32 hi027 Ao15 t262.length co15 (t268.length : Int) (of_decide_eq_true (by first | (with_reducible assumption) | assumption)) q27 hroom27
                          have hr27 := Kd.C_take (m := ((t268.length : Int) : Int).toNat) hC27 (by omega)
                          have hy27 : y273.length = ((t268.length : Int) : Int).toNat := (by rw [Ny273.out, List.length_take]; omega)
                          rw [← Ny273.out] at hr27
                          rw [← hy27] at hcut27
                          have HR276 := Aside0.mk hr27
                          have HC276 := Aside0.mk (show y273.length ≤ co15 from by omega)
                          clear hr27 hC27 hroom27 hi027 hsz27
                          have KY27 := Aside0.mk hy27
                          clear hy27
                          have KL27 := Aside0.mk (show ((t268.length : Int) : Int).toNat ≤ t262.length from by omega)
                          replace q27 := eq_true q27
                          go_wp2_with (first | (go_at_call 20; (with_reducible refine (careenref06_Same.calls k1 _ _ t268 _ _ y273 t277 _ ?side1 ?side2 ?side3 ?side4 A25.out).mono ?_); (case side1 => repeat (first | exact (Kd.R_reads' HO272.out).2.2 | (with_reducible refine Kd.C_alloc ?_ _) | (with_reducible refine Kd.C_drewN ?_ _) | (with_reducible refine Kd.C_drew ?_))); (case side2 => exact (Kd.R_reads' HO272.out).2.1); (case side3 => repeat (first | exact (by repeat (first | (with_reducible exact HR276.out) | (with_reducible refine Kd.C_alloc ?_ _) | (with_reducible refine Kd.C_drewN ?_ _) | (with_reducible refine Kd.C_drew ?_) | exact HR276.out)) | (with_reducible refine Kd.C_alloc ?_ _) | (with_reducible refine Kd.C_drewN ?_ _) | (with_reducible refine Kd.C_drew ?_))); (case side4 => exact HC276.out); rintro e w' ⟨rfl, ⟨nd, rfl⟩⟩))
                          go_meet
                          case rel => exact ⟨_, (!t277), (by first | rfl | (simp; done) | (simp [*]; done)), H', ⟨by have := HK1.out; first | omega | exact Nat.le_refl _⟩, ⟨by (with_reducible repeat (first | apply Kd.R_alloc | apply Kd.R_drewN | apply Kd.R_drew)); exact Kd.R_mono HO264.out (fun _ hk => hk.2)⟩, ⟨by (with_reducible repeat (first | apply Kd.R_alloc | apply Kd.R_drewN | apply Kd.R_drew)); exact Kd.R_mono HO272.out (fun _ hk => hk.2)⟩, ⟨by repeat (first | (with_reducible first | exact HB.out | apply below_alloc | apply pw_below_drewN | apply below_drew1) | exact HB.out)⟩⟩
                        · rw [if_neg c24] at H
                          exact absurd H (by simp)
                      · rw [if_neg c23] at H
                        exact absurd H (by simp)
                · rw [if_neg c19] at H
                  have c19b0 : (t270 == 0) = false := beq_eq_false_iff_ne.mpr c19
                  have c19b1 : (t270 != 0) = true := bne_iff_ne.mpr c19
                  (first | rw [c19b0] | (simp only [i64_w, i32_w]; rw [c19b0]) | skip)
                  have H' := Aside0.mk H
                  clear H
                  go_wp2
                  go_meet
                  case rel => exact ⟨_, (true), (by first | rfl | (simp; done) | (simp [*]; done)), H', ⟨by have := HK1.out; first | omega | exact Nat.le_refl _⟩, ⟨by (with_reducible repeat (first | apply Kd.R_alloc | apply Kd.R_drewN | apply Kd.R_drew)); exact Kd.R_mono HO264.out (fun _ hk => hk.2)⟩, ⟨by (with_reducible repeat (first | apply Kd.R_alloc | apply Kd.R_drewN | apply Kd.R_drew)); exact Kd.R_mono HO272.out (fun _ hk => hk.2)⟩, ⟨by repeat (first | (with_reducible first | exact HB.out | apply below_alloc | apply pw_below_drewN | apply below_drew1) | exact HB.out)⟩⟩
              · replace c18 := Bool.eq_false_iff.mpr c18
                subst c18
                have H1 : (careenlaw06_FrameTorn.j1 k1 l0 l1 a2 t261 x8_1 t262 t267 t268 t269 true) = some true := by rw [if_neg (show ¬ (false = true) by decide)] at H; exact H
                clear H
                have H := H1
                clear H1
                have H' := Aside0.mk H
                clear H
                go_wp2
                go_meet
                case rel => exact ⟨_, (true), (by first | rfl | (simp; done) | (simp [*]; done)), H', ⟨by have := HK1.out; first | omega | exact Nat.le_refl _⟩, ⟨by (with_reducible repeat (first | apply Kd.R_alloc | apply Kd.R_drewN | apply Kd.R_drew)); exact Kd.R_mono HO264.out (fun _ hk => hk.2)⟩, ⟨by (with_reducible repeat (first | apply Kd.R_alloc | apply Kd.R_drewN | apply Kd.R_drew)); exact Kd.R_mono HO272.out (fun _ hk => hk.2)⟩, ⟨by repeat (first | (with_reducible first | exact HB.out | apply below_alloc | apply pw_below_drewN | apply below_drew1) | exact HB.out)⟩⟩
            case rest =>
              clear HC13
              try clear c1
              try clear c2
              try clear p2
              try clear q2
              try clear c5
              try clear c6
              try clear c6b0
              try clear p6
              try clear c10
              try clear c10b0
              try clear c10b1
              try clear c11
              try clear c11b0
              try clear c11b1
              try clear c16
              try clear c17
              try clear c18
              try clear c19
              try clear c19b0
              try clear c19b1
              try clear c20
              try clear c20b0
              try clear c21
              try clear c21b0
              try clear c21b1
              try clear c23
              try clear c23b0
              try clear c23b1
              try clear c24
              try clear c24b0
              try clear c24b1
              try clear q27
              try clear p2
              try clear q27
              obtain ⟨kq, x75_12, rfl, HA, HJ12, HO_9, HO_13, HB⟩ := hcut
              cases kq with
              | zero => cases (show (none : Option _) = some _ from HA.out)
              | succ kj12 =>
                have H := HA.out
                clear HA
                simp only [careenlaw06_FrameTorn.j1] at H
                by_cases c28 : x75_12 = true
                · subst c28
                  have H1 : (some false) = some true := by rw [if_pos rfl] at H; exact H
                  clear H
                  have H := H1
                  clear H1
                  exact absurd H (by simp)
                · replace c28 := Bool.eq_false_iff.mpr c28
                  subst c28
                  have H1 : (if 0 ≤ (t268.length : Int) then (if (t268.length : Int) ≤ (t262.length : Int) then ((careenlaw06_bytes.f kj12 x8_1 (t262.take ((t268.length : Int) : Int).toNat)).bind fun bt282 => (if (bt282.1.size : Int) = t269 then (if (t268.length : Int) < (t262.length : Int) then (if 0 ≤ (wrap64 ((t268.length : Int) + 1)) then (if (wrap64 ((t268.length : Int) + 1)) ≤ (t262.length : Int) then ((careenlaw06_bytes.f kj12 x8_1 (t262.take ((wrap64 ((t268.length : Int) + 1)) : Int).toNat)).bind fun bt288 => (if (bt288.1.size : Int) ≤ t267 then (some false) else (careenlaw06_FrameTorn.l0 kj12 l0 l1 a2 t261 (wrap64 (x8_1 + 1))))) else (none)) else (none)) else (careenlaw06_FrameTorn.l0 kj12 l0 l1 a2 t261 (wrap64 (x8_1 + 1)))) else (some false))) else (none)) else (none)) = some true := by rw [if_neg (show ¬ (false = true) by decide)] at H; exact H
                  clear H
                  have H := H1
                  clear H1
                  by_cases c29 : 0 ≤ (t268.length : Int)
                  · rw [if_pos c29] at H
                    have c29b0 := eq_true c29
                    have c29b1 : decide (0 ≤ (t268.length : Int)) = true := decide_eq_true c29
                    clear c29
                    by_cases c30 : (t268.length : Int) ≤ (t262.length : Int)
                    · rw [if_pos c30] at H
                      have c30b0 := eq_true c30
                      have c30b1 : decide ((t268.length : Int) ≤ (t262.length : Int)) = true := decide_eq_true c30
                      clear c30
                      obtain ⟨y278, hy278⟩ : ∃ y_ : List (S23), y_ = (t262.take ((t268.length : Int) : Int).toNat) := ⟨_, rfl⟩
                      replace H : ((careenlaw06_bytes.f kj12 x8_1 y278).bind fun bt282 => (if (bt282.1.size : Int) = t269 then (if (t268.length : Int) < (t262.length : Int) then (if 0 ≤ (wrap64 ((t268.length : Int) + 1)) then (if (wrap64 ((t268.length : Int) + 1)) ≤ (t262.length : Int) then ((careenlaw06_bytes.f kj12 x8_1 (t262.take ((wrap64 ((t268.length : Int) + 1)) : Int).toNat)).bind fun bt288 => (if (bt288.1.size : Int) ≤ t267 then (some false) else (careenlaw06_FrameTorn.l0 kj12 l0 l1 a2 t261 (wrap64 (x8_1 + 1))))) else (none)) else (none)) else (careenlaw06_FrameTorn.l0 kj12 l0 l1 a2 t261 (wrap64 (x8_1 + 1)))) else (some false))) = some true := by first | (rw [hy278]; with_reducible exact H) | (have H2_ := (Option.bind_some _ _).symm.trans H; rw [hy278]; with_reducible exact H2_) | (have H2_ := (Option.bind_some _ _).symm.trans H; with_reducible exact H2_) | with_reducible exact H | (rw [hy278]; exact H) | exact H
                      have Ny278 := Aside0.mk hy278
                      clear hy278
                      replace H := Option.bind_eq_some_iff.mp H
                      obtain ⟨⟨t282, t283⟩, A310, H⟩ := H
                      replace H : (if (t282.size : Int) = t269 then (if (t268.length : Int) < (t262.length : Int) then (if 0 ≤ (wrap64 ((t268.length : Int) + 1)) then (if (wrap64 ((t268.length : Int) + 1)) ≤ (t262.length : Int) then ((careenlaw06_bytes.f kj12 x8_1 (t262.take ((wrap64 ((t268.length : Int) + 1)) : Int).toNat)).bind fun bt288 => (if (bt288.1.size : Int) ≤ t267 then (some false) else (careenlaw06_FrameTorn.l0 kj12 l0 l1 a2 t261 (wrap64 (x8_1 + 1))))) else (none)) else (none)) else (careenlaw06_FrameTorn.l0 kj12 l0 l1 a2 t261 (wrap64 (x8_1 + 1)))) else (some false)) = some true := H
                      have A31 := Aside0.mk A310
                      clear A310
                      by_cases c32 : (t282.size : Int) = t269
                      · rw [if_pos c32] at H
                        have c32b0 : ((t282.size : Int) == t269) = true := beq_iff_eq.mpr c32
                        have c32b1 : ((t282.size : Int) != t269) = false := bne_eq_false_iff_eq.mpr c32
                        clear c32
                        by_cases c33 : (t268.length : Int) < (t262.length : Int)
                        · rw [if_pos c33] at H
                          have c33b0 : decide ((t268.length : Int) < (t262.length : Int)) = true := decide_eq_true c33
                          have c33b1 : decide (t268.length < t262.length) = true := decide_eq_true (Int.ofNat_lt.mp c33)
                          clear c33
                          obtain ⟨ji34, hji34⟩ : ∃ j_ : Int, (wrap64 ((t268.length : Int) + 1)) = j_ := ⟨_, rfl⟩
                          replace H : (if 0 ≤ (ji34) then (if (ji34) ≤ (t262.length : Int) then ((careenlaw06_bytes.f kj12 x8_1 (t262.take ((ji34) : Int).toNat)).bind fun bt288 => (if (bt288.1.size : Int) ≤ t267 then (some false) else (careenlaw06_FrameTorn.l0 kj12 l0 l1 a2 t261 (wrap64 (x8_1 + 1))))) else (none)) else (none)) = some true := by first | (rw [hji34] at H; exact H) | (simp only [hji34] at H ⊢; exact H)
                          (try rw [hji34] at A31)
                          have hji34w : (IntKind.i64.wrap ((t268.length : Int) + 1)) = ji34 := (i64_w _).trans hji34
                          by_cases c35 : 0 ≤ (ji34)
                          · rw [if_pos c35] at H
                            have c35M : max ji34 0 = ji34 := Int.max_eq_left c35
                            have c35b0 := eq_true c35
                            have c35b1 : decide (0 ≤ (ji34)) = true := decide_eq_true c35
                            clear c35
                            by_cases c36 : (ji34) ≤ (t262.length : Int)
                            · rw [if_pos c36] at H
                              have c36b0 := eq_true c36
                              have c36b1 : decide ((ji34) ≤ (t262.length : Int)) = true := decide_eq_true c36
                              clear c36
                              obtain ⟨y284, hy284⟩ : ∃ y_ : List (S23), y_ = (t262.take ((ji34) : Int).toNat) := ⟨_, rfl⟩
                              replace H : ((careenlaw06_bytes.f kj12 x8_1 y284).bind fun bt288 => (if (bt288.1.size : Int) ≤ t267 then (some false) else (careenlaw06_FrameTorn.l0 kj12 l0 l1 a2 t261 (wrap64 (x8_1 + 1))))) = some true := by first | (rw [hy284]; with_reducible exact H) | (have H2_ := (Option.bind_some _ _).symm.trans H; rw [hy284]; with_reducible exact H2_) | (have H2_ := (Option.bind_some _ _).symm.trans H; with_reducible exact H2_) | with_reducible exact H | (rw [hy284]; exact H) | exact H
                              have Ny284 := Aside0.mk hy284
                              clear hy284
                              replace H := Option.bind_eq_some_iff.mp H
                              obtain ⟨⟨t288, t289⟩, A370, H⟩ := H
                              replace H : (if (t288.size : Int) ≤ t267 then (some false) else (careenlaw06_FrameTorn.l0 kj12 l0 l1 a2 t261 (wrap64 (x8_1 + 1)))) = some true := H
                              have A37 := Aside0.mk A370
                              clear A370
                              by_cases c38 : (t288.size : Int) ≤ t267
                              · rw [if_pos c38] at H
                                have c38b0 : decide ((t288.size : Int) ≤ t267) = true := decide_eq_true c38
                                clear c38
                                exact absurd H (by simp)
                              · rw [if_neg c38] at H
                                have c38b0 : decide ((t288.size : Int) ≤ t267) = false := decide_eq_false c38
                                clear c38
                                have H' := Aside0.mk H
                                clear H
                                obtain ⟨Ao39, co39, eo39⟩ := Kd.R_slice HO_13.out
                                subst eo39
                                have q40 : ((t268.length : Int) : Int) ≤ ((t262.length : Int) : Int) := of_decide_eq_true (by first | (with_reducible assumption) | assumption)
                                obtain ⟨i040, hi040, _, hsz40, _⟩ := info_parts info23
                                have hroom40 : t262.length ≤ co15 := (Kd.R_reads' HO_9.out).2.1
                                have hC40 : Kd.C k23 _ Ao15 t262.length t262 := (Kd.R_reads' HO_9.out).2.2
                                have hcut40 := cut_to (P := Try.prog) 32 23 .i64 Try.underlying32 hi040 Ao15 t262.length co15 (t268.length : Int) (of_decide_eq_true (by first | (with_reducible assumption) | assumption)) q40 hroom40
                                have hr40 := Kd.C_take (m := ((t268.length : Int) : Int).toNat) hC40 (by omega)
                                have hy40 : y278.length = ((t268.length : Int) : Int).toNat := (by rw [Ny278.out, List.length_take]; omega)
                                rw [← Ny278.out] at hr40
                                rw [← hy40] at hcut40
                                have HR281 := Aside0.mk hr40
                                have HC281 := Aside0.mk (show y278.length ≤ co15 from by omega)
                                clear hr40 hC40 hroom40 hi040 hsz40
                                have KY40 := Aside0.mk hy40
                                clear hy40
                                have KL40 := Aside0.mk (show ((t268.length : Int) : Int).toNat ≤ t262.length from by omega)
                                replace q40 := eq_true q40
                                go_wp2_with (first | ((with_reducible refine gate_callee (f := 21) rfl ?_); refine goesL_ (some 82) rfl rfl Try.func21 (by kernel_rfl) rfl #[.int .i64 x8_1, .slice Ao15 y278.length co15] rfl (by (try simp only [List.map_toArray, List.map_cons, List.map_nil]); first | done | rfl | (simp only [List.length_drop, List.length_take]; rfl)) ?_; (with_reducible refine (careenlaw06_bytes.calls kj12 x8_1 _ _ y278 t282 t283 _ ?side1 ?side2 A31.out).mono ?_); (case side1 => repeat (first | exact (by repeat (first | (with_reducible exact HR281.out) | (with_reducible refine Kd.C_alloc ?_ _) | (with_reducible refine Kd.C_drewN ?_ _) | (with_reducible refine Kd.C_drew ?_) | exact HR281.out)) | (with_reducible refine Kd.C_alloc ?_ _) | (with_reducible refine Kd.C_drewN ?_ _) | (with_reducible refine Kd.C_drew ?_))); (case side2 => exact HC281.out); rintro e w41 ⟨rfl, hb⟩; refine ⟨_, rfl, ?_⟩; have n0_ := Aside0.mk (Kd.R_below (by (with_reducible repeat (first | apply Kd.R_alloc | apply Kd.R_drewN | apply Kd.R_drew)); exact HO_9.out) hb); have n1_ := Aside0.mk (Kd.R_below (by (with_reducible repeat (first | apply Kd.R_alloc | apply Kd.R_drewN | apply Kd.R_drew)); exact HO_13.out) hb); have n2_ := Aside0.mk (Kd.C_below (by repeat (first | (with_reducible exact HR281.out) | (with_reducible refine Kd.C_alloc ?_ _) | (with_reducible refine Kd.C_drewN ?_ _) | (with_reducible refine Kd.C_drew ?_) | exact HR281.out)) hb); have n3_ := Aside0.mk (below_step (by repeat (first | (with_reducible first | exact HB.out | apply below_alloc | apply pw_below_drewN | apply below_drew1) | exact HB.out)) hb); clear HO_9; clear HO_13; clear HR281; clear HB; have HO_9 := n0_; have HO_13 := n1_; have HR281 := n2_; have HB := n3_; clear n0_ n1_ n2_ n3_; (try clear hb); (try clear hb2); (try clear hk); (try clear hi); have q42 : ((ji34) : Int) ≤ ((t262.length : Int) : Int) := of_decide_eq_true (by first | (with_reducible assumption) | assumption); obtain ⟨i042, hi042, _, hsz42, _⟩ := info_parts info23; have hroom42 : t262.length ≤ co15 := (Kd.R_reads' HO_9.out).2.1; have hC42 : Kd.C k23 _ Ao15 t262.length t262 := (Kd.R_reads' HO_9.out).2.2; have hcut42 := cut_to (P := Try.prog) 32 23 .i64 Try.underlying32 hi042 Ao15 t262.length co15 (ji34) (of_decide_eq_true (by first | (with_reducible assumption) | assumption)) q42 hroom42; have hr42 := Kd.C_take (m := ((ji34) : Int).toNat) hC42 (by omega); have hy42 : y284.length = ((ji34) : Int).toNat := (by rw [Ny284.out, List.length_take]; omega); rw [← Ny284.out] at hr42; rw [← hy42] at hcut42; have HR287 := Aside0.mk hr42; have HC287 := Aside0.mk (show y284.length ≤ co15 from by omega); clear hr42 hC42 hroom42 hi042 hsz42; have KY42 := Aside0.mk hy42; clear hy42; have KL42 := Aside0.mk (show ((ji34) : Int).toNat ≤ t262.length from by omega); replace q42 := eq_true q42) | ((with_reducible refine gate_callee (f := 21) rfl ?_); refine goesL_ (some 101) rfl rfl Try.func21 (by kernel_rfl) rfl #[.int .i64 x8_1, .slice Ao15 y284.length co15] rfl (by (try simp only [List.map_toArray, List.map_cons, List.map_nil]); first | done | rfl | (simp only [List.length_drop, List.length_take]; rfl)) ?_; (with_reducible refine (careenlaw06_bytes.calls kj12 x8_1 _ _ y284 t288 t289 _ ?side1 ?side2 A37.out).mono ?_); (case side1 => repeat (first | exact (by repeat (first | (with_reducible exact HR287.out) | (with_reducible refine Kd.C_alloc ?_ _) | (with_reducible refine Kd.C_drewN ?_ _) | (with_reducible refine Kd.C_drew ?_) | exact HR287.out)) | (with_reducible refine Kd.C_alloc ?_ _) | (with_reducible refine Kd.C_drewN ?_ _) | (with_reducible refine Kd.C_drew ?_))); (case side2 => exact HC287.out); rintro e w43 ⟨rfl, hb⟩; refine ⟨_, rfl, ?_⟩; have n0_ := Aside0.mk (Kd.R_below (by (with_reducible repeat (first | apply Kd.R_alloc | apply Kd.R_drewN | apply Kd.R_drew)); exact HO_9.out) hb); have n1_ := Aside0.mk (Kd.R_below (by (with_reducible repeat (first | apply Kd.R_alloc | apply Kd.R_drewN | apply Kd.R_drew)); exact HO_13.out) hb); have n2_ := Aside0.mk (Kd.C_below (by repeat (first | (with_reducible exact HR281.out) | (with_reducible refine Kd.C_alloc ?_ _) | (with_reducible refine Kd.C_drewN ?_ _) | (with_reducible refine Kd.C_drew ?_) | exact HR281.out)) hb); have n3_ := Aside0.mk (Kd.C_below (by repeat (first | (with_reducible exact HR287.out) | (with_reducible refine Kd.C_alloc ?_ _) | (with_reducible refine Kd.C_drewN ?_ _) | (with_reducible refine Kd.C_drew ?_) | exact HR287.out)) hb); have n4_ := Aside0.mk (below_step (by repeat (first | (with_reducible first | exact HB.out | apply below_alloc | apply pw_below_drewN | apply below_drew1) | exact HB.out)) hb); clear HO_9; clear HO_13; clear HR281; clear HR287; clear HB; have HO_9 := n0_; have HO_13 := n1_; have HR281 := n2_; have HR287 := n3_; have HB := n4_; clear n0_ n1_ n2_ n3_ n4_; (try clear hb); (try clear hb2); (try clear hk); (try clear hi)))
                                go_roundg kj12
                                case measure => have := HK1.out; have := HJ12.out; omega
                                case rel => exact ⟨(wrap64 (x8_1 + 1)), (by first | rfl | (simp; done) | (simp [*]; done)), H', ⟨by have := HK1.out; have := HJ12.out; omega⟩, ⟨by repeat (first | (with_reducible first | exact HB.out | apply below_alloc | apply pw_below_drewN | apply below_drew1) | exact HB.out)⟩⟩
                            · rw [if_neg c36] at H
                              exact absurd H (by simp)
                          · rw [if_neg c35] at H
                            exact absurd H (by simp)
                        · rw [if_neg c33] at H
                          have c33b0 : decide ((t268.length : Int) < (t262.length : Int)) = false := decide_eq_false c33
                          have c33b1 : decide (t268.length < t262.length) = false := decide_eq_false (fun h => c33 (Int.ofNat_lt.mpr h))
                          clear c33
                          have H' := Aside0.mk H
                          clear H
                          obtain ⟨Ao44, co44, eo44⟩ := Kd.R_slice HO_13.out
                          subst eo44
                          have q45 : ((t268.length : Int) : Int) ≤ ((t262.length : Int) : Int) := of_decide_eq_true (by first | (with_reducible assumption) | assumption)
                          obtain ⟨i045, hi045, _, hsz45, _⟩ := info_parts info23
                          have hroom45 : t262.length ≤ co15 := (Kd.R_reads' HO_9.out).2.1
                          have hC45 : Kd.C k23 _ Ao15 t262.length t262 := (Kd.R_reads' HO_9.out).2.2
                          have hcut45 := cut_to (P := Try.prog) 32 23 .i64 Try.underlying32 hi045 Ao15 t262.length co15 (t268.length : Int) (of_decide_eq_true (by first | (with_reducible assumption) | assumption)) q45 hroom45
                          have hr45 := Kd.C_take (m := ((t268.length : Int) : Int).toNat) hC45 (by omega)
                          have hy45 : y278.length = ((t268.length : Int) : Int).toNat := (by rw [Ny278.out, List.length_take]; omega)
                          rw [← Ny278.out] at hr45
                          rw [← hy45] at hcut45
                          have HR281 := Aside0.mk hr45
                          have HC281 := Aside0.mk (show y278.length ≤ co15 from by omega)
                          clear hr45 hC45 hroom45 hi045 hsz45
                          have KY45 := Aside0.mk hy45
                          clear hy45
                          have KL45 := Aside0.mk (show ((t268.length : Int) : Int).toNat ≤ t262.length from by omega)
                          replace q45 := eq_true q45
                          go_wp2_with (first | ((with_reducible refine gate_callee (f := 21) rfl ?_); refine goesL_ (some 82) rfl rfl Try.func21 (by kernel_rfl) rfl #[.int .i64 x8_1, .slice Ao15 y278.length co15] rfl (by (try simp only [List.map_toArray, List.map_cons, List.map_nil]); first | done | rfl | (simp only [List.length_drop, List.length_take]; rfl)) ?_; (with_reducible refine (careenlaw06_bytes.calls kj12 x8_1 _ _ y278 t282 t283 _ ?side1 ?side2 A31.out).mono ?_); (case side1 => repeat (first | exact (by repeat (first | (with_reducible exact HR281.out) | (with_reducible refine Kd.C_alloc ?_ _) | (with_reducible refine Kd.C_drewN ?_ _) | (with_reducible refine Kd.C_drew ?_) | exact HR281.out)) | (with_reducible refine Kd.C_alloc ?_ _) | (with_reducible refine Kd.C_drewN ?_ _) | (with_reducible refine Kd.C_drew ?_))); (case side2 => exact HC281.out); rintro e w46 ⟨rfl, hb⟩; refine ⟨_, rfl, ?_⟩; have n0_ := Aside0.mk (Kd.R_below (by (with_reducible repeat (first | apply Kd.R_alloc | apply Kd.R_drewN | apply Kd.R_drew)); exact HO_9.out) hb); have n1_ := Aside0.mk (Kd.R_below (by (with_reducible repeat (first | apply Kd.R_alloc | apply Kd.R_drewN | apply Kd.R_drew)); exact HO_13.out) hb); have n2_ := Aside0.mk (Kd.C_below (by repeat (first | (with_reducible exact HR281.out) | (with_reducible refine Kd.C_alloc ?_ _) | (with_reducible refine Kd.C_drewN ?_ _) | (with_reducible refine Kd.C_drew ?_) | exact HR281.out)) hb); have n3_ := Aside0.mk (below_step (by repeat (first | (with_reducible first | exact HB.out | apply below_alloc | apply pw_below_drewN | apply below_drew1) | exact HB.out)) hb); clear HO_9; clear HO_13; clear HR281; clear HB; have HO_9 := n0_; have HO_13 := n1_; have HR281 := n2_; have HB := n3_; clear n0_ n1_ n2_ n3_; (try clear hb); (try clear hb2); (try clear hk); (try clear hi)))
                          go_roundg kj12
                          case measure => have := HK1.out; have := HJ12.out; omega
                          case rel => exact ⟨(wrap64 (x8_1 + 1)), (by first | rfl | (simp; done) | (simp [*]; done)), H', ⟨by have := HK1.out; have := HJ12.out; omega⟩, ⟨by repeat (first | (with_reducible first | exact HB.out | apply below_alloc | apply pw_below_drewN | apply below_drew1) | exact HB.out)⟩⟩
                      · rw [if_neg c32] at H
                        have c32b0 : ((t282.size : Int) == t269) = false := beq_eq_false_iff_ne.mpr c32
                        have c32b1 : ((t282.size : Int) != t269) = true := bne_iff_ne.mpr c32
                        exact absurd H (by simp)
                    · rw [if_neg c30] at H
                      exact absurd H (by simp)
                  · rw [if_neg c29] at H
                    exact absurd H (by simp)
          · rw [if_neg c11] at H
            exact absurd H (by simp)
        · rw [if_neg c10] at H
          exact absurd H (by simp)
      · rw [if_neg c6] at H
        have c6b0 : decide (x8_1 ≤ 2) = false := decide_eq_false c6
        clear c6
        have HV_ := Aside0.mk (Option.some.inj H)
        clear H
        go_wp2
        go_ret
        exact ⟨by first | exact congrArg (fun b_ => Ending.returned (Value.bool b_)) HV_.out | (have hv_ := HV_.out; simp only [Bool.and_eq_true, beq_iff_eq] at hv_; simp [hv_]; done) | (have hv_ := HV_.out; simp at hv_; simp [*]; done) | rfl | (simp [errW_none, errW_some] <;> rfl) | (simp [*, errW_none, errW_some] <;> rfl), by repeat (first | (with_reducible first | exact HB.out | apply below_alloc | apply pw_below_drewN | apply below_drew1) | exact HB.out)⟩

/-- THE ONE PURE STATEMENT of careenlaw06_FrameTorn. -/
def careenlaw06_FrameTorn.Pure : Prop := ∀ (l0 : List (S57)) (l1 : List ByteArray) (a2 : Int), l0.length * 24 ≤ 140737488351232 → (∀ x ∈ l0, (Lit.int .i64 x.f0).wf = true ∧ (Lit.int .i64 x.f1).wf = true ∧ (Lit.int .i64 x.f2).wf = true) → l1.length * 16 ≤ 140737488351232 → (∀ x ∈ l1, x.size ≤ 9223372036854775807) → (Lit.int .i64 a2).wf = true → ∃ k, careenlaw06_FrameTorn.f k l0 l1 a2 = some true

-- NOT PRINTED: function 6 (careenlaw06_FrameWrong)

end Go.Proofs.Ytmicfaeloanffaa.PAll
