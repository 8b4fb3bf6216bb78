-- Written by a program of this session (wip/xpatch.py, wip/xprint.sh) for seat Ytmicfaeloanffaa.
import Derived.Test.YtmicfaeloanffaaPAllx0
import Derived.Test.YtmicfaeloanffaaPAllx3
import Derived.Test.YtmicfaeloanffaaPAllx5
import Derived.Test.YtmicfaeloanffaaPAllx6
import Derived.Test.YtmicfaeloanffaaPFrx
import Derived.Test.YtmicfaeloanffaaPByt
namespace Go.Proofs.Ytmicfaeloanffaa.PAll
attribute [local go_sem high] Go.Proofs.Ytmicfaeloanffaa.Hand.unary_xor_u32
open Go.RowKit Go.Proofs.YtmicfaeloanffaaW.PrintWords Go.Proofs.YtmicfaeloanffaaW.PrintLast Go.Proofs.YtmicfaeloanffaaW.PrintMore
attribute [local go_sem] max2_int min2_int max_two min_two max_three min_three max_four min_four   -- for this text's walks alone
set_option linter.unusedVariables false
set_option linter.unusedSimpArgs false

/-! ### careenlaw06_FrameAgain: function 9 -/
mutual
def careenlaw06_FrameAgain.l0 : Nat → ByteArray → List (S57) → List ByteArray → Int → ByteArray → Bool → Int → Option (Bool)
  | 0, _, _, _, _, _, _, _ => none
  | k + 1, x0, x1, x2, x3, x4, x11, x12 => if x12 ≤ 2 then ((careenlaw06_Frames.f k x12 x1 x2).bind fun t352 => ((careenlaw06_bytes.f k x12 t352).bind fun bt355 => ((careenlaw06_pick.f x3 (wrap64 ((bt355.1.size : Int) + 1))).bind fun t357 => (if 0 ≤ t357 then (if t357 ≤ (bt355.1.size : Int) then (if (bt355.1.extract 0 (t357 : Int).toNat).size + x4.size ≤ 9223372036854775807 then (if 0 ≤ (mn (wrap64 (t357 + (x4.size : Int))) (bt355.1.size : Int)) then (if (mn (wrap64 (t357 + (x4.size : Int))) (bt355.1.size : Int)) ≤ (bt355.1.size : Int) then (if ((bt355.1.extract 0 (t357 : Int).toNat) ++ x4).size + (bt355.1.extract ((mn (wrap64 (t357 + (x4.size : Int))) (bt355.1.size : Int)) : Int).toNat bt355.1.size).size ≤ 9223372036854775807 then (if ((bt355.1.extract 0 (t357 : Int).toNat) ++ x4).size + (bt355.1.extract (t357 : Int).toNat bt355.1.size).size ≤ 9223372036854775807 then ((some (([x0, bt355.1, ((bt355.1.extract 0 (t357 : Int).toNat) ++ x4) ++ (bt355.1.extract ((mn (wrap64 (t357 + (x4.size : Int))) (bt355.1.size : Int)) : Int).toNat bt355.1.size), ((bt355.1.extract 0 (t357 : Int).toNat) ++ x4) ++ (bt355.1.extract (t357 : Int).toNat bt355.1.size)] : List ByteArray) : List ByteArray)).bind fun y358 => (careenlaw06_FrameAgain.l1 k x0 x1 x2 x3 x4 x11 x12 y358 (y358.length : Int) 0)) else (none)) else (none)) else (none)) else (none)) else (none)) else (none)) else (none))))) else (some x11)
def careenlaw06_FrameAgain.l1 : Nat → ByteArray → List (S57) → List ByteArray → Int → ByteArray → Bool → Int → List ByteArray → Int → Int → Option (Bool)
  | 0, _, _, _, _, _, _, _, _, _, _ => none
  | k + 1, x0, x1, x2, x3, x4, x11, x12, x68, x69, x70 => if x70 < x69 then (if 0 ≤ x70 then (if x70 < (x68.length : Int) then ((frame_Scan.f k x12 (rdOf ByteArray.empty x68 x70)).bind fun bt362 => ((careenlaw06_bytes.f k x12 bt362.1).bind fun bt367 => (if bt367.2 = true then (if bt362.2.1 < 0 then (some false) else (if bt362.2.1 > ((rdOf ByteArray.empty x68 x70).size : Int) then (some false) else (if 0 ≤ bt362.2.1 then (if bt362.2.1 ≤ ((rdOf ByteArray.empty x68 x70).size : Int) then (if bt367.1.toList = ((rdOf ByteArray.empty x68 x70).extract 0 (bt362.2.1 : Int).toNat).toList then (careenlaw06_FrameAgain.l1 k x0 x1 x2 x3 x4 x11 x12 x68 x69 (wrap64 (x70 + 1))) else (some false)) else (none)) else (none)))) else (some false)))) else (none)) else (none)) else (careenlaw06_FrameAgain.l0 k x0 x1 x2 x3 x4 x11 (wrap64 (x12 + 1)))
end
def careenlaw06_FrameAgain.f (k : Nat) (a0 : ByteArray) (l1 : List (S57)) (l2 : List ByteArray) (a3 : Int) (a4 : ByteArray) : Option (Bool) := (careenlaw06_awake.f k).bind fun t351 => (careenlaw06_FrameAgain.l0 k a0 l1 l2 a3 a4 t351 1)
theorem careenlaw06_FrameAgain.mono_l : ∀ k, (∀ y0 y1 y2 y3 y4 y5 y6, LeO (careenlaw06_FrameAgain.l0 k y0 y1 y2 y3 y4 y5 y6) (careenlaw06_FrameAgain.l0 (k + 1) y0 y1 y2 y3 y4 y5 y6)) ∧ (∀ y0 y1 y2 y3 y4 y5 y6 y7 y8 y9, LeO (careenlaw06_FrameAgain.l1 k y0 y1 y2 y3 y4 y5 y6 y7 y8 y9) (careenlaw06_FrameAgain.l1 (k + 1) y0 y1 y2 y3 y4 y5 y6 y7 y8 y9))
  | 0 => ⟨(fun _ _ _ _ _ _ _ r h => by cases (show (none : Option _) = some r from h)), (fun _ _ _ _ _ _ _ _ _ _ r h => by cases (show (none : Option _) = some r from h))⟩
  | k + 1 => by
    obtain ⟨ih0, ih1⟩ := careenlaw06_FrameAgain.mono_l k
    refine ⟨?_, ?_⟩
    · intro y0 y1 y2 y3 y4 y5 y6
      unfold careenlaw06_FrameAgain.l0
      repeat' first
      | (with_reducible exact ih0 _ _ _ _ _ _ _)
      | (with_reducible exact ih1 _ _ _ _ _ _ _ _ _ _)
      | (with_reducible exact careenlaw06_Frames.mono _ _ _ _)
      | (with_reducible exact careenlaw06_awake.mono _)
      | (with_reducible exact careenlaw06_bytes.mono _ _ _)
      | (with_reducible exact frame_Scan.mono _ _ _)
      | (with_reducible exact LeO.refl _)
      | (with_reducible exact LeO.none _)
      | (with_reducible refine LeO.ite ?_ ?_)
      | (with_reducible refine LeO.bind ?_ (fun _ => ?_))
      | exact ih0 _ _ _ _ _ _ _
      | exact ih1 _ _ _ _ _ _ _ _ _ _
      | exact careenlaw06_Frames.mono _ _ _ _
      | exact careenlaw06_awake.mono _
      | exact careenlaw06_bytes.mono _ _ _
      | exact frame_Scan.mono _ _ _
      | exact LeO.none _
      | refine LeO.ite ?_ ?_
      | refine LeO.bind ?_ (fun _ => ?_)
    · intro y0 y1 y2 y3 y4 y5 y6 y7 y8 y9
      unfold careenlaw06_FrameAgain.l1
      repeat' first
      | (with_reducible exact ih0 _ _ _ _ _ _ _)
      | (with_reducible exact ih1 _ _ _ _ _ _ _ _ _ _)
      | (with_reducible exact careenlaw06_Frames.mono _ _ _ _)
      | (with_reducible exact careenlaw06_awake.mono _)
      | (with_reducible exact careenlaw06_bytes.mono _ _ _)
      | (with_reducible exact frame_Scan.mono _ _ _)
      | (with_reducible exact LeO.refl _)
      | (with_reducible exact LeO.none _)
      | (with_reducible refine LeO.ite ?_ ?_)
      | (with_reducible refine LeO.bind ?_ (fun _ => ?_))
      | exact ih0 _ _ _ _ _ _ _
      | exact ih1 _ _ _ _ _ _ _ _ _ _
      | exact careenlaw06_Frames.mono _ _ _ _
      | exact careenlaw06_awake.mono _
      | exact careenlaw06_bytes.mono _ _ _
      | exact frame_Scan.mono _ _ _
      | exact LeO.none _
      | refine LeO.ite ?_ ?_
      | refine LeO.bind ?_ (fun _ => ?_)
theorem careenlaw06_FrameAgain.mono : ∀ a0 a1 a2 a3 a4 k, LeO (careenlaw06_FrameAgain.f k a0 a1 a2 a3 a4) (careenlaw06_FrameAgain.f (k + 1) a0 a1 a2 a3 a4) := by
  intro a0 a1 a2 a3 a4 k
  obtain ⟨ih0, ih1⟩ := careenlaw06_FrameAgain.mono_l k
  unfold careenlaw06_FrameAgain.f
  repeat' first
      | (with_reducible exact ih0 _ _ _ _ _ _ _)
      | (with_reducible exact ih1 _ _ _ _ _ _ _ _ _ _)
      | (with_reducible exact careenlaw06_Frames.mono _ _ _ _)
      | (with_reducible exact careenlaw06_awake.mono _)
      | (with_reducible exact careenlaw06_bytes.mono _ _ _)
      | (with_reducible exact frame_Scan.mono _ _ _)
      | (with_reducible exact LeO.refl _)
      | (with_reducible exact LeO.none _)
      | (with_reducible refine LeO.ite ?_ ?_)
      | (with_reducible refine LeO.bind ?_ (fun _ => ?_))
      | exact ih0 _ _ _ _ _ _ _
      | exact ih1 _ _ _ _ _ _ _ _ _ _
      | exact careenlaw06_Frames.mono _ _ _ _
      | exact careenlaw06_awake.mono _
      | exact careenlaw06_bytes.mono _ _ _
      | exact frame_Scan.mono _ _ _
      | exact LeO.none _
      | refine LeO.ite ?_ ?_
      | refine LeO.bind ?_ (fun _ => ?_)
def careenlaw06_FrameAgain.T7 : Bool × List (List Nat × List Nat) := (true, [([], []), ([], []), ([], []), ([], []), ([2, 3], [2, 3]), ([], []), ([4, 5], [4, 5]), ([], []), ([], []), ([], []), ([9], [9]), ([8, 10], [8, 10]), ([], []), ([12], [12]), ([11, 13], [11, 13]), ([7, 14], [7, 14]), ([6, 15], [6, 15]), ([], []), ([], []), ([17, 18], [17, 18]), ([], []), ([19, 20], [19, 20]), ([], []), ([], []), ([22, 23], [22, 23]), ([21, 24], [21, 24]), ([0, 1, 16, 25], [0, 1, 16, 25]), ([26], [26]), ([], [])])
def careenlaw06_FrameAgain.B7 : List Nat := [0, 0, 0, 0, 12, 0, 60, 0, 0, 0, 512, 1792, 0, 4096, 16128, 32640, 65532, 0, 0, 393216, 0, 1966080, 0, 0, 12582912, 33423360, 67108863, 134217727, 0]
theorem careenlaw06_FrameAgain.tab7 : rtab .any (opsOf Try.f9 7) = careenlaw06_FrameAgain.T7 := by kernel_rfl
theorem careenlaw06_FrameAgain.bits7 : waitsOk careenlaw06_FrameAgain.T7.2 careenlaw06_FrameAgain.B7 = true := by kernel_rfl
set_option maxHeartbeats 8000000 in
set_option maxRecDepth 100000 in
theorem careenlaw06_FrameAgain.calls (k : Nat) (a0 : ByteArray) (A1 : Option Addr) (c1 : Nat) (l1 : List (S57)) (A2 : Option Addr) (c2 : Nat) (l2 : List ByteArray) (a3 : Int) (a4 : ByteArray) (w : World) (hr1 : Kd.C k57 w A1 l1.length l1) (hc1 : l1.length ≤ c1) (hr2 : Kd.C Kd.string w A2 l2.length l2) (hc2 : l2.length ≤ c2) (h : careenlaw06_FrameAgain.f k a0 l1 l2 a3 a4 = some true) :
    Calls Try.prog 9 #[.string a0, .slice A1 l1.length c1, .slice A2 l2.length c2, .int .i64 a3, .string a4] w fun e w' => e = .returned (.bool true) ∧ Below w.heap.size w w' := by
  have HR1 := Aside0.mk hr1
  have HC1 := Aside0.mk hc1
  clear hr1 hc1
  have HR2 := Aside0.mk hr2
  have HC2 := Aside0.mk hc2
  clear hr2 hc2
  have HB := Aside0.mk (Below.refl w.heap.size w)
  have H : ((careenlaw06_awake.f k).bind fun t351 => (careenlaw06_FrameAgain.l0 k a0 l1 l2 a3 a4 t351 1)) = some true := h
  clear h
  replace H := Option.bind_eq_some_iff.mp H
  obtain ⟨t351, A60, H⟩ := H
  replace H : (careenlaw06_FrameAgain.l0 k a0 l1 l2 a3 a4 t351 1) = some true := H
  have A6 := Aside0.mk A60
  clear A60
  have H' := Aside0.mk H
  clear H
  go_enter Try.func9, Try.ntmps9
  go_wp2_with (first | ((with_reducible refine gate_callee (f := 11) rfl ?_); refine goesL_ (some 23) rfl rfl Try.func11 (by kernel_rfl) rfl #[] rfl (by (try simp only [List.map_toArray, List.map_cons, List.map_nil]); first | done | rfl | (simp only [List.length_drop, List.length_take]; rfl)) ?_; (with_reducible refine (careenlaw06_awake.calls k  t351 _ A6.out).mono ?_); rintro e w7 ⟨rfl, hb⟩; refine ⟨_, rfl, ?_⟩; have n0_ := Aside0.mk (below_step (by repeat (first | (with_reducible first | exact HB.out | apply below_alloc | apply pw_below_drewN | apply below_drew1) | exact HB.out)) hb); clear HB; have HB := n0_; clear n0_; (try clear hb); (try clear hb2); (try clear hk); (try clear hi)))
  go_loopg [12] k (fun kq v12 w' => ∃ (x12_1 : Int), v12 = .int .i64 x12_1 ∧ Aside0 (careenlaw06_FrameAgain.l0 kq a0 l1 l2 a3 a4 t351 x12_1 = some true) ∧ Aside0 (kq ≤ k) ∧ Aside0 (Below w.heap.size w w'))
  case atStart => exact ⟨(1), (by first | rfl | (simp; done) | (simp [*]; done)), H', ⟨Nat.le_refl _⟩, ⟨by repeat (first | (with_reducible first | exact HB.out | apply below_alloc | apply pw_below_drewN | apply below_drew1) | exact HB.out)⟩⟩
  case round =>
    clear H'
    try clear c1
    try clear c2
    try clear p2
    obtain ⟨x12_1, rfl, HA, HK1, HB⟩ := hrel
    cases gk with
    | zero => cases (show (none : Option _) = some _ from HA.out)
    | succ k1 =>
      have H := HA.out
      clear HA
      simp only [careenlaw06_FrameAgain.l0] at H
      by_cases c8 : x12_1 ≤ 2
      · rw [if_pos c8] at H
        have c8b0 : decide (x12_1 ≤ 2) = true := decide_eq_true c8
        clear c8
        replace H := Option.bind_eq_some_iff.mp H
        obtain ⟨t352, A90, H⟩ := H
        replace H : ((careenlaw06_bytes.f k1 x12_1 t352).bind fun bt355 => ((careenlaw06_pick.f a3 (wrap64 ((bt355.1.size : Int) + 1))).bind fun t357 => (if 0 ≤ t357 then (if t357 ≤ (bt355.1.size : Int) then (if (bt355.1.extract 0 (t357 : Int).toNat).size + a4.size ≤ 9223372036854775807 then (if 0 ≤ (mn (wrap64 (t357 + (a4.size : Int))) (bt355.1.size : Int)) then (if (mn (wrap64 (t357 + (a4.size : Int))) (bt355.1.size : Int)) ≤ (bt355.1.size : Int) then (if ((bt355.1.extract 0 (t357 : Int).toNat) ++ a4).size + (bt355.1.extract ((mn (wrap64 (t357 + (a4.size : Int))) (bt355.1.size : Int)) : Int).toNat bt355.1.size).size ≤ 9223372036854775807 then (if ((bt355.1.extract 0 (t357 : Int).toNat) ++ a4).size + (bt355.1.extract (t357 : Int).toNat bt355.1.size).size ≤ 9223372036854775807 then ((some (([a0, bt355.1, ((bt355.1.extract 0 (t357 : Int).toNat) ++ a4) ++ (bt355.1.extract ((mn (wrap64 (t357 + (a4.size : Int))) (bt355.1.size : Int)) : Int).toNat bt355.1.size), ((bt355.1.extract 0 (t357 : Int).toNat) ++ a4) ++ (bt355.1.extract (t357 : Int).toNat bt355.1.size)] : List ByteArray) : List ByteArray)).bind fun y358 => (careenlaw06_FrameAgain.l1 k1 a0 l1 l2 a3 a4 t351 x12_1 y358 (y358.length : Int) 0)) else (none)) else (none)) else (none)) else (none)) else (none)) else (none)) else (none)))) = some true := H
        have A9 := Aside0.mk A90
        clear A90
        replace H := Option.bind_eq_some_iff.mp H
        obtain ⟨⟨t355, t356⟩, A100, H⟩ := H
        replace H : ((careenlaw06_pick.f a3 (wrap64 ((t355.size : Int) + 1))).bind fun t357 => (if 0 ≤ t357 then (if t357 ≤ (t355.size : Int) then (if (t355.extract 0 (t357 : Int).toNat).size + a4.size ≤ 9223372036854775807 then (if 0 ≤ (mn (wrap64 (t357 + (a4.size : Int))) (t355.size : Int)) then (if (mn (wrap64 (t357 + (a4.size : Int))) (t355.size : Int)) ≤ (t355.size : Int) then (if ((t355.extract 0 (t357 : Int).toNat) ++ a4).size + (t355.extract ((mn (wrap64 (t357 + (a4.size : Int))) (t355.size : Int)) : Int).toNat t355.size).size ≤ 9223372036854775807 then (if ((t355.extract 0 (t357 : Int).toNat) ++ a4).size + (t355.extract (t357 : Int).toNat t355.size).size ≤ 9223372036854775807 then ((some (([a0, t355, ((t355.extract 0 (t357 : Int).toNat) ++ a4) ++ (t355.extract ((mn (wrap64 (t357 + (a4.size : Int))) (t355.size : Int)) : Int).toNat t355.size), ((t355.extract 0 (t357 : Int).toNat) ++ a4) ++ (t355.extract (t357 : Int).toNat t355.size)] : List ByteArray) : List ByteArray)).bind fun y358 => (careenlaw06_FrameAgain.l1 k1 a0 l1 l2 a3 a4 t351 x12_1 y358 (y358.length : Int) 0)) else (none)) else (none)) else (none)) else (none)) else (none)) else (none)) else (none))) = some true := H
        have A10 := Aside0.mk A100
        clear A100
        replace H := Option.bind_eq_some_iff.mp H
        obtain ⟨t357, A110, H⟩ := H
        replace H : (if 0 ≤ t357 then (if t357 ≤ (t355.size : Int) then (if (t355.extract 0 (t357 : Int).toNat).size + a4.size ≤ 9223372036854775807 then (if 0 ≤ (mn (wrap64 (t357 + (a4.size : Int))) (t355.size : Int)) then (if (mn (wrap64 (t357 + (a4.size : Int))) (t355.size : Int)) ≤ (t355.size : Int) then (if ((t355.extract 0 (t357 : Int).toNat) ++ a4).size + (t355.extract ((mn (wrap64 (t357 + (a4.size : Int))) (t355.size : Int)) : Int).toNat t355.size).size ≤ 9223372036854775807 then (if ((t355.extract 0 (t357 : Int).toNat) ++ a4).size + (t355.extract (t357 : Int).toNat t355.size).size ≤ 9223372036854775807 then ((some (([a0, t355, ((t355.extract 0 (t357 : Int).toNat) ++ a4) ++ (t355.extract ((mn (wrap64 (t357 + (a4.size : Int))) (t355.size : Int)) : Int).toNat t355.size), ((t355.extract 0 (t357 : Int).toNat) ++ a4) ++ (t355.extract (t357 : Int).toNat t355.size)] : List ByteArray) : List ByteArray)).bind fun y358 => (careenlaw06_FrameAgain.l1 k1 a0 l1 l2 a3 a4 t351 x12_1 y358 (y358.length : Int) 0)) else (none)) else (none)) else (none)) else (none)) else (none)) else (none)) else (none)) = some true := H
        have A11 := Aside0.mk A110
        clear A110
        by_cases c12 : 0 ≤ t357
        · rw [if_pos c12] at H
          have c12b0 := eq_true c12
          have c12b1 : decide (0 ≤ t357) = true := decide_eq_true c12
          clear c12
          by_cases c13 : t357 ≤ (t355.size : Int)
          · rw [if_pos c13] at H
            have c13b0 := eq_true c13
            have c13b1 : decide (t357 ≤ (t355.size : Int)) = true := decide_eq_true c13
            clear c13
            by_cases c14 : (t355.extract 0 (t357 : Int).toNat).size + a4.size ≤ 9223372036854775807
            · rw [if_pos c14] at H
              have c14b0 := eq_true c14
              have c14b1 : decide ((t355.extract 0 (t357 : Int).toNat).size + a4.size ≤ 9223372036854775807) = true := decide_eq_true c14
              try have c14b2 : (9223372036854775807 < (t355.extract 0 (t357 : Int).toNat).size + a4.size) = False := eq_false (Nat.not_lt.2 c14)
              (try have c14b8 : (9223372036854775807 < t357.toNat + a4.size) = False := (by have f0_ : 0 ≤ t357 := of_decide_eq_true (by first | (with_reducible assumption) | assumption); have g0_ : t357 ≤ (t355.size : Int) := of_decide_eq_true (by first | (with_reducible assumption) | assumption); have e_ := c14; simp only [ByteArray.size_append, ByteArray.size_extract] at e_; exact eq_false (by omega)))
              obtain ⟨ji15, hji15⟩ : ∃ j_ : Int, (mn (wrap64 (t357 + (a4.size : Int))) (t355.size : Int)) = j_ := ⟨_, rfl⟩
              replace H : (if 0 ≤ (ji15) then (if (ji15) ≤ (t355.size : Int) then (if ((t355.extract 0 (t357 : Int).toNat) ++ a4).size + (t355.extract ((ji15) : Int).toNat t355.size).size ≤ 9223372036854775807 then (if ((t355.extract 0 (t357 : Int).toNat) ++ a4).size + (t355.extract (t357 : Int).toNat t355.size).size ≤ 9223372036854775807 then ((some (([a0, t355, ((t355.extract 0 (t357 : Int).toNat) ++ a4) ++ (t355.extract ((ji15) : Int).toNat t355.size), ((t355.extract 0 (t357 : Int).toNat) ++ a4) ++ (t355.extract (t357 : Int).toNat t355.size)] : List ByteArray) : List ByteArray)).bind fun y358 => (careenlaw06_FrameAgain.l1 k1 a0 l1 l2 a3 a4 t351 x12_1 y358 (y358.length : Int) 0)) else (none)) else (none)) else (none)) else (none)) = some true := by first | (rw [hji15] at H; exact H) | (simp only [hji15] at H ⊢; exact H)
              (try rw [hji15] at A9)
              (try rw [hji15] at A10)
              (try rw [hji15] at A11)
              have hji15_ : (if (t355.size : Int) < (wrap64 (t357 + (a4.size : Int))) then (t355.size : Int) else (wrap64 (t357 + (a4.size : Int)))) = ji15 := hji15
              by_cases c16 : 0 ≤ (ji15)
              · rw [if_pos c16] at H
                have c16M : max ji15 0 = ji15 := Int.max_eq_left c16
                have c16b0 := eq_true c16
                have c16b1 : decide (0 ≤ (ji15)) = true := decide_eq_true c16
                clear c16
                by_cases c17 : (ji15) ≤ (t355.size : Int)
                · rw [if_pos c17] at H
                  have c17b0 := eq_true c17
                  have c17b1 : decide ((ji15) ≤ (t355.size : Int)) = true := decide_eq_true c17
                  clear c17
                  by_cases c18 : ((t355.extract 0 (t357 : Int).toNat) ++ a4).size + (t355.extract ((ji15) : Int).toNat t355.size).size ≤ 9223372036854775807
                  · rw [if_pos c18] at H
                    have c18b0 := eq_true c18
                    have c18b1 : decide (((t355.extract 0 (t357 : Int).toNat) ++ a4).size + (t355.extract ((ji15) : Int).toNat t355.size).size ≤ 9223372036854775807) = true := decide_eq_true c18
                    try have c18b2 : (9223372036854775807 < ((t355.extract 0 (t357 : Int).toNat) ++ a4).size + (t355.extract ((ji15) : Int).toNat t355.size).size) = False := eq_false (Nat.not_lt.2 c18)
                    (try have c18b8 : (9223372036854775807 < t357.toNat + a4.size + (t355.size - ji15.toNat)) = False := (by have f0_ : 0 ≤ t357 := of_decide_eq_true (by first | (with_reducible assumption) | assumption); have g0_ : t357 ≤ (t355.size : Int) := of_decide_eq_true (by first | (with_reducible assumption) | assumption); have f1_ : 0 ≤ ji15 := of_decide_eq_true (by first | (with_reducible assumption) | assumption); have g1_ : ji15 ≤ (t355.size : Int) := of_decide_eq_true (by first | (with_reducible assumption) | assumption); have e_ := c18; simp only [ByteArray.size_append, ByteArray.size_extract] at e_; exact eq_false (by omega)))
                    have c19b0 := eq_true (of_decide_eq_true (by first | (with_reducible assumption) | assumption) : 0 ≤ t357)
                    have c20b0 := eq_true (of_decide_eq_true (by first | (with_reducible assumption) | assumption) : t357 ≤ (t355.size : Int))
                    have c21b0 := eq_true (of_decide_eq_true (by first | (with_reducible assumption) | assumption) : 0 ≤ t357)
                    have c22b0 := eq_true (of_decide_eq_true (by first | (with_reducible assumption) | assumption) : t357 ≤ (t355.size : Int))
                    by_cases c23 : ((t355.extract 0 (t357 : Int).toNat) ++ a4).size + (t355.extract (t357 : Int).toNat t355.size).size ≤ 9223372036854775807
                    · rw [if_pos c23] at H
                      have c23b0 := eq_true c23
                      have c23b1 : decide (((t355.extract 0 (t357 : Int).toNat) ++ a4).size + (t355.extract (t357 : Int).toNat t355.size).size ≤ 9223372036854775807) = true := decide_eq_true c23
                      try have c23b2 : (9223372036854775807 < ((t355.extract 0 (t357 : Int).toNat) ++ a4).size + (t355.extract (t357 : Int).toNat t355.size).size) = False := eq_false (Nat.not_lt.2 c23)
                      (try have c23b8 : (9223372036854775807 < t357.toNat + a4.size + (t355.size - t357.toNat)) = False := (by have f0_ : 0 ≤ t357 := of_decide_eq_true (by first | (with_reducible assumption) | assumption); have g0_ : t357 ≤ (t355.size : Int) := of_decide_eq_true (by first | (with_reducible assumption) | assumption); have e_ := c23; simp only [ByteArray.size_append, ByteArray.size_extract] at e_; exact eq_false (by omega)))
                      obtain ⟨y358, hy358⟩ : ∃ y_ : List ByteArray, y_ = (([a0, t355, ((t355.extract 0 (t357 : Int).toNat) ++ a4) ++ (t355.extract ((ji15) : Int).toNat t355.size), ((t355.extract 0 (t357 : Int).toNat) ++ a4) ++ (t355.extract (t357 : Int).toNat t355.size)] : List ByteArray)) := ⟨_, rfl⟩
                      replace H : (careenlaw06_FrameAgain.l1 k1 a0 l1 l2 a3 a4 t351 x12_1 y358 (y358.length : Int) 0) = some true := by first | (rw [hy358]; with_reducible exact H) | (have H2_ := (Option.bind_some _ _).symm.trans H; rw [hy358]; with_reducible exact H2_) | (have H2_ := (Option.bind_some _ _).symm.trans H; with_reducible exact H2_) | with_reducible exact H | (rw [hy358]; exact H) | exact H
                      have Ny358 := Aside0.mk hy358
                      clear hy358
                      have H' := Aside0.mk H
                      clear H
                      try go_wp2_with (first | ((with_reducible refine gate_callee (f := 16) rfl ?_); refine goesL_ (some 33) rfl rfl Try.func16 (by kernel_rfl) rfl #[.int .i64 x12_1, .slice A1 l1.length c1, .slice A2 l2.length c2] rfl (by (try simp only [List.map_toArray, List.map_cons, List.map_nil]); first | done | rfl | (simp only [List.length_drop, List.length_take]; rfl)) ?_; (with_reducible refine (careenlaw06_Frames.calls k1 x12_1 _ _ l1 _ _ l2 t352 _ ?side1 ?side2 ?side3 ?side4 A9.out).mono ?_); (case side1 => repeat (first | exact (Kd.C_below HR1.out HB.out) | (with_reducible refine Kd.C_alloc ?_ _) | (with_reducible refine Kd.C_drewN ?_ _) | (with_reducible refine Kd.C_drew ?_))); (case side2 => exact HC1.out); (case side3 => repeat (first | exact (Kd.C_below HR2.out HB.out) | (with_reducible refine Kd.C_alloc ?_ _) | (with_reducible refine Kd.C_drewN ?_ _) | (with_reducible refine Kd.C_drew ?_))); (case side4 => exact HC2.out); rintro e w24 ⟨v353, rfl, ho0, hb⟩; refine ⟨_, rfl, ?_⟩; have n0_ := Aside0.mk (Kd.R_lower ho0 (below_size (by repeat (first | (with_reducible first | exact HB.out | apply below_alloc | apply pw_below_drewN | apply below_drew1) | exact HB.out)))); have n1_ := Aside0.mk (below_step (by repeat (first | (with_reducible first | exact HB.out | apply below_alloc | apply pw_below_drewN | apply below_drew1) | exact HB.out)) hb); clear HB; have HO354 := n0_; have HB := n1_; clear n0_ n1_; (try clear hb); (try clear hb2); (try clear hk); (try clear hi); (try clear ho0); obtain ⟨Ao25, co25, eo25⟩ := Kd.R_slice HO354.out; subst eo25) | ((with_reducible refine gate_callee (f := 21) rfl ?_); refine goesL_ (some 34) rfl rfl Try.func21 (by kernel_rfl) rfl #[.int .i64 x12_1, .slice Ao25 t352.length co25] rfl (by (try simp only [List.map_toArray, List.map_cons, List.map_nil]); first | done | rfl | (simp only [List.length_drop, List.length_take]; rfl)) ?_; (with_reducible refine (careenlaw06_bytes.calls k1 x12_1 _ _ t352 t355 t356 _ ?side1 ?side2 A10.out).mono ?_); (case side1 => repeat (first | exact (Kd.R_reads' HO354.out).2.2 | (with_reducible refine Kd.C_alloc ?_ _) | (with_reducible refine Kd.C_drewN ?_ _) | (with_reducible refine Kd.C_drew ?_))); (case side2 => exact (Kd.R_reads' HO354.out).2.1); rintro e w26 ⟨rfl, hb⟩; refine ⟨_, rfl, ?_⟩; have n0_ := Aside0.mk (Kd.R_below (by (with_reducible repeat (first | apply Kd.R_alloc | apply Kd.R_drewN | apply Kd.R_drew)); exact HO354.out) hb); have n1_ := Aside0.mk (below_step (by repeat (first | (with_reducible first | exact HB.out | apply below_alloc | apply pw_below_drewN | apply below_drew1) | exact HB.out)) hb); clear HO354; clear HB; have HO354 := n0_; have HB := n1_; clear n0_ n1_; (try clear hb); (try clear hb2); (try clear hk); (try clear hi)) | ((with_reducible refine gate_callee (f := 17) rfl ?_); refine goesL_ (some 41) rfl rfl Try.func17 (by kernel_rfl) rfl #[.int .i64 a3, .int .i64 (wrap64 ((t355.size : Int) + 1))] rfl (by (try simp only [List.map_toArray, List.map_cons, List.map_nil]); first | done | rfl | (simp only [List.length_drop, List.length_take]; rfl)) ?_; (with_reducible refine (careenlaw06_pick.calls a3 (wrap64 ((t355.size : Int) + 1)) t357 _ A11.out).mono ?_); rintro e w' ⟨rfl, ⟨nd, rfl⟩⟩; refine ⟨_, rfl, ?_⟩))
                      (try (rw [drewN_self w26]; generalize hq_ : World.drewN w26 _ = w26; have n0_ : Aside0 (Kd.R k23 23 w26 w.heap.size (fun _ => True) (.slice Ao25 t352.length co25) t352) := ⟨by rw [← hq_]; exact (by (with_reducible repeat (first | apply Kd.R_alloc | apply Kd.R_drewN | apply Kd.R_drew)); exact HO354.out)⟩; have n1_ : Aside0 (Below w.heap.size w w26) := ⟨by rw [← hq_]; exact (by repeat (first | (with_reducible first | exact HB.out | apply below_alloc | apply pw_below_drewN | apply below_drew1) | exact HB.out))⟩; clear HO354 HB hq_; have HO354 := n0_; have HB := n1_; clear n0_ n1_))
                      have n0_ := Aside0.mk (Kd.R_drew HO354.out)
                      have n1_ := Aside0.mk (below_drew1 HB.out)
                      clear HO354
                      clear HB
                      have HO354 := n0_
                      have HB := n1_
                      clear n0_ n1_
                      refine start_ (n := 29) (S := fun w' => True) (ds := []) #[false, false, false, false, false, false, false, false, false, false, false, false, false, false, false, false, false, false, false, false, false, false, false, false, false, false, false, false, false] (by kernel_rfl) rfl rfl trivial (fun hHeld => ?_); refine with_tabW careenlaw06_FrameAgain.tab7 careenlaw06_FrameAgain.bits7 (fun HT_ HW_ => ?_)
                      generalize w26.drew = w27 at HO354 HB hHeld ⊢
                      refine pure_ (i := 0) (N := some 42) (v := ?_) (a' := ?_) #[true, false, false, false, false, false, false, false, false, false, false, false, false, false, false, false, false, false, false, false, false, false, false, false, false, false, false, false, false] rfl rfl (any_of HT_.out (by kernel_rfl)) (fun _ _ _ h => h) (Or.inl ⟨by rfl, ?_⟩) ?_ ?_
                      rotate_left
                      · intro w'
                        go_simp
                        with_reducible rfl
                      rotate_left
                      · simp only [Act.put, List.setIfInBounds_toArray, List.set_cons_zero, List.set_cons_succ, i64_w, i32_w]
                        rfl
                      refine pure_ (i := 1) (N := some 43) (v := ?_) (a' := ?_) #[true, true, false, false, false, false, false, false, false, false, false, false, false, false, false, false, false, false, false, false, false, false, false, false, false, false, false, false, false] rfl rfl (any_of HT_.out (by kernel_rfl)) (fun _ _ _ h => h) (Or.inl ⟨by rfl, ?_⟩) ?_ ?_
                      rotate_left
                      · intro w'
                        go_simp
                        with_reducible rfl
                      rotate_left
                      · simp only [Act.put, List.setIfInBounds_toArray, List.set_cons_zero, List.set_cons_succ, i64_w, i32_w]
                        rfl
                      refine pure_ (i := 2) (N := some 44) (v := ?_) (a' := ?_) #[true, true, true, false, false, false, false, false, false, false, false, false, false, false, false, false, false, false, false, false, false, false, false, false, false, false, false, false, false] rfl rfl (any_of HT_.out (by kernel_rfl)) (fun _ _ _ h => h) (Or.inl ⟨by rfl, ?_⟩) ?_ ?_
                      rotate_left
                      · intro w'
                        go_simp
                        with_reducible rfl
                      rotate_left
                      · simp only [Act.put, List.setIfInBounds_toArray, List.set_cons_zero, List.set_cons_succ, i64_w, i32_w]
                        rfl
                      refine pure_ (i := 3) (N := some 45) (v := ?_) (a' := ?_) #[true, true, true, true, false, false, false, false, false, false, false, false, false, false, false, false, false, false, false, false, false, false, false, false, false, false, false, false, false] rfl rfl (any_of HT_.out (by kernel_rfl)) (fun _ _ _ h => h) (Or.inl ⟨by rfl, ?_⟩) ?_ ?_
                      rotate_left
                      · intro w'
                        go_simp
                        with_reducible rfl
                      rotate_left
                      · simp only [Act.put, List.setIfInBounds_toArray, List.set_cons_zero, List.set_cons_succ, i64_w, i32_w]
                        rfl
                      refine pure_ (i := 4) (N := some 46) (v := ?_) (a' := ?_) #[true, true, true, true, true, false, false, false, false, false, false, false, false, false, false, false, false, false, false, false, false, false, false, false, false, false, false, false, false] rfl rfl (any_of HT_.out (by kernel_rfl)) (fun _ _ _ h => h) (Or.inl ⟨by rfl, ?_⟩) ?_ ?_
                      rotate_left
                      · intro w'
                        go_simp
                        with_reducible rfl
                      rotate_left
                      · simp only [Act.put, List.setIfInBounds_toArray, List.set_cons_zero, List.set_cons_succ, i64_w, i32_w]
                        rfl
                      refine pure_ (i := 5) (N := some 47) (v := ?_) (a' := ?_) #[true, true, true, true, true, true, false, false, false, false, false, false, false, false, false, false, false, false, false, false, false, false, false, false, false, false, false, false, false] rfl rfl (any_of HT_.out (by kernel_rfl)) (fun _ _ _ h => h) (Or.inl ⟨by rfl, ?_⟩) ?_ ?_
                      rotate_left
                      · intro w'
                        go_simp
                        with_reducible rfl
                      rotate_left
                      · simp only [Act.put, List.setIfInBounds_toArray, List.set_cons_zero, List.set_cons_succ, i64_w, i32_w]
                        rfl
                      refine pure_ (i := 6) (N := some 48) (v := ?_) (a' := ?_) #[true, true, true, true, true, true, true, false, false, false, false, false, false, false, false, false, false, false, false, false, false, false, false, false, false, false, false, false, false] rfl rfl (any_of HT_.out (by kernel_rfl)) (fun _ _ _ h => h) (Or.inl ⟨by rfl, ?_⟩) ?_ ?_
                      rotate_left
                      · intro w'
                        go_simp
                        with_reducible rfl
                      rotate_left
                      · simp only [Act.put, List.setIfInBounds_toArray, List.set_cons_zero, List.set_cons_succ, i64_w, i32_w]
                        rfl
                      refine pure_ (i := 7) (N := some 49) (v := ?_) (a' := ?_) #[true, true, true, true, true, true, true, true, false, false, false, false, false, false, false, false, false, false, false, false, false, false, false, false, false, false, false, false, false] rfl rfl (any_of HT_.out (by kernel_rfl)) (fun _ _ _ h => h) (Or.inl ⟨by rfl, ?_⟩) ?_ ?_
                      rotate_left
                      · intro w'
                        go_simp
                        with_reducible rfl
                      rotate_left
                      · simp only [Act.put, List.setIfInBounds_toArray, List.set_cons_zero, List.set_cons_succ, i64_w, i32_w]
                        rfl
                      refine pure_ (i := 8) (N := some 50) (v := ?_) (a' := ?_) #[true, true, true, true, true, true, true, true, true, false, false, false, false, false, false, false, false, false, false, false, false, false, false, false, false, false, false, false, false] rfl rfl (any_of HT_.out (by kernel_rfl)) (fun _ _ _ h => h) (Or.inl ⟨by rfl, ?_⟩) ?_ ?_
                      rotate_left
                      · intro w'
                        go_simp
                        with_reducible rfl
                      rotate_left
                      · simp only [Act.put, List.setIfInBounds_toArray, List.set_cons_zero, List.set_cons_succ, i64_w, i32_w]
                        rfl
                      refine pure_ (i := 9) (N := some 51) (v := ?_) (a' := ?_) #[true, true, true, true, true, true, true, true, true, true, false, false, false, false, false, false, false, false, false, false, false, false, false, false, false, false, false, false, false] rfl rfl (any_of HT_.out (by kernel_rfl)) (fun _ _ _ h => h) (Or.inl ⟨by rfl, ?_⟩) ?_ ?_
                      rotate_left
                      · intro w'
                        go_simp
                        with_reducible rfl
                      rotate_left
                      · simp only [Act.put, List.setIfInBounds_toArray, List.set_cons_zero, List.set_cons_succ, i64_w, i32_w]
                        rfl
                      refine pure_ (i := 10) (N := some 52) (v := ?_) (a' := ?_) #[true, true, true, true, true, true, true, true, true, true, true, false, false, false, false, false, false, false, false, false, false, false, false, false, false, false, false, false, false] rfl rfl (any_of HT_.out (by kernel_rfl)) (fun _ _ _ h => h) (Or.inl ⟨by rfl, ?_⟩) ?_ ?_
                      rotate_left
                      · intro w'
                        go_simp
                        with_reducible rfl
                      rotate_left
                      · simp only [Act.put, List.setIfInBounds_toArray, List.set_cons_zero, List.set_cons_succ, i64_w, i32_w]
                        rfl
                      refine pure_ (i := 11) (N := some 53) (v := ?_) (a' := ?_) #[true, true, true, true, true, true, true, true, true, true, true, true, false, false, false, false, false, false, false, false, false, false, false, false, false, false, false, false, false] rfl rfl (any_of HT_.out (by kernel_rfl)) (fun _ _ _ h => h) (Or.inl ⟨by rfl, ?_⟩) ?_ ?_
                      rotate_left
                      · intro w'
                        go_simp
                        with_reducible rfl
                      rotate_left
                      · simp only [Act.put, List.setIfInBounds_toArray, List.set_cons_zero, List.set_cons_succ, i64_w, i32_w]
                        rfl
                      refine pure_ (i := 12) (N := some 54) (v := ?_) (a' := ?_) #[true, true, true, true, true, true, true, true, true, true, true, true, true, false, false, false, false, false, false, false, false, false, false, false, false, false, false, false, false] rfl rfl (any_of HT_.out (by kernel_rfl)) (fun _ _ _ h => h) (Or.inl ⟨by rfl, ?_⟩) ?_ ?_
                      rotate_left
                      · intro w'
                        go_simp
                        with_reducible rfl
                      rotate_left
                      · simp only [Act.put, List.setIfInBounds_toArray, List.set_cons_zero, List.set_cons_succ, i64_w, i32_w]
                        rfl
                      refine pure_ (i := 13) (N := some 55) (v := ?_) (a' := ?_) #[true, true, true, true, true, true, true, true, true, true, true, true, true, true, false, false, false, false, false, false, false, false, false, false, false, false, false, false, false] rfl rfl (any_of HT_.out (by kernel_rfl)) (fun _ _ _ h => h) (Or.inl ⟨by rfl, ?_⟩) ?_ ?_
                      rotate_left
                      · intro w'
                        go_simp
                        with_reducible rfl
                      rotate_left
                      · simp only [Act.put, List.setIfInBounds_toArray, List.set_cons_zero, List.set_cons_succ, i64_w, i32_w]
                        rfl
                      refine pure_ (i := 14) (N := some 56) (v := ?_) (a' := ?_) #[true, true, true, true, true, true, true, true, true, true, true, true, true, true, true, false, false, false, false, false, false, false, false, false, false, false, false, false, false] rfl rfl (any_of HT_.out (by kernel_rfl)) (fun _ _ _ h => h) (Or.inl ⟨by rfl, ?_⟩) ?_ ?_
                      rotate_left
                      · intro w'
                        go_simp
                        with_reducible rfl
                      rotate_left
                      · simp only [Act.put, List.setIfInBounds_toArray, List.set_cons_zero, List.set_cons_succ, i64_w, i32_w]
                        rfl
                      refine pure_ (i := 15) (N := some 57) (v := ?_) (a' := ?_) #[true, true, true, true, true, true, true, true, true, true, true, true, true, true, true, true, false, false, false, false, false, false, false, false, false, false, false, false, false] rfl rfl (any_of HT_.out (by kernel_rfl)) (fun _ _ _ h => h) (Or.inl ⟨by rfl, ?_⟩) ?_ ?_
                      rotate_left
                      · intro w'
                        go_simp
                        with_reducible rfl
                      rotate_left
                      · simp only [Act.put, List.setIfInBounds_toArray, List.set_cons_zero, List.set_cons_succ, i64_w, i32_w]
                        rfl
                      refine pure_ (i := 16) (N := some 58) (v := ?_) (a' := ?_) #[true, true, true, true, true, true, true, true, true, true, true, true, true, true, true, true, true, false, false, false, false, false, false, false, false, false, false, false, false] rfl rfl (any_of HT_.out (by kernel_rfl)) (fun _ _ _ h => h) (Or.inl ⟨by rfl, ?_⟩) ?_ ?_
                      rotate_left
                      · intro w'
                        go_simp
                        with_reducible rfl
                      rotate_left
                      · simp only [Act.put, List.setIfInBounds_toArray, List.set_cons_zero, List.set_cons_succ, i64_w, i32_w]
                        rfl
                      refine pure_ (i := 17) (N := some 59) (v := ?_) (a' := ?_) #[true, true, true, true, true, true, true, true, true, true, true, true, true, true, true, true, true, true, false, false, false, false, false, false, false, false, false, false, false] rfl rfl (any_of HT_.out (by kernel_rfl)) (fun _ _ _ h => h) (Or.inl ⟨by rfl, ?_⟩) ?_ ?_
                      rotate_left
                      · intro w'
                        go_simp
                        with_reducible rfl
                      rotate_left
                      · simp only [Act.put, List.setIfInBounds_toArray, List.set_cons_zero, List.set_cons_succ, i64_w, i32_w]
                        rfl
                      refine pure_ (i := 18) (N := some 60) (v := ?_) (a' := ?_) #[true, true, true, true, true, true, true, true, true, true, true, true, true, true, true, true, true, true, true, false, false, false, false, false, false, false, false, false, false] rfl rfl (any_of HT_.out (by kernel_rfl)) (fun _ _ _ h => h) (Or.inl ⟨by rfl, ?_⟩) ?_ ?_
                      rotate_left
                      · intro w'
                        go_simp
                        with_reducible rfl
                      rotate_left
                      · simp only [Act.put, List.setIfInBounds_toArray, List.set_cons_zero, List.set_cons_succ, i64_w, i32_w]
                        rfl
                      refine pure_ (i := 19) (N := some 61) (v := ?_) (a' := ?_) #[true, true, true, true, true, true, true, true, true, true, true, true, true, true, true, true, true, true, true, true, false, false, false, false, false, false, false, false, false] rfl rfl (any_of HT_.out (by kernel_rfl)) (fun _ _ _ h => h) (Or.inl ⟨by rfl, ?_⟩) ?_ ?_
                      rotate_left
                      · intro w'
                        go_simp
                        with_reducible rfl
                      rotate_left
                      · simp only [Act.put, List.setIfInBounds_toArray, List.set_cons_zero, List.set_cons_succ, i64_w, i32_w]
                        rfl
                      refine pure_ (i := 20) (N := some 62) (v := ?_) (a' := ?_) #[true, true, true, true, true, true, true, true, true, true, true, true, true, true, true, true, true, true, true, true, true, false, false, false, false, false, false, false, false] rfl rfl (any_of HT_.out (by kernel_rfl)) (fun _ _ _ h => h) (Or.inl ⟨by rfl, ?_⟩) ?_ ?_
                      rotate_left
                      · intro w'
                        go_simp
                        with_reducible rfl
                      rotate_left
                      · simp only [Act.put, List.setIfInBounds_toArray, List.set_cons_zero, List.set_cons_succ, i64_w, i32_w]
                        rfl
                      refine pure_ (i := 21) (N := some 63) (v := ?_) (a' := ?_) #[true, true, true, true, true, true, true, true, true, true, true, true, true, true, true, true, true, true, true, true, true, true, false, false, false, false, false, false, false] rfl rfl (any_of HT_.out (by kernel_rfl)) (fun _ _ _ h => h) (Or.inl ⟨by rfl, ?_⟩) ?_ ?_
                      rotate_left
                      · intro w'
                        go_simp
                        with_reducible rfl
                      rotate_left
                      · simp only [Act.put, List.setIfInBounds_toArray, List.set_cons_zero, List.set_cons_succ, i64_w, i32_w]
                        rfl
                      refine pure_ (i := 22) (N := some 64) (v := ?_) (a' := ?_) #[true, true, true, true, true, true, true, true, true, true, true, true, true, true, true, true, true, true, true, true, true, true, true, false, false, false, false, false, false] rfl rfl (any_of HT_.out (by kernel_rfl)) (fun _ _ _ h => h) (Or.inl ⟨by rfl, ?_⟩) ?_ ?_
                      rotate_left
                      · intro w'
                        go_simp
                        with_reducible rfl
                      rotate_left
                      · simp only [Act.put, List.setIfInBounds_toArray, List.set_cons_zero, List.set_cons_succ, i64_w, i32_w]
                        rfl
                      refine pure_ (i := 23) (N := some 65) (v := ?_) (a' := ?_) #[true, true, true, true, true, true, true, true, true, true, true, true, true, true, true, true, true, true, true, true, true, true, true, true, false, false, false, false, false] rfl rfl (any_of HT_.out (by kernel_rfl)) (fun _ _ _ h => h) (Or.inl ⟨by rfl, ?_⟩) ?_ ?_
                      rotate_left
                      · intro w'
                        go_simp
                        with_reducible rfl
                      rotate_left
                      · simp only [Act.put, List.setIfInBounds_toArray, List.set_cons_zero, List.set_cons_succ, i64_w, i32_w]
                        rfl
                      refine pure_ (i := 24) (N := some 66) (v := ?_) (a' := ?_) #[true, true, true, true, true, true, true, true, true, true, true, true, true, true, true, true, true, true, true, true, true, true, true, true, true, false, false, false, false] rfl rfl (any_of HT_.out (by kernel_rfl)) (fun _ _ _ h => h) (Or.inl ⟨by rfl, ?_⟩) ?_ ?_
                      rotate_left
                      · intro w'
                        go_simp
                        with_reducible rfl
                      rotate_left
                      · simp only [Act.put, List.setIfInBounds_toArray, List.set_cons_zero, List.set_cons_succ, i64_w, i32_w]
                        rfl
                      refine pure_ (i := 25) (N := some 67) (v := ?_) (a' := ?_) #[true, true, true, true, true, true, true, true, true, true, true, true, true, true, true, true, true, true, true, true, true, true, true, true, true, true, false, false, false] rfl rfl (any_of HT_.out (by kernel_rfl)) (fun _ _ _ h => h) (Or.inl ⟨by rfl, ?_⟩) ?_ ?_
                      rotate_left
                      · intro w'
                        go_simp
                        with_reducible rfl
                      rotate_left
                      · simp only [Act.put, List.setIfInBounds_toArray, List.set_cons_zero, List.set_cons_succ, i64_w, i32_w]
                        rfl
                      refine pure_ (i := 28) (N := some 70) (v := ?_) (a' := ?_) #[true, true, true, true, true, true, true, true, true, true, true, true, true, true, true, true, true, true, true, true, true, true, true, true, true, true, false, false, true] rfl rfl (any_of HT_.out (by kernel_rfl)) (fun _ _ _ h => h) (Or.inl ⟨by rfl, ?_⟩) ?_ ?_
                      rotate_left
                      · intro w'
                        go_simp
                        with_reducible rfl
                      rotate_left
                      · simp only [Act.put, List.setIfInBounds_toArray, List.set_cons_zero, List.set_cons_succ, i64_w, i32_w]
                        rfl
                      refine one_ (i := 26) (N := some 68) #[true, true, true, true, true, true, true, true, true, true, true, true, true, true, true, true, true, true, true, true, true, true, true, true, true, true, true, false, true] rfl rfl (one_of HT_.out (by kernel_rfl)) (by decide) (fun K hK => ?_)
                      refine Kd.R_lit_step Kd.string _ 9 ?hg (N := 68) ?hd (xs := ([a0, t355, ((t355.extract 0 (t357 : Int).toNat) ++ a4) ++ (t355.extract ((ji15) : Int).toNat t355.size), ((t355.extract 0 (t357 : Int).toNat) ++ a4) ++ (t355.extract (t357 : Int).toNat t355.size)] : List ByteArray)) (inner := [.string a0, .string t355, .string (((t355.extract 0 (t357 : Int).toNat) ++ a4) ++ (t355.extract ((ji15) : Int).toNat t355.size)), .string (((t355.extract 0 (t357 : Int).toNat) ++ a4) ++ (t355.extract (t357 : Int).toNat t355.size))]) (ok := fun _ => True) (okp := fun _ => True) ?hr ?hp (fun _ hk => hk) trivial (Below.refl _ _) (Nat.le_refl _) (by simp) ?_; (case hd => rfl); (case hg => rfl); (case hr => first | (go_simp; done) | (go_simp; rfl)); (case hp => exact (Reps.one (show Kd.M Kd.string _ _ _ a0 [.string a0] from rfl) (Reps.one (show Kd.M Kd.string _ _ _ t355 [.string t355] from rfl) (Reps.one (show Kd.M Kd.string _ _ _ (((t355.extract 0 (t357 : Int).toNat) ++ a4) ++ (t355.extract ((ji15) : Int).toNat t355.size)) [.string (((t355.extract 0 (t357 : Int).toNat) ++ a4) ++ (t355.extract ((ji15) : Int).toNat t355.size))] from rfl) (Reps.one (show Kd.M Kd.string _ _ _ (((t355.extract 0 (t357 : Int).toNat) ++ a4) ++ (t355.extract (t357 : Int).toNat t355.size)) [.string (((t355.extract 0 (t357 : Int).toNat) ++ a4) ++ (t355.extract (t357 : Int).toNat t355.size))] from rfl) (Reps.none _ _))))))
                      intro v359 w28 ho29 hb hg_ hnew_
                      clear hg_ hnew_
                      (first | rw [← Ny358.out] at ho29 | (simp only [Int.reduceToNat] at ho29; rw [← Ny358.out] at ho29))
                      have n0_ := Aside0.mk (Kd.R_below (by (with_reducible repeat (first | apply Kd.R_alloc | apply Kd.R_drewN | apply Kd.R_drew)); exact HO354.out) hb)
                      have n1_ := Aside0.mk (Kd.R_lower ho29 (below_size (by repeat (first | (with_reducible first | exact HB.out | apply below_alloc | apply pw_below_drewN | apply below_drew1) | exact HB.out))))
                      have n2_ := Aside0.mk (below_step (by repeat (first | (with_reducible first | exact HB.out | apply below_alloc | apply pw_below_drewN | apply below_drew1) | exact HB.out)) hb)
                      clear HO354
                      clear HB
                      have HO354 := n0_
                      have HO360 := n1_
                      have HB := n2_
                      clear n0_ n1_ n2_
                      clear hb ho29
                      obtain ⟨Ao30, co30, eo30⟩ := Kd.R_slice HO360.out
                      (first | subst eo30 | (injection eo30 with f1_ f2_ f3_; have f4_ := f1_.symm; have f5_ := f3_.symm; clear f1_ f2_ f3_; subst f4_; subst f5_))
                      refine hK.out _ _ trivial (fun hHeld => ?_)
                      clear hK K
                      refine norm_ (a' := ?_) ?_ ?_
                      rotate_left
                      · show Act.put _ (some 68) _ = _
                        simp only [Act.put, List.setIfInBounds_toArray, List.set_cons_zero, List.set_cons_succ, i64_w, i32_w]
                        rfl
                      refine pure_ (i := 27) (N := some 69) (v := ?_) (a' := ?_) #[true, true, true, true, true, true, true, true, true, true, true, true, true, true, true, true, true, true, true, true, true, true, true, true, true, true, true, true, true] rfl rfl (any_of HT_.out (by kernel_rfl)) (fun _ _ _ h => h) (Or.inl ⟨by rfl, ?_⟩) ?_ ?_
                      rotate_left
                      · intro w'
                        go_simp
                        with_reducible rfl
                      rotate_left
                      · simp only [Act.put, List.setIfInBounds_toArray, List.set_cons_zero, List.set_cons_succ, i64_w, i32_w]
                        rfl
                      refine done_ (done_of HT_.out (by kernel_rfl)) ?_
                      try go_wp2
                      go_loopg [70] k1 (fun kq v70 w' => ∃ (x70_2 : Int), v70 = .int .i64 x70_2 ∧ Aside0 (careenlaw06_FrameAgain.l1 kq a0 l1 l2 a3 a4 t351 x12_1 y358 (y358.length : Int) x70_2 = some true) ∧ Aside0 (kq ≤ k1) ∧ Aside0 (Kd.R Kd.string 9 w' w.heap.size (fun _ => True) (.slice Ao30 y358.length co30) y358) ∧ Aside0 (Below w.heap.size w w'))
                      case atStart => exact ⟨(0), (by first | rfl | (simp; done) | (simp [*]; done)), H', ⟨Nat.le_refl _⟩, ⟨by (with_reducible repeat (first | apply Kd.R_alloc | apply Kd.R_drewN | apply Kd.R_drew)); exact HO360.out⟩, ⟨by repeat (first | (with_reducible first | exact HB.out | apply below_alloc | apply pw_below_drewN | apply below_drew1) | exact HB.out)⟩⟩
                      case round =>
                        clear H'
                        try clear c1
                        try clear c2
                        try clear p2
                        try clear p6
                        try clear c8
                        try clear c8b0
                        try clear c9
                        try clear c11
                        try clear c12
                        try clear c12b0
                        try clear c12b1
                        try clear c13
                        try clear c13b0
                        try clear c13b1
                        try clear c14
                        try clear c14b0
                        try clear c14b1
                        try clear c14b2
                        try clear c16
                        try clear c16b0
                        try clear c16b1
                        try clear c17
                        try clear c17b0
                        try clear c17b1
                        try clear c18
                        try clear c18b0
                        try clear c18b1
                        try clear c18b2
                        try clear c19
                        try clear c19b0
                        try clear c20
                        try clear c20b0
                        try clear c21
                        try clear c21b0
                        try clear c22
                        try clear c22b0
                        try clear c23
                        try clear c23b0
                        try clear c23b1
                        try clear c23b2
                        try clear p2
                        obtain ⟨x70_2, rfl, HA, HK2, HO_68, HB⟩ := hrel
                        cases gk with
                        | zero => cases (show (none : Option _) = some _ from HA.out)
                        | succ k2 =>
                          have H := HA.out
                          clear HA
                          simp only [careenlaw06_FrameAgain.l1] at H
                          by_cases c31 : x70_2 < (y358.length : Int)
                          · rw [if_pos c31] at H
                            have c31b0 : decide (x70_2 < (y358.length : Int)) = true := decide_eq_true c31
                            clear c31
                            by_cases c32 : 0 ≤ x70_2
                            · rw [if_pos c32] at H
                              have c32b0 : decide (0 ≤ x70_2) = true := decide_eq_true c32
                              clear c32
                              by_cases c33 : x70_2 < (y358.length : Int)
                              · rw [if_pos c33] at H
                                have c33b0 : decide (x70_2 < (y358.length : Int)) = true := decide_eq_true c33
                                clear c33
                                replace H := Option.bind_eq_some_iff.mp H
                                obtain ⟨⟨t362, t363, t364⟩, A340, H⟩ := H
                                replace H : ((careenlaw06_bytes.f k2 x12_1 t362).bind fun bt367 => (if bt367.2 = true then (if t363 < 0 then (some false) else (if t363 > ((rdOf ByteArray.empty y358 x70_2).size : Int) then (some false) else (if 0 ≤ t363 then (if t363 ≤ ((rdOf ByteArray.empty y358 x70_2).size : Int) then (if bt367.1.toList = ((rdOf ByteArray.empty y358 x70_2).extract 0 (t363 : Int).toNat).toList then (careenlaw06_FrameAgain.l1 k2 a0 l1 l2 a3 a4 t351 x12_1 y358 (y358.length : Int) (wrap64 (x70_2 + 1))) else (some false)) else (none)) else (none)))) else (some false))) = some true := H
                                have A34 := Aside0.mk A340
                                clear A340
                                replace H := Option.bind_eq_some_iff.mp H
                                obtain ⟨⟨t367, t368⟩, A350, H⟩ := H
                                replace H : (if t368 = true then (if t363 < 0 then (some false) else (if t363 > ((rdOf ByteArray.empty y358 x70_2).size : Int) then (some false) else (if 0 ≤ t363 then (if t363 ≤ ((rdOf ByteArray.empty y358 x70_2).size : Int) then (if t367.toList = ((rdOf ByteArray.empty y358 x70_2).extract 0 (t363 : Int).toNat).toList then (careenlaw06_FrameAgain.l1 k2 a0 l1 l2 a3 a4 t351 x12_1 y358 (y358.length : Int) (wrap64 (x70_2 + 1))) else (some false)) else (none)) else (none)))) else (some false)) = some true := H
                                have A35 := Aside0.mk A350
                                clear A350
                                by_cases c36 : t368 = true
                                · subst c36
                                  have H1 : (if t363 < 0 then (some false) else (if t363 > ((rdOf ByteArray.empty y358 x70_2).size : Int) then (some false) else (if 0 ≤ t363 then (if t363 ≤ ((rdOf ByteArray.empty y358 x70_2).size : Int) then (if t367.toList = ((rdOf ByteArray.empty y358 x70_2).extract 0 (t363 : Int).toNat).toList then (careenlaw06_FrameAgain.l1 k2 a0 l1 l2 a3 a4 t351 x12_1 y358 (y358.length : Int) (wrap64 (x70_2 + 1))) else (some false)) else (none)) else (none)))) = some true := by rw [if_pos rfl] at H; exact H
                                  clear H
                                  have H := H1
                                  clear H1
                                  by_cases c37 : t363 < 0
                                  · rw [if_pos c37] at H
                                    have c37b0 : decide (t363 < 0) = true := decide_eq_true c37
                                    clear c37
                                    exact absurd H (by simp)
                                  · rw [if_neg c37] at H
                                    have c37b0 : decide (t363 < 0) = false := decide_eq_false c37
                                    clear c37
                                    by_cases c38 : t363 > ((rdOf ByteArray.empty y358 x70_2).size : Int)
                                    · rw [if_pos c38] at H
                                      have c38b0 : decide (((rdOf ByteArray.empty y358 x70_2).size : Int) < t363) = true := decide_eq_true c38
                                      clear c38
                                      exact absurd H (by simp)
                                    · rw [if_neg c38] at H
                                      have c38b0 : decide (((rdOf ByteArray.empty y358 x70_2).size : Int) < t363) = false := decide_eq_false c38
                                      clear c38
                                      by_cases c39 : 0 ≤ t363
                                      · rw [if_pos c39] at H
                                        have c39b0 := eq_true c39
                                        have c39b1 : decide (0 ≤ t363) = true := decide_eq_true c39
                                        clear c39
                                        by_cases c40 : t363 ≤ ((rdOf ByteArray.empty y358 x70_2).size : Int)
                                        · rw [if_pos c40] at H
                                          have c40b0 := eq_true c40
                                          have c40b1 : decide (t363 ≤ ((rdOf ByteArray.empty y358 x70_2).size : Int)) = true := decide_eq_true c40
                                          clear c40
                                          by_cases c41 : t367.toList = ((rdOf ByteArray.empty y358 x70_2).extract 0 (t363 : Int).toNat).toList
                                          · rw [if_pos c41] at H
                                            have c41b0 : (t367.toList == ((rdOf ByteArray.empty y358 x70_2).extract 0 (t363 : Int).toNat).toList) = true := beq_iff_eq.mpr c41
                                            have c41b1 : (t367.toList != ((rdOf ByteArray.empty y358 x70_2).extract 0 (t363 : Int).toNat).toList) = false := bne_eq_false_iff_eq.mpr c41
                                            clear c41
                                            have H' := Aside0.mk H
                                            clear H
                                            have p361 : 0 ≤ (x70_2 : Int) := of_decide_eq_true (by first | (with_reducible assumption) | assumption)
                                            have q361 : x70_2 < (y358.length : Int) := of_decide_eq_true (by first | (with_reducible assumption) | assumption)
                                            obtain ⟨ad361, e361, hx361_0⟩ := Kd.at_string (Kd.R_reads' HO_68.out).2.2 x70_2 p361 q361
                                            cases e361
                                            replace p361 := eq_true p361
                                            replace q361 := eq_true q361
                                            go_wp2_with (first | ((with_reducible refine gate_callee (f := 18) rfl ?_); refine goesL_ (some 77) rfl rfl Try.func18 (by kernel_rfl) rfl #[.int .i64 x12_1, .string (rdOf ByteArray.empty y358 x70_2)] rfl (by (try simp only [List.map_toArray, List.map_cons, List.map_nil]); first | done | rfl | (simp only [List.length_drop, List.length_take]; rfl)) ?_; (with_reducible refine (frame_Scan.calls k2 x12_1 (rdOf ByteArray.empty y358 x70_2) t362 t363 t364 _ A34.out).mono ?_); rintro e w42 ⟨v365, rfl, ho0, hb⟩; refine ⟨_, rfl, ?_⟩; have n0_ := Aside0.mk (Kd.R_below (by (with_reducible repeat (first | apply Kd.R_alloc | apply Kd.R_drewN | apply Kd.R_drew)); exact HO_68.out) hb); have n1_ := Aside0.mk (Kd.R_lower ho0 (below_size (by repeat (first | (with_reducible first | exact HB.out | apply below_alloc | apply pw_below_drewN | apply below_drew1) | exact HB.out)))); have n2_ := Aside0.mk (below_step (by repeat (first | (with_reducible first | exact HB.out | apply below_alloc | apply pw_below_drewN | apply below_drew1) | exact HB.out)) hb); clear HO_68; clear HB; have HO_68 := n0_; have HO366 := n1_; have HB := n2_; clear n0_ n1_ n2_; (try clear hb); (try clear hb2); (try clear hk); (try clear hi); (try clear ho0); obtain ⟨Ao43, co43, eo43⟩ := Kd.R_slice HO366.out; subst eo43) | ((with_reducible refine gate_callee (f := 21) rfl ?_); refine goesL_ (some 84) rfl rfl Try.func21 (by kernel_rfl) rfl #[.int .i64 x12_1, .slice Ao43 t362.length co43] rfl (by (try simp only [List.map_toArray, List.map_cons, List.map_nil]); first | done | rfl | (simp only [List.length_drop, List.length_take]; rfl)) ?_; (with_reducible refine (careenlaw06_bytes.calls k2 x12_1 _ _ t362 t367 true _ ?side1 ?side2 A35.out).mono ?_); (case side1 => repeat (first | exact (Kd.R_reads' HO366.out).2.2 | (with_reducible refine Kd.C_alloc ?_ _) | (with_reducible refine Kd.C_drewN ?_ _) | (with_reducible refine Kd.C_drew ?_))); (case side2 => exact (Kd.R_reads' HO366.out).2.1); rintro e w44 ⟨rfl, hb⟩; refine ⟨_, rfl, ?_⟩; have n0_ := Aside0.mk (Kd.R_below (by (with_reducible repeat (first | apply Kd.R_alloc | apply Kd.R_drewN | apply Kd.R_drew)); exact HO_68.out) hb); have n1_ := Aside0.mk (Kd.R_below (by (with_reducible repeat (first | apply Kd.R_alloc | apply Kd.R_drewN | apply Kd.R_drew)); exact HO366.out) hb); have n2_ := Aside0.mk (below_step (by repeat (first | (with_reducible first | exact HB.out | apply below_alloc | apply pw_below_drewN | apply below_drew1) | exact HB.out)) hb); clear HO_68; clear HO366; clear HB; have HO_68 := n0_; have HO366 := n1_; have HB := n2_; clear n0_ n1_ n2_; (try clear hb); (try clear hb2); (try clear hk); (try clear hi)))
                                            go_roundg k2
                                            case measure => have := HK1.out; have := HK2.out; omega
                                            case rel => exact ⟨(wrap64 (x70_2 + 1)), (by first | rfl | (simp; done) | (simp [*]; done)), H', ⟨by have := HK1.out; have := HK2.out; omega⟩, ⟨by (with_reducible repeat (first | apply Kd.R_alloc | apply Kd.R_drewN | apply Kd.R_drew)); exact HO_68.out⟩, ⟨by repeat (first | (with_reducible first | exact HB.out | apply below_alloc | apply pw_below_drewN | apply below_drew1) | exact HB.out)⟩⟩
                                          · rw [if_neg c41] at H
                                            have c41b0 : (t367.toList == ((rdOf ByteArray.empty y358 x70_2).extract 0 (t363 : Int).toNat).toList) = false := beq_eq_false_iff_ne.mpr c41
                                            have c41b1 : (t367.toList != ((rdOf ByteArray.empty y358 x70_2).extract 0 (t363 : Int).toNat).toList) = true := bne_iff_ne.mpr c41
                                            exact absurd H (by simp)
                                        · rw [if_neg c40] at H
                                          exact absurd H (by simp)
                                      · rw [if_neg c39] at H
                                        exact absurd H (by simp)
                                · replace c36 := Bool.eq_false_iff.mpr c36
                                  subst c36
                                  have H1 : (some false) = some true := by rw [if_neg (show ¬ (false = true) by decide)] at H; exact H
                                  clear H
                                  have H := H1
                                  clear H1
                                  exact absurd H (by simp)
                              · rw [if_neg c33] at H
                                exact absurd H (by simp)
                            · rw [if_neg c32] at H
                              exact absurd H (by simp)
                          · rw [if_neg c31] at H
                            have c31b0 : decide (x70_2 < (y358.length : Int)) = false := decide_eq_false c31
                            clear c31
                            have H' := Aside0.mk H
                            clear H
                            go_wp2
                            go_roundg k2
                            case measure => have := HK1.out; have := HK2.out; omega
                            case rel => exact ⟨(wrap64 (x12_1 + 1)), (by first | rfl | (simp; done) | (simp [*]; done)), H', ⟨by have := HK1.out; have := HK2.out; omega⟩, ⟨by repeat (first | (with_reducible first | exact HB.out | apply below_alloc | apply pw_below_drewN | apply below_drew1) | exact HB.out)⟩⟩
                    · rw [if_neg c23] at H
                      exact absurd H (by simp)
                  · rw [if_neg c18] at H
                    exact absurd H (by simp)
                · rw [if_neg c17] at H
                  exact absurd H (by simp)
              · rw [if_neg c16] at H
                exact absurd H (by simp)
            · rw [if_neg c14] at H
              exact absurd H (by simp)
          · rw [if_neg c13] at H
            exact absurd H (by simp)
        · rw [if_neg c12] at H
          exact absurd H (by simp)
      · rw [if_neg c8] at H
        have c8b0 : decide (x12_1 ≤ 2) = false := decide_eq_false c8
        clear c8
        have HV_ := Aside0.mk (Option.some.inj H)
        clear H
        go_wp2
        go_ret
        exact ⟨by first | exact congrArg (fun b_ => Ending.returned (Value.bool b_)) HV_.out | (have hv_ := HV_.out; simp only [Bool.and_eq_true, beq_iff_eq] at hv_; simp [hv_]; done) | (have hv_ := HV_.out; simp at hv_; simp [*]; done) | rfl | (simp [errW_none, errW_some] <;> rfl) | (simp [*, errW_none, errW_some] <;> rfl), by repeat (first | (with_reducible first | exact HB.out | apply below_alloc | apply pw_below_drewN | apply below_drew1) | exact HB.out)⟩

/-- THE ONE PURE STATEMENT of careenlaw06_FrameAgain. -/
def careenlaw06_FrameAgain.Pure : Prop := ∀ (a0 : ByteArray) (l1 : List (S57)) (l2 : List ByteArray) (a3 : Int) (a4 : ByteArray), a0.size ≤ 140737488351232 → l1.length * 24 ≤ 140737488351232 → (∀ x ∈ l1, (Lit.int .i64 x.f0).wf = true ∧ (Lit.int .i64 x.f1).wf = true ∧ (Lit.int .i64 x.f2).wf = true) → l2.length * 16 ≤ 140737488351232 → (∀ x ∈ l2, x.size ≤ 9223372036854775807) → (Lit.int .i64 a3).wf = true → a4.size ≤ 140737488351232 → ∃ k, careenlaw06_FrameAgain.f k a0 l1 l2 a3 a4 = some true

end Go.Proofs.Ytmicfaeloanffaa.PAll
