-- Written by a program of this session (wip/xpatch.py, wip/xprint.sh) for seat Ytmicfaeloanffaa.
import Derived.Test.YtmicfaeloanffaaPAllx0
import Derived.Test.YtmicfaeloanffaaPAllx5
import Derived.Test.YtmicfaeloanffaaPFrx
import Derived.Test.YtmicfaeloanffaaPAllx9
import Derived.Test.YtmicfaeloanffaaPByt
namespace Go.Proofs.Ytmicfaeloanffaa.PAll
attribute [local go_sem high] Go.Proofs.Ytmicfaeloanffaa.Hand.unary_xor_u32
open Go.RowKit Go.Proofs.YtmicfaeloanffaaW.PrintWords Go.Proofs.YtmicfaeloanffaaW.PrintLast Go.Proofs.YtmicfaeloanffaaW.PrintMore
attribute [local go_sem] max2_int min2_int max_two min_two max_three min_three max_four min_four   -- for this text's walks alone
set_option linter.unusedVariables false
set_option linter.unusedSimpArgs false

/-! ### careenlaw06_FrameJoined: function 8 -/
def careenlaw06_FrameJoined.l0 : Nat → List (S57) → List ByteArray → ByteArray → Bool → Int → Option (Bool)
  | 0, _, _, _, _, _ => none
  | k + 1, x0, x1, x2, x7, x8 => if x8 ≤ 2 then ((careenlaw06_Frames.f k x8 x0 x1).bind fun t326 => ((careenlaw06_bytes.f k x8 t326).bind fun bt329 => ((frame_Scan.f k x8 x2).bind fun bt331 => (if bt329.1.size + x2.size ≤ 9223372036854775807 then ((frame_Scan.f k x8 (bt329.1 ++ x2)).bind fun bt336 => (if bt329.2 = true then (if bt331.2.2 = bt336.2.2 then (if bt336.2.1 = (wrap64 ((bt329.1.size : Int) + bt331.2.1)) then (if (bt336.1.length : Int) = (wrap64 ((t326.length : Int) + (bt331.1.length : Int))) then (if 0 ≤ (mn (t326.length : Int) (bt336.1.length : Int)) then (if (mn (t326.length : Int) (bt336.1.length : Int)) ≤ (bt336.1.length : Int) then ((careenref06_Same.f k (bt336.1.take ((mn (t326.length : Int) (bt336.1.length : Int)) : Int).toNat) t326).bind fun t345 => (if t345 = true then ((careenref06_Same.f k (bt336.1.drop ((mn (t326.length : Int) (bt336.1.length : Int)) : Int).toNat) bt331.1).bind fun t350 => (if t350 = true then (careenlaw06_FrameJoined.l0 k x0 x1 x2 x7 (wrap64 (x8 + 1))) else (some false))) else (some false))) else (none)) else (none)) else (some false)) else (some false)) else (some false)) else (some false))) else (none))))) else (some x7)
def careenlaw06_FrameJoined.f (k : Nat) (l0 : List (S57)) (l1 : List ByteArray) (a2 : ByteArray) : Option (Bool) := (careenlaw06_awake.f k).bind fun t325 => (careenlaw06_FrameJoined.l0 k l0 l1 a2 t325 1)
theorem careenlaw06_FrameJoined.mono_l : ∀ k, (∀ y0 y1 y2 y3 y4, LeO (careenlaw06_FrameJoined.l0 k y0 y1 y2 y3 y4) (careenlaw06_FrameJoined.l0 (k + 1) y0 y1 y2 y3 y4))
  | 0 => (fun _ _ _ _ _ r h => by cases (show (none : Option _) = some r from h))
  | k + 1 => by
    have ih0 := careenlaw06_FrameJoined.mono_l k
    · intro y0 y1 y2 y3 y4
      unfold careenlaw06_FrameJoined.l0
      repeat' first
      | (with_reducible exact ih0 _ _ _ _ _)
      | (with_reducible exact careenlaw06_Frames.mono _ _ _ _)
      | (with_reducible exact careenlaw06_awake.mono _)
      | (with_reducible exact careenlaw06_bytes.mono _ _ _)
      | (with_reducible exact careenref06_Same.mono _ _ _)
      | (with_reducible exact frame_Scan.mono _ _ _)
      | (with_reducible exact LeO.refl _)
      | (with_reducible exact LeO.none _)
      | (with_reducible refine LeO.ite ?_ ?_)
      | (with_reducible refine LeO.bind ?_ (fun _ => ?_))
      | exact ih0 _ _ _ _ _
      | exact careenlaw06_Frames.mono _ _ _ _
      | exact careenlaw06_awake.mono _
      | exact careenlaw06_bytes.mono _ _ _
      | exact careenref06_Same.mono _ _ _
      | exact frame_Scan.mono _ _ _
      | exact LeO.none _
      | refine LeO.ite ?_ ?_
      | refine LeO.bind ?_ (fun _ => ?_)
theorem careenlaw06_FrameJoined.mono : ∀ a0 a1 a2 k, LeO (careenlaw06_FrameJoined.f k a0 a1 a2) (careenlaw06_FrameJoined.f (k + 1) a0 a1 a2) := by
  intro a0 a1 a2 k
  have ih0 := careenlaw06_FrameJoined.mono_l k
  unfold careenlaw06_FrameJoined.f
  repeat' first
      | (with_reducible exact ih0 _ _ _ _ _)
      | (with_reducible exact careenlaw06_Frames.mono _ _ _ _)
      | (with_reducible exact careenlaw06_awake.mono _)
      | (with_reducible exact careenlaw06_bytes.mono _ _ _)
      | (with_reducible exact careenref06_Same.mono _ _ _)
      | (with_reducible exact frame_Scan.mono _ _ _)
      | (with_reducible exact LeO.refl _)
      | (with_reducible exact LeO.none _)
      | (with_reducible refine LeO.ite ?_ ?_)
      | (with_reducible refine LeO.bind ?_ (fun _ => ?_))
      | exact ih0 _ _ _ _ _
      | exact careenlaw06_Frames.mono _ _ _ _
      | exact careenlaw06_awake.mono _
      | exact careenlaw06_bytes.mono _ _ _
      | exact careenref06_Same.mono _ _ _
      | exact frame_Scan.mono _ _ _
      | exact LeO.none _
      | refine LeO.ite ?_ ?_
      | refine LeO.bind ?_ (fun _ => ?_)
set_option maxHeartbeats 8000000 in
set_option maxRecDepth 100000 in
theorem careenlaw06_FrameJoined.calls (k : Nat) (A0 : Option Addr) (c0 : Nat) (l0 : List (S57)) (A1 : Option Addr) (c1 : Nat) (l1 : List ByteArray) (a2 : ByteArray) (w : World) (hr0 : Kd.C k57 w A0 l0.length l0) (hc0 : l0.length ≤ c0) (hr1 : Kd.C Kd.string w A1 l1.length l1) (hc1 : l1.length ≤ c1) (h : careenlaw06_FrameJoined.f k l0 l1 a2 = some true) :
    Calls Try.prog 8 #[.slice A0 l0.length c0, .slice A1 l1.length c1, .string a2] w fun e w' => e = .returned (.bool true) ∧ Below w.heap.size w w' := by
  have HR0 := Aside0.mk hr0
  have HC0 := Aside0.mk hc0
  clear hr0 hc0
  have HR1 := Aside0.mk hr1
  have HC1 := Aside0.mk hc1
  clear hr1 hc1
  have HB := Aside0.mk (Below.refl w.heap.size w)
  have H : ((careenlaw06_awake.f k).bind fun t325 => (careenlaw06_FrameJoined.l0 k l0 l1 a2 t325 1)) = some true := h
  clear h
  replace H := Option.bind_eq_some_iff.mp H
  obtain ⟨t325, A40, H⟩ := H
  replace H : (careenlaw06_FrameJoined.l0 k l0 l1 a2 t325 1) = some true := H
  have A4 := Aside0.mk A40
  clear A40
  have H' := Aside0.mk H
  clear H
  go_enter Try.func8, Try.ntmps8
  go_wp2_with (first | ((with_reducible refine gate_callee (f := 11) rfl ?_); refine goesL_ (some 18) rfl rfl Try.func11 (by kernel_rfl) rfl #[] rfl (by (try simp only [List.map_toArray, List.map_cons, List.map_nil]); first | done | rfl | (simp only [List.length_drop, List.length_take]; rfl)) ?_; (with_reducible refine (careenlaw06_awake.calls k  t325 _ A4.out).mono ?_); rintro e w5 ⟨rfl, hb⟩; refine ⟨_, rfl, ?_⟩; have n0_ := Aside0.mk (below_step (by repeat (first | (with_reducible first | exact HB.out | apply below_alloc | apply pw_below_drewN | apply below_drew1) | exact HB.out)) hb); clear HB; have HB := n0_; clear n0_; (try clear hb); (try clear hb2); (try clear hk); (try clear hi)))
  go_loopg [8] k (fun kq v8 w' => ∃ (x8_1 : Int), v8 = .int .i64 x8_1 ∧ Aside0 (careenlaw06_FrameJoined.l0 kq l0 l1 a2 t325 x8_1 = some true) ∧ Aside0 (kq ≤ k) ∧ Aside0 (Below w.heap.size w w'))
  case atStart => exact ⟨(1), (by first | rfl | (simp; done) | (simp [*]; done)), H', ⟨Nat.le_refl _⟩, ⟨by repeat (first | (with_reducible first | exact HB.out | apply below_alloc | apply pw_below_drewN | apply below_drew1) | exact HB.out)⟩⟩
  case round =>
    clear H'
    try clear c1
    try clear p2
    obtain ⟨x8_1, rfl, HA, HK1, HB⟩ := hrel
    cases gk with
    | zero => cases (show (none : Option _) = some _ from HA.out)
    | succ k1 =>
      have H := HA.out
      clear HA
      simp only [careenlaw06_FrameJoined.l0] at H
      by_cases c6 : x8_1 ≤ 2
      · rw [if_pos c6] at H
        have c6b0 : decide (x8_1 ≤ 2) = true := decide_eq_true c6
        clear c6
        replace H := Option.bind_eq_some_iff.mp H
        obtain ⟨t326, A70, H⟩ := H
        replace H : ((careenlaw06_bytes.f k1 x8_1 t326).bind fun bt329 => ((frame_Scan.f k1 x8_1 a2).bind fun bt331 => (if bt329.1.size + a2.size ≤ 9223372036854775807 then ((frame_Scan.f k1 x8_1 (bt329.1 ++ a2)).bind fun bt336 => (if bt329.2 = true then (if bt331.2.2 = bt336.2.2 then (if bt336.2.1 = (wrap64 ((bt329.1.size : Int) + bt331.2.1)) then (if (bt336.1.length : Int) = (wrap64 ((t326.length : Int) + (bt331.1.length : Int))) then (if 0 ≤ (mn (t326.length : Int) (bt336.1.length : Int)) then (if (mn (t326.length : Int) (bt336.1.length : Int)) ≤ (bt336.1.length : Int) then ((careenref06_Same.f k1 (bt336.1.take ((mn (t326.length : Int) (bt336.1.length : Int)) : Int).toNat) t326).bind fun t345 => (if t345 = true then ((careenref06_Same.f k1 (bt336.1.drop ((mn (t326.length : Int) (bt336.1.length : Int)) : Int).toNat) bt331.1).bind fun t350 => (if t350 = true then (careenlaw06_FrameJoined.l0 k1 l0 l1 a2 t325 (wrap64 (x8_1 + 1))) else (some false))) else (some false))) else (none)) else (none)) else (some false)) else (some false)) else (some false)) else (some false))) else (none)))) = some true := H
        have A7 := Aside0.mk A70
        clear A70
        replace H := Option.bind_eq_some_iff.mp H
        obtain ⟨⟨t329, t330⟩, A80, H⟩ := H
        replace H : ((frame_Scan.f k1 x8_1 a2).bind fun bt331 => (if t329.size + a2.size ≤ 9223372036854775807 then ((frame_Scan.f k1 x8_1 (t329 ++ a2)).bind fun bt336 => (if t330 = true then (if bt331.2.2 = bt336.2.2 then (if bt336.2.1 = (wrap64 ((t329.size : Int) + bt331.2.1)) then (if (bt336.1.length : Int) = (wrap64 ((t326.length : Int) + (bt331.1.length : Int))) then (if 0 ≤ (mn (t326.length : Int) (bt336.1.length : Int)) then (if (mn (t326.length : Int) (bt336.1.length : Int)) ≤ (bt336.1.length : Int) then ((careenref06_Same.f k1 (bt336.1.take ((mn (t326.length : Int) (bt336.1.length : Int)) : Int).toNat) t326).bind fun t345 => (if t345 = true then ((careenref06_Same.f k1 (bt336.1.drop ((mn (t326.length : Int) (bt336.1.length : Int)) : Int).toNat) bt331.1).bind fun t350 => (if t350 = true then (careenlaw06_FrameJoined.l0 k1 l0 l1 a2 t325 (wrap64 (x8_1 + 1))) else (some false))) else (some false))) else (none)) else (none)) else (some false)) else (some false)) else (some false)) else (some false))) else (none))) = some true := H
        have A8 := Aside0.mk A80
        clear A80
        replace H := Option.bind_eq_some_iff.mp H
        obtain ⟨⟨t331, t332, t333⟩, A90, H⟩ := H
        replace H : (if t329.size + a2.size ≤ 9223372036854775807 then ((frame_Scan.f k1 x8_1 (t329 ++ a2)).bind fun bt336 => (if t330 = true then (if t333 = bt336.2.2 then (if bt336.2.1 = (wrap64 ((t329.size : Int) + t332)) then (if (bt336.1.length : Int) = (wrap64 ((t326.length : Int) + (t331.length : Int))) then (if 0 ≤ (mn (t326.length : Int) (bt336.1.length : Int)) then (if (mn (t326.length : Int) (bt336.1.length : Int)) ≤ (bt336.1.length : Int) then ((careenref06_Same.f k1 (bt336.1.take ((mn (t326.length : Int) (bt336.1.length : Int)) : Int).toNat) t326).bind fun t345 => (if t345 = true then ((careenref06_Same.f k1 (bt336.1.drop ((mn (t326.length : Int) (bt336.1.length : Int)) : Int).toNat) t331).bind fun t350 => (if t350 = true then (careenlaw06_FrameJoined.l0 k1 l0 l1 a2 t325 (wrap64 (x8_1 + 1))) else (some false))) else (some false))) else (none)) else (none)) else (some false)) else (some false)) else (some false)) else (some false))) else (none)) = some true := H
        have A9 := Aside0.mk A90
        clear A90
        by_cases c10 : t329.size + a2.size ≤ 9223372036854775807
        · rw [if_pos c10] at H
          have c10b0 := eq_true c10
          have c10b1 : decide (t329.size + a2.size ≤ 9223372036854775807) = true := decide_eq_true c10
          try have c10b2 : (9223372036854775807 < t329.size + a2.size) = False := eq_false (Nat.not_lt.2 c10)
          replace H := Option.bind_eq_some_iff.mp H
          obtain ⟨⟨t336, t337, t338⟩, A110, H⟩ := H
          replace H : (if t330 = true then (if t333 = t338 then (if t337 = (wrap64 ((t329.size : Int) + t332)) then (if (t336.length : Int) = (wrap64 ((t326.length : Int) + (t331.length : Int))) then (if 0 ≤ (mn (t326.length : Int) (t336.length : Int)) then (if (mn (t326.length : Int) (t336.length : Int)) ≤ (t336.length : Int) then ((careenref06_Same.f k1 (t336.take ((mn (t326.length : Int) (t336.length : Int)) : Int).toNat) t326).bind fun t345 => (if t345 = true then ((careenref06_Same.f k1 (t336.drop ((mn (t326.length : Int) (t336.length : Int)) : Int).toNat) t331).bind fun t350 => (if t350 = true then (careenlaw06_FrameJoined.l0 k1 l0 l1 a2 t325 (wrap64 (x8_1 + 1))) else (some false))) else (some false))) else (none)) else (none)) else (some false)) else (some false)) else (some false)) else (some false)) = some true := H
          have A11 := Aside0.mk A110
          clear A110
          by_cases c12 : t330 = true
          · subst c12
            have H1 : (if t333 = t338 then (if t337 = (wrap64 ((t329.size : Int) + t332)) then (if (t336.length : Int) = (wrap64 ((t326.length : Int) + (t331.length : Int))) then (if 0 ≤ (mn (t326.length : Int) (t336.length : Int)) then (if (mn (t326.length : Int) (t336.length : Int)) ≤ (t336.length : Int) then ((careenref06_Same.f k1 (t336.take ((mn (t326.length : Int) (t336.length : Int)) : Int).toNat) t326).bind fun t345 => (if t345 = true then ((careenref06_Same.f k1 (t336.drop ((mn (t326.length : Int) (t336.length : Int)) : Int).toNat) t331).bind fun t350 => (if t350 = true then (careenlaw06_FrameJoined.l0 k1 l0 l1 a2 t325 (wrap64 (x8_1 + 1))) else (some false))) else (some false))) else (none)) else (none)) else (some false)) else (some false)) else (some false)) = some true := by rw [if_pos rfl] at H; exact H
            clear H
            have H := H1
            clear H1
            by_cases c13 : t333 = t338
            · rw [if_pos c13] at H
              have c13b0 : (t333 == t338) = true := beq_iff_eq.mpr c13
              have c13b1 : (t333 != t338) = false := bne_eq_false_iff_eq.mpr c13
              clear c13
              by_cases c14 : t337 = (wrap64 ((t329.size : Int) + t332))
              · rw [if_pos c14] at H
                have c14b0 : (t337 == (wrap64 ((t329.size : Int) + t332))) = true := beq_iff_eq.mpr c14
                have c14b1 : (t337 != (wrap64 ((t329.size : Int) + t332))) = false := bne_eq_false_iff_eq.mpr c14
                clear c14
                by_cases c15 : (t336.length : Int) = (wrap64 ((t326.length : Int) + (t331.length : Int)))
                · rw [if_pos c15] at H
                  have c15b0 : ((t336.length : Int) == (wrap64 ((t326.length : Int) + (t331.length : Int)))) = true := beq_iff_eq.mpr c15
                  have c15b1 : ((t336.length : Int) != (wrap64 ((t326.length : Int) + (t331.length : Int)))) = false := bne_eq_false_iff_eq.mpr c15
                  clear c15
                  obtain ⟨ji16, hji16⟩ : ∃ j_ : Int, (mn (t326.length : Int) (t336.length : Int)) = j_ := ⟨_, rfl⟩
                  replace H : (if 0 ≤ (ji16) then (if (ji16) ≤ (t336.length : Int) then ((careenref06_Same.f k1 (t336.take ((ji16) : Int).toNat) t326).bind fun t345 => (if t345 = true then ((careenref06_Same.f k1 (t336.drop ((ji16) : Int).toNat) t331).bind fun t350 => (if t350 = true then (careenlaw06_FrameJoined.l0 k1 l0 l1 a2 t325 (wrap64 (x8_1 + 1))) else (some false))) else (some false))) else (none)) else (none)) = some true := by first | (rw [hji16] at H; exact H) | (simp only [hji16] at H ⊢; exact H)
                  (try rw [hji16] at A7)
                  (try rw [hji16] at A8)
                  (try rw [hji16] at A9)
                  (try rw [hji16] at A11)
                  (try (have hji16l : 0 ≤ ji16 := by (rw [← hji16]; unfold mn; (repeat' split) <;> omega)))
                  (try (have hji16m : 0 ≤ ji16 := by omega))
                  have hji16_ : (if (t336.length : Int) < (t326.length : Int) then (t336.length : Int) else (t326.length : Int)) = ji16 := hji16
                  have hji16n : (if t336.length < t326.length then (t336.length : Int) else (t326.length : Int)) = ji16 := by
                    rw [← hji16_]
                    by_cases hz_ : t336.length < t326.length
                    · rw [if_pos hz_, if_pos (Int.ofNat_lt.mpr hz_)]
                    · rw [if_neg hz_, if_neg (fun h_ => hz_ (Int.ofNat_lt.mp h_))]
                  by_cases c17 : 0 ≤ (ji16)
                  · rw [if_pos c17] at H
                    have c17M : max ji16 0 = ji16 := Int.max_eq_left c17
                    have c17b0 := eq_true c17
                    have c17b1 : decide (0 ≤ (ji16)) = true := decide_eq_true c17
                    clear c17
                    by_cases c18 : (ji16) ≤ (t336.length : Int)
                    · rw [if_pos c18] at H
                      have c18b0 := eq_true c18
                      have c18b1 : decide ((ji16) ≤ (t336.length : Int)) = true := decide_eq_true c18
                      clear c18
                      obtain ⟨y341, hy341⟩ : ∃ y_ : List (S23), y_ = (t336.take ((ji16) : Int).toNat) := ⟨_, rfl⟩
                      replace H : ((careenref06_Same.f k1 y341 t326).bind fun t345 => (if t345 = true then ((careenref06_Same.f k1 (t336.drop ((ji16) : Int).toNat) t331).bind fun t350 => (if t350 = true then (careenlaw06_FrameJoined.l0 k1 l0 l1 a2 t325 (wrap64 (x8_1 + 1))) else (some false))) else (some false))) = some true := by first | (rw [hy341]; with_reducible exact H) | (have H2_ := (Option.bind_some _ _).symm.trans H; rw [hy341]; with_reducible exact H2_) | (have H2_ := (Option.bind_some _ _).symm.trans H; with_reducible exact H2_) | with_reducible exact H | (rw [hy341]; exact H) | exact H
                      have Ny341 := Aside0.mk hy341
                      clear hy341
                      replace H := Option.bind_eq_some_iff.mp H
                      obtain ⟨t345, A190, H⟩ := H
                      replace H : (if t345 = true then ((careenref06_Same.f k1 (t336.drop ((ji16) : Int).toNat) t331).bind fun t350 => (if t350 = true then (careenlaw06_FrameJoined.l0 k1 l0 l1 a2 t325 (wrap64 (x8_1 + 1))) else (some false))) else (some false)) = some true := H
                      have A19 := Aside0.mk A190
                      clear A190
                      by_cases c20 : t345 = true
                      · subst c20
                        have H1 : ((careenref06_Same.f k1 (t336.drop ((ji16) : Int).toNat) t331).bind fun t350 => (if t350 = true then (careenlaw06_FrameJoined.l0 k1 l0 l1 a2 t325 (wrap64 (x8_1 + 1))) else (some false))) = some true := by rw [if_pos rfl] at H; exact H
                        clear H
                        have H := H1
                        clear H1
                        have c21b0 := eq_true (of_decide_eq_true (by first | (with_reducible assumption) | assumption) : 0 ≤ (ji16))
                        have c22b0 := eq_true (of_decide_eq_true (by first | (with_reducible assumption) | assumption) : (ji16) ≤ (t336.length : Int))
                        obtain ⟨y346, hy346⟩ : ∃ y_ : List (S23), y_ = (t336.drop ((ji16) : Int).toNat) := ⟨_, rfl⟩
                        replace H : ((careenref06_Same.f k1 y346 t331).bind fun t350 => (if t350 = true then (careenlaw06_FrameJoined.l0 k1 l0 l1 a2 t325 (wrap64 (x8_1 + 1))) else (some false))) = some true := by first | (rw [hy346]; with_reducible exact H) | (have H2_ := (Option.bind_some _ _).symm.trans H; rw [hy346]; with_reducible exact H2_) | (have H2_ := (Option.bind_some _ _).symm.trans H; with_reducible exact H2_) | with_reducible exact H | (rw [hy346]; exact H) | exact H
                        have Ny346 := Aside0.mk hy346
                        clear hy346
                        replace H := Option.bind_eq_some_iff.mp H
                        obtain ⟨t350, A230, H⟩ := H
                        replace H : (if t350 = true then (careenlaw06_FrameJoined.l0 k1 l0 l1 a2 t325 (wrap64 (x8_1 + 1))) else (some false)) = some true := H
                        have A23 := Aside0.mk A230
                        clear A230
                        by_cases c24 : t350 = true
                        · subst c24
                          have H1 : (careenlaw06_FrameJoined.l0 k1 l0 l1 a2 t325 (wrap64 (x8_1 + 1))) = some true := by rw [if_pos rfl] at H; exact H
                          clear H
                          have H := H1
                          clear H1
                          have H' := Aside0.mk H
                          clear H
                          go_wp2_with (first | ((with_reducible refine gate_callee (f := 16) rfl ?_); refine goesL_ (some 26) rfl rfl Try.func16 (by kernel_rfl) rfl #[.int .i64 x8_1, .slice A0 l0.length c0, .slice A1 l1.length c1] rfl (by (try simp only [List.map_toArray, List.map_cons, List.map_nil]); first | done | rfl | (simp only [List.length_drop, List.length_take]; rfl)) ?_; (with_reducible refine (careenlaw06_Frames.calls k1 x8_1 _ _ l0 _ _ l1 t326 _ ?side1 ?side2 ?side3 ?side4 A7.out).mono ?_); (case side1 => repeat (first | exact (Kd.C_below HR0.out HB.out) | (with_reducible refine Kd.C_alloc ?_ _) | (with_reducible refine Kd.C_drewN ?_ _) | (with_reducible refine Kd.C_drew ?_))); (case side2 => exact HC0.out); (case side3 => repeat (first | exact (Kd.C_below HR1.out HB.out) | (with_reducible refine Kd.C_alloc ?_ _) | (with_reducible refine Kd.C_drewN ?_ _) | (with_reducible refine Kd.C_drew ?_))); (case side4 => exact HC1.out); rintro e w25 ⟨v327, rfl, ho0, hb⟩; refine ⟨_, rfl, ?_⟩; have n0_ := Aside0.mk (Kd.R_lower ho0 (below_size (by repeat (first | (with_reducible first | exact HB.out | apply below_alloc | apply pw_below_drewN | apply below_drew1) | exact HB.out)))); have n1_ := Aside0.mk (below_step (by repeat (first | (with_reducible first | exact HB.out | apply below_alloc | apply pw_below_drewN | apply below_drew1) | exact HB.out)) hb); clear HB; have HO328 := n0_; have HB := n1_; clear n0_ n1_; (try clear hb); (try clear hb2); (try clear hk); (try clear hi); (try clear ho0); obtain ⟨Ao26, co26, eo26⟩ := Kd.R_slice HO328.out; subst eo26) | ((with_reducible refine gate_callee (f := 21) rfl ?_); refine goesL_ (some 30) rfl rfl Try.func21 (by kernel_rfl) rfl #[.int .i64 x8_1, .slice Ao26 t326.length co26] rfl (by (try simp only [List.map_toArray, List.map_cons, List.map_nil]); first | done | rfl | (simp only [List.length_drop, List.length_take]; rfl)) ?_; (with_reducible refine (careenlaw06_bytes.calls k1 x8_1 _ _ t326 t329 true _ ?side1 ?side2 A8.out).mono ?_); (case side1 => repeat (first | exact (Kd.R_reads' HO328.out).2.2 | (with_reducible refine Kd.C_alloc ?_ _) | (with_reducible refine Kd.C_drewN ?_ _) | (with_reducible refine Kd.C_drew ?_))); (case side2 => exact (Kd.R_reads' HO328.out).2.1); rintro e w27 ⟨rfl, hb⟩; refine ⟨_, rfl, ?_⟩; have n0_ := Aside0.mk (Kd.R_below (by (with_reducible repeat (first | apply Kd.R_alloc | apply Kd.R_drewN | apply Kd.R_drew)); exact HO328.out) hb); have n1_ := Aside0.mk (below_step (by repeat (first | (with_reducible first | exact HB.out | apply below_alloc | apply pw_below_drewN | apply below_drew1) | exact HB.out)) hb); clear HO328; clear HB; have HO328 := n0_; have HB := n1_; clear n0_ n1_; (try clear hb); (try clear hb2); (try clear hk); (try clear hi)) | ((with_reducible refine gate_callee (f := 18) rfl ?_); refine goesL_ (some 36) rfl rfl Try.func18 (by kernel_rfl) rfl #[.int .i64 x8_1, .string a2] rfl (by (try simp only [List.map_toArray, List.map_cons, List.map_nil]); first | done | rfl | (simp only [List.length_drop, List.length_take]; rfl)) ?_; (with_reducible refine (frame_Scan.calls k1 x8_1 a2 t331 t332 t333 _ A9.out).mono ?_); rintro e w28 ⟨v334, rfl, ho0, hb⟩; refine ⟨_, rfl, ?_⟩; have n0_ := Aside0.mk (Kd.R_elder' (by (with_reducible repeat (first | apply Kd.R_alloc | apply Kd.R_drewN | apply Kd.R_drew)); exact HO328.out) (Kd.R_base ho0) hb); have n1_ := Aside0.mk (Kd.R_lower (Kd.R_new' ho0 (Kd.R_lt (by (with_reducible repeat (first | apply Kd.R_alloc | apply Kd.R_drewN | apply Kd.R_drew)); exact HO328.out))) (below_size (by repeat (first | (with_reducible first | exact HB.out | apply below_alloc | apply pw_below_drewN | apply below_drew1) | exact HB.out)))); have n2_ := Aside0.mk (below_step (by repeat (first | (with_reducible first | exact HB.out | apply below_alloc | apply pw_below_drewN | apply below_drew1) | exact HB.out)) hb); clear HO328; clear HB; have HO328 := n0_; have HO335 := n1_; have HB := n2_; clear n0_ n1_ n2_; (try clear hb); (try clear hb2); (try clear hk); (try clear hi); (try clear ho0)) | ((with_reducible refine gate_callee (f := 18) rfl ?_); refine goesL_ (some 45) rfl rfl Try.func18 (by kernel_rfl) rfl #[.int .i64 x8_1, .string (t329 ++ a2)] rfl (by (try simp only [List.map_toArray, List.map_cons, List.map_nil]); first | done | rfl | (simp only [List.length_drop, List.length_take]; rfl)) ?_; (with_reducible refine (frame_Scan.calls k1 x8_1 (t329 ++ a2) t336 t337 t338 _ A11.out).mono ?_); rintro e w29 ⟨v339, rfl, ho0, hb⟩; refine ⟨_, rfl, ?_⟩; have n0_ := Aside0.mk (Kd.R_elder' (by (with_reducible repeat (first | apply Kd.R_alloc | apply Kd.R_drewN | apply Kd.R_drew)); exact HO328.out) (Kd.R_base ho0) hb); have n1_ := Aside0.mk (Kd.R_elder' (by (with_reducible repeat (first | apply Kd.R_alloc | apply Kd.R_drewN | apply Kd.R_drew)); exact HO335.out) (Kd.R_base ho0) hb); have n2_ := Aside0.mk (Kd.R_lower (Kd.R_new' (Kd.R_new' ho0 (Kd.R_lt (by (with_reducible repeat (first | apply Kd.R_alloc | apply Kd.R_drewN | apply Kd.R_drew)); exact HO328.out))) (Kd.R_lt (by (with_reducible repeat (first | apply Kd.R_alloc | apply Kd.R_drewN | apply Kd.R_drew)); exact HO335.out))) (below_size (by repeat (first | (with_reducible first | exact HB.out | apply below_alloc | apply pw_below_drewN | apply below_drew1) | exact HB.out)))); have n3_ := Aside0.mk (below_step (by repeat (first | (with_reducible first | exact HB.out | apply below_alloc | apply pw_below_drewN | apply below_drew1) | exact HB.out)) hb); clear HO328; clear HO335; clear HB; have HO328 := n0_; have HO335 := n1_; have HO340 := n2_; have HB := n3_; clear n0_ n1_ n2_ n3_; (try clear hb); (try clear hb2); (try clear hk); (try clear hi); (try clear ho0); obtain ⟨Ao30, co30, eo30⟩ := Kd.R_slice HO340.out; subst eo30; obtain ⟨Ao31, co31, eo31⟩ := Kd.R_slice HO335.out; subst eo31; have q32 : ((ji16) : Int) ≤ ((t336.length : Int) : Int) := of_decide_eq_true (by first | (with_reducible assumption) | assumption); obtain ⟨i032, hi032, _, hsz32, _⟩ := info_parts info23; have hroom32 : t336.length ≤ co30 := (Kd.R_reads' HO340.out).2.1; have hC32 : Kd.C k23 _ Ao30 t336.length t336 := (Kd.R_reads' HO340.out).2.2; have hcut32 := cut_to (P := Try.prog) 32 23 .i64 Try.underlying32 hi032 Ao30 t336.length co30 (ji16) (of_decide_eq_true (by first | (with_reducible assumption) | assumption)) q32 hroom32; have hr32 := Kd.C_take (m := ((ji16) : Int).toNat) hC32 (by omega); have hy32 : y341.length = ((ji16) : Int).toNat := (by rw [Ny341.out, List.length_take]; omega); rw [← Ny341.out] at hr32; rw [← hy32] at hcut32; have HR344 := Aside0.mk hr32; have HC344 := Aside0.mk (show y341.length ≤ co30 from by omega); clear hr32 hC32 hroom32 hi032 hsz32; have KY32 := Aside0.mk hy32; clear hy32; have KL32 := Aside0.mk (show ((ji16) : Int).toNat ≤ t336.length from by omega); replace q32 := eq_true q32) | (go_at_call 20; (with_reducible refine (careenref06_Same.calls k1 _ _ y341 _ _ t326 true _ ?side1 ?side2 ?side3 ?side4 A19.out).mono ?_); (case side1 => repeat (first | exact (by repeat (first | (with_reducible exact HR344.out) | (with_reducible refine Kd.C_alloc ?_ _) | (with_reducible refine Kd.C_drewN ?_ _) | (with_reducible refine Kd.C_drew ?_) | exact HR344.out)) | (with_reducible refine Kd.C_alloc ?_ _) | (with_reducible refine Kd.C_drewN ?_ _) | (with_reducible refine Kd.C_drew ?_))); (case side2 => exact HC344.out); (case side3 => repeat (first | exact (Kd.R_reads' HO328.out).2.2 | (with_reducible refine Kd.C_alloc ?_ _) | (with_reducible refine Kd.C_drewN ?_ _) | (with_reducible refine Kd.C_drew ?_))); (case side4 => exact (Kd.R_reads' HO328.out).2.1); rintro e w' ⟨rfl, ⟨nd, rfl⟩⟩; have q33 : ((ji16) : Int) ≤ ((t336.length : Int) : Int) := of_decide_eq_true (by first | (with_reducible assumption) | assumption); obtain ⟨i033, hi033, _, hsz33, _⟩ := info_parts info23; have hroom33 : t336.length ≤ co30 := (Kd.R_reads' HO340.out).2.1; have hC33 : Kd.C k23 _ Ao30 t336.length t336 := (Kd.R_reads' HO340.out).2.2; have q033 : (0 : Int) ≤ ((ji16) : Int) := of_decide_eq_true (by first | (with_reducible assumption) | assumption); have hcut33 := cut_from (P := Try.prog) 32 23 .i64 Try.underlying32 hi033 3 hsz33 Ao30 t336.length co30 (ji16) q033 q33; have hr33 := Kd.C_drop (m := ((ji16) : Int).toNat) (c := co30) hC33 (by omega) hroom33; obtain ⟨A33, hA33⟩ : ∃ A1, A1 = (if co30 = ((ji16) : Int).toNat then Ao30 else (Ao30 : Option Addr).map (·.add (((ji16) : Int).toNat * 3))) := ⟨_, rfl⟩; obtain ⟨c33, hc33⟩ : ∃ c1, c1 = co30 - ((ji16) : Int).toNat := ⟨_, rfl⟩; have hy33 : y346.length = t336.length - ((ji16) : Int).toNat := (by rw [Ny346.out, List.length_drop] <;> omega); rw [show (t336).drop ((ji16) : Int).toNat = y346 from Ny346.out.symm] at hr33; replace hr33 : Kd.C k23 _ A33 y346.length y346 := (by rw [hA33]; exact hr33); rw [← hy33, ← hA33, ← hc33] at hcut33; have HR349 := Aside0.mk hr33; have HC349 := Aside0.mk (show y346.length ≤ c33 from by rw [hy33, hc33]; exact Nat.sub_le_sub_right hroom33 _); clear hr33 hC33 hroom33 hi033 hsz33 hc33; have KY33 := Aside0.mk hy33; have KA33 := Aside0.mk hA33; clear hy33 hA33; have KL33 := Aside0.mk (show ((ji16) : Int).toNat ≤ t336.length from by omega); replace q33 := eq_true q33) | (go_at_call 20; (with_reducible refine (careenref06_Same.calls k1 _ _ y346 _ _ t331 true _ ?side1 ?side2 ?side3 ?side4 A23.out).mono ?_); (case side1 => repeat (first | exact (by repeat (first | (with_reducible exact HR349.out) | (with_reducible refine Kd.C_alloc ?_ _) | (with_reducible refine Kd.C_drewN ?_ _) | (with_reducible refine Kd.C_drew ?_) | exact HR349.out)) | (with_reducible refine Kd.C_alloc ?_ _) | (with_reducible refine Kd.C_drewN ?_ _) | (with_reducible refine Kd.C_drew ?_))); (case side2 => exact HC349.out); (case side3 => repeat (first | exact (Kd.R_reads' HO335.out).2.2 | (with_reducible refine Kd.C_alloc ?_ _) | (with_reducible refine Kd.C_drewN ?_ _) | (with_reducible refine Kd.C_drew ?_))); (case side4 => exact (Kd.R_reads' HO335.out).2.1); rintro e w' ⟨rfl, ⟨nd, rfl⟩⟩))
                          go_roundg k1
                          case measure => have := HK1.out; omega
                          case rel => exact ⟨(wrap64 (x8_1 + 1)), (by first | rfl | (simp; done) | (simp [*]; done)), H', ⟨by have := HK1.out; omega⟩, ⟨by repeat (first | (with_reducible first | exact HB.out | apply below_alloc | apply pw_below_drewN | apply below_drew1) | exact HB.out)⟩⟩
                        · replace c24 := Bool.eq_false_iff.mpr c24
                          subst c24
                          have H1 : (some false) = some true := by rw [if_neg (show ¬ (false = true) by decide)] at H; exact H
                          clear H
                          have H := H1
                          clear H1
                          exact absurd H (by simp)
                      · replace c20 := Bool.eq_false_iff.mpr c20
                        subst c20
                        have H1 : (some false) = some true := by rw [if_neg (show ¬ (false = true) by decide)] at H; exact H
                        clear H
                        have H := H1
                        clear H1
                        exact absurd H (by simp)
                    · rw [if_neg c18] at H
                      exact absurd H (by simp)
                  · rw [if_neg c17] at H
                    exact absurd H (by simp)
                · rw [if_neg c15] at H
                  have c15b0 : ((t336.length : Int) == (wrap64 ((t326.length : Int) + (t331.length : Int)))) = false := beq_eq_false_iff_ne.mpr c15
                  have c15b1 : ((t336.length : Int) != (wrap64 ((t326.length : Int) + (t331.length : Int)))) = true := bne_iff_ne.mpr c15
                  exact absurd H (by simp)
              · rw [if_neg c14] at H
                have c14b0 : (t337 == (wrap64 ((t329.size : Int) + t332))) = false := beq_eq_false_iff_ne.mpr c14
                have c14b1 : (t337 != (wrap64 ((t329.size : Int) + t332))) = true := bne_iff_ne.mpr c14
                exact absurd H (by simp)
            · rw [if_neg c13] at H
              have c13b0 : (t333 == t338) = false := beq_eq_false_iff_ne.mpr c13
              have c13b1 : (t333 != t338) = true := bne_iff_ne.mpr c13
              exact absurd H (by simp)
          · replace c12 := Bool.eq_false_iff.mpr c12
            subst c12
            have H1 : (some false) = some true := by rw [if_neg (show ¬ (false = true) by decide)] at H; exact H
            clear H
            have H := H1
            clear H1
            exact absurd H (by simp)
        · rw [if_neg c10] at H
          exact absurd H (by simp)
      · rw [if_neg c6] at H
        have c6b0 : decide (x8_1 ≤ 2) = false := decide_eq_false c6
        clear c6
        have HV_ := Aside0.mk (Option.some.inj H)
        clear H
        go_wp2
        go_ret
        exact ⟨by first | exact congrArg (fun b_ => Ending.returned (Value.bool b_)) HV_.out | (have hv_ := HV_.out; simp only [Bool.and_eq_true, beq_iff_eq] at hv_; simp [hv_]; done) | (have hv_ := HV_.out; simp at hv_; simp [*]; done) | rfl | (simp [errW_none, errW_some] <;> rfl) | (simp [*, errW_none, errW_some] <;> rfl), by repeat (first | (with_reducible first | exact HB.out | apply below_alloc | apply pw_below_drewN | apply below_drew1) | exact HB.out)⟩

/-- THE ONE PURE STATEMENT of careenlaw06_FrameJoined. -/
def careenlaw06_FrameJoined.Pure : Prop := ∀ (l0 : List (S57)) (l1 : List ByteArray) (a2 : ByteArray), l0.length * 24 ≤ 140737488351232 → (∀ x ∈ l0, (Lit.int .i64 x.f0).wf = true ∧ (Lit.int .i64 x.f1).wf = true ∧ (Lit.int .i64 x.f2).wf = true) → l1.length * 16 ≤ 140737488351232 → (∀ x ∈ l1, x.size ≤ 9223372036854775807) → a2.size ≤ 140737488351232 → ∃ k, careenlaw06_FrameJoined.f k l0 l1 a2 = some true

end Go.Proofs.Ytmicfaeloanffaa.PAll
