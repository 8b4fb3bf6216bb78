-- Written by a program of this session (wip/xpatch.py, wip/xprint.sh) for seat Ytlhkcbcfhmjamaa.
import Derived.Test.YtlhkcbcfhmjamaaPAllx0
import Derived.Test.YtlhkcbcfhmjamaaPAllx1
import Derived.Test.YtlhkcbcfhmjamaaPAllx2
namespace Go.Proofs.Ytlhkcbcfhmjamaa.PAll
open Go.RowKit Go.Proofs.YtlhkcbcfhmjamaaW.PrintWords Go.Proofs.YtlhkcbcfhmjamaaW.PrintLast Go.Proofs.YtlhkcbcfhmjamaaW.PrintMore
attribute [local go_sem] max2_int min2_int max_two min_two max_three min_three max_four min_four   -- for this text's walks alone
set_option linter.unusedVariables false
set_option linter.unusedSimpArgs false

attribute [local go_sem high] eqA23
/-! ### careenlaw07_DiskFull: function 5 -/
def careenlaw07_DiskFull.l0 : Nat → Int → ByteArray → Bool → ByteArray → Option (Bool)
  | 0, _, _, _, _ => none
  | k + 1, x0, x1, x5, x6 => if (x6.size : Int) < 100002 then (if x6.size + x6.size ≤ 9223372036854775807 then (careenlaw07_DiskFull.l0 k x0 x1 x5 (x6 ++ x6)) else (none)) else ((careenlaw07_pick.f x0 3).bind fun t236 => (if 0 ≤ (mn (x1.size : Int) 100) then (if (mn (x1.size : Int) 100) ≤ (x1.size : Int) then (if 0 ≤ (mn (wrap64 (t236 + 99999)) (x6.size : Int)) then (if (mn (wrap64 (t236 + 99999)) (x6.size : Int)) ≤ (x6.size : Int) then ((disk_Append.f (⟨#[]⟩ : ByteArray) (⟨#[]⟩ : ByteArray) (⟨#[]⟩ : ByteArray) (x6.extract 0 ((mn (wrap64 (t236 + 99999)) (x6.size : Int)) : Int).toNat)).bind fun bt237 => ((disk_Swap.f (⟨#[]⟩ : ByteArray) (x1.extract 0 ((mn (x1.size : Int) 100) : Int).toNat) (⟨#[]⟩ : ByteArray) (x6.extract 0 ((mn (wrap64 (t236 + 99999)) (x6.size : Int)) : Int).toNat)).bind fun bt242 => (if (wrap64 (t236 + 99999)) > 100000 then (if x5 = true then (if bt237.2.2.2 = 50 then (if (bt237.1.toList == ([] : List UInt8) && (bt237.2.1.toList == ([] : List UInt8) && (bt237.2.2.1.toList == ([] : List UInt8)))) = true then (if bt242.2.2.2 = 50 then (some (bt242.1.toList == ([] : List UInt8) && (bt242.2.1.toList == ((x1.extract 0 ((mn (x1.size : Int) 100) : Int).toNat).toList) && (bt242.2.2.1.toList == ([] : List UInt8))))) else (some false)) else (some false)) else (some false)) else (some false)) else ((disk_Sync.f bt237.1 bt237.2.1 bt237.2.2.1).bind fun bt247 => ((disk_Append.f bt247.1 bt247.2.1 bt247.2.2 (x1.extract 0 ((mn (x1.size : Int) 100) : Int).toNat)).bind fun bt250 => (if (mn (x1.size : Int) 100) > (wrap64 (100000 - (wrap64 (t236 + 99999)))) then (if x5 = true then (if bt237.2.2.2 = 0 then (if bt242.2.2.2 = 0 then (if bt250.2.2.2 = 50 then ((disk_Sync.f bt237.1 bt237.2.1 bt237.2.2.1).bind fun bt255 => (some (bt250.1.toList == bt255.1.toList && (bt250.2.1.toList == bt255.2.1.toList && (bt250.2.2.1.toList == bt255.2.2.toList))))) else (some false)) else (some false)) else (some false)) else (some false)) else (if x5 = true then (if bt237.2.2.2 = 0 then (if bt242.2.2.2 = 0 then (if bt250.2.2.2 = 0 then ((disk_Log.f bt250.1 bt250.2.1 bt250.2.2.1).bind fun t258 => (if (t258.size : Int) = (wrap64 ((wrap64 (t236 + 99999)) + (mn (x1.size : Int) 100))) then (some ((bt242.1.size : Int) == (wrap64 (t236 + 99999)))) else (some false))) else (some false)) else (some false)) else (some false)) else (some false)))))))) else (none)) else (none)) else (none)) else (none)))
def careenlaw07_DiskFull.f (k : Nat) (a0 : Int) (a1 : ByteArray) : Option (Bool) := (careenlaw07_awake.f).bind fun t235 => (careenlaw07_DiskFull.l0 k a0 a1 t235 (⟨#[48, 49, 50, 51, 52, 53, 54, 55, 56, 57, 97, 98, 99, 100, 101, 102]⟩ : ByteArray))
theorem careenlaw07_DiskFull.mono_l : ∀ k, (∀ y0 y1 y2 y3, LeO (careenlaw07_DiskFull.l0 k y0 y1 y2 y3) (careenlaw07_DiskFull.l0 (k + 1) y0 y1 y2 y3))
  | 0 => (fun _ _ _ _ r h => by cases (show (none : Option _) = some r from h))
  | k + 1 => by
    have ih0 := careenlaw07_DiskFull.mono_l k
    · intro y0 y1 y2 y3
      unfold careenlaw07_DiskFull.l0
      repeat' first
      | (with_reducible exact ih0 _ _ _ _)
      | (with_reducible exact LeO.refl _)
      | (with_reducible exact LeO.none _)
      | (with_reducible refine LeO.ite ?_ ?_)
      | (with_reducible refine LeO.bind ?_ (fun _ => ?_))
      | exact ih0 _ _ _ _
      | exact LeO.none _
      | refine LeO.ite ?_ ?_
      | refine LeO.bind ?_ (fun _ => ?_)
theorem careenlaw07_DiskFull.mono : ∀ a0 a1 k, LeO (careenlaw07_DiskFull.f k a0 a1) (careenlaw07_DiskFull.f (k + 1) a0 a1) := by
  intro a0 a1 k
  have ih0 := careenlaw07_DiskFull.mono_l k
  unfold careenlaw07_DiskFull.f
  repeat' first
      | (with_reducible exact ih0 _ _ _ _)
      | (with_reducible exact LeO.refl _)
      | (with_reducible exact LeO.none _)
      | (with_reducible refine LeO.ite ?_ ?_)
      | (with_reducible refine LeO.bind ?_ (fun _ => ?_))
      | exact ih0 _ _ _ _
      | exact LeO.none _
      | refine LeO.ite ?_ ?_
      | refine LeO.bind ?_ (fun _ => ?_)
def careenlaw07_DiskFull.T13 : Bool × List (List Nat × List Nat) := (true, [([], []), ([0], [0]), ([1], [1]), ([2, 1], [1, 2]), ([1, 3], [1, 3]), ([4, 1], [4]), ([5], [5]), ([6, 5], [5, 6]), ([5, 7], [5, 7]), ([8, 5], [8]), ([9], [9]), ([10, 9], [9, 10]), ([9, 11], [9, 11]), ([12, 9], [12]), ([13], [13]), ([13], [13]), ([15, 13, 13], [13, 15]), ([14, 16, 13], [13, 14, 16]), ([13, 17], [13, 17]), ([18, 16, 0, 1, 2, 3, 4, 5, 6, 7, 8, 9, 10, 11, 12, 13, 14, 15, 16, 17, 18], [18])])
def careenlaw07_DiskFull.B13 : List Nat := [0, 1, 3, 7, 15, 31, 63, 127, 255, 511, 1023, 2047, 4095, 8191, 16383, 16383, 49151, 131071, 262143, 524287]
theorem careenlaw07_DiskFull.tab13 : rtab .any (opsOf Try.f5 13) = careenlaw07_DiskFull.T13 := by kernel_rfl
theorem careenlaw07_DiskFull.bits13 : waitsOk careenlaw07_DiskFull.T13.2 careenlaw07_DiskFull.B13 = true := by kernel_rfl
set_option maxHeartbeats 8000000 in
set_option maxRecDepth 1000000 in
theorem careenlaw07_DiskFull.calls (k : Nat) (a0 : Int) (a1 : ByteArray) (w : World) (h : careenlaw07_DiskFull.f k a0 a1 = some true) :
    Calls Try.prog 5 #[.int .i64 a0, .string a1] w fun e w' => e = .returned (.bool true) ∧ Below w.heap.size w w' := by
  have hu23 := Try.underlying23
  have HB := Aside0.mk (Below.refl w.heap.size w)
  have H : ((careenlaw07_awake.f).bind fun t235 => (careenlaw07_DiskFull.l0 k a0 a1 t235 (⟨#[48, 49, 50, 51, 52, 53, 54, 55, 56, 57, 97, 98, 99, 100, 101, 102]⟩ : ByteArray))) = some true := h
  clear h
  replace H := Option.bind_eq_some_iff.mp H
  obtain ⟨t235, A30, H⟩ := H
  replace H : (careenlaw07_DiskFull.l0 k a0 a1 t235 (⟨#[48, 49, 50, 51, 52, 53, 54, 55, 56, 57, 97, 98, 99, 100, 101, 102]⟩ : ByteArray)) = some true := H
  have A3 := Aside0.mk A30
  clear A30
  have H' := Aside0.mk H
  clear H
  go_enter Try.func5, Try.ntmps5
  go_wp2_with (first | ((with_reducible refine gate_callee (f := 8) rfl ?_); refine goesL_ (some 15) rfl rfl Try.func8 (by kernel_rfl) rfl #[] rfl (by (try simp only [List.map_toArray, List.map_cons, List.map_nil]); first | done | rfl | (simp only [List.length_drop, List.length_take]; rfl)) ?_; (with_reducible refine (careenlaw07_awake.calls  t235 _ A3.out).mono ?_); rintro e w4 ⟨rfl, hb⟩; refine ⟨_, rfl, ?_⟩; have n0_ := Aside0.mk (below_step (by repeat (first | (with_reducible first | exact HB.out | apply below_alloc | apply pw_below_drewN | apply below_drew1) | exact HB.out)) hb); clear HB; have HB := n0_; clear n0_; (try clear hb); (try clear hb2); (try clear hk); (try clear hi)))
  go_loopg [6] k (fun kq v6 w' => ∃ (x6_1 : ByteArray), v6 = .string x6_1 ∧ Aside0 (careenlaw07_DiskFull.l0 kq a0 a1 t235 x6_1 = some true) ∧ Aside0 (kq ≤ k) ∧ Aside0 (Below w.heap.size w w'))
  case atStart => exact ⟨((⟨#[48, 49, 50, 51, 52, 53, 54, 55, 56, 57, 97, 98, 99, 100, 101, 102]⟩ : ByteArray)), (by first | rfl | (simp; done) | (simp [*]; done)), H', ⟨Nat.le_refl _⟩, ⟨by repeat (first | (with_reducible first | exact HB.out | apply below_alloc | apply pw_below_drewN | apply below_drew1) | exact HB.out)⟩⟩
  case round =>
    clear H'
    try clear p2
    obtain ⟨x6_1, rfl, HA, HK1, HB⟩ := hrel
    cases gk with
    | zero => cases (show (none : Option _) = some _ from HA.out)
    | succ k1 =>
      have H := HA.out
      clear HA
      replace H : (if (x6_1.size : Int) < 100002 then (if x6_1.size + x6_1.size ≤ 9223372036854775807 then (careenlaw07_DiskFull.l0 k1 a0 a1 t235 (x6_1 ++ x6_1)) else (none)) else ((careenlaw07_pick.f a0 3).bind fun t236 => (if 0 ≤ (mn (a1.size : Int) 100) then (if (mn (a1.size : Int) 100) ≤ (a1.size : Int) then (if 0 ≤ (mn (wrap64 (t236 + 99999)) (x6_1.size : Int)) then (if (mn (wrap64 (t236 + 99999)) (x6_1.size : Int)) ≤ (x6_1.size : Int) then ((disk_Append.f (⟨#[]⟩ : ByteArray) (⟨#[]⟩ : ByteArray) (⟨#[]⟩ : ByteArray) (x6_1.extract 0 ((mn (wrap64 (t236 + 99999)) (x6_1.size : Int)) : Int).toNat)).bind fun bt237 => ((disk_Swap.f (⟨#[]⟩ : ByteArray) (a1.extract 0 ((mn (a1.size : Int) 100) : Int).toNat) (⟨#[]⟩ : ByteArray) (x6_1.extract 0 ((mn (wrap64 (t236 + 99999)) (x6_1.size : Int)) : Int).toNat)).bind fun bt242 => (if (wrap64 (t236 + 99999)) > 100000 then (if t235 = true then (if bt237.2.2.2 = 50 then (if (bt237.1.toList == ([] : List UInt8) && (bt237.2.1.toList == ([] : List UInt8) && (bt237.2.2.1.toList == ([] : List UInt8)))) = true then (if bt242.2.2.2 = 50 then (some (bt242.1.toList == ([] : List UInt8) && (bt242.2.1.toList == ((a1.extract 0 ((mn (a1.size : Int) 100) : Int).toNat).toList) && (bt242.2.2.1.toList == ([] : List UInt8))))) else (some false)) else (some false)) else (some false)) else (some false)) else ((disk_Sync.f bt237.1 bt237.2.1 bt237.2.2.1).bind fun bt247 => ((disk_Append.f bt247.1 bt247.2.1 bt247.2.2 (a1.extract 0 ((mn (a1.size : Int) 100) : Int).toNat)).bind fun bt250 => (if (mn (a1.size : Int) 100) > (wrap64 (100000 - (wrap64 (t236 + 99999)))) then (if t235 = true then (if bt237.2.2.2 = 0 then (if bt242.2.2.2 = 0 then (if bt250.2.2.2 = 50 then ((disk_Sync.f bt237.1 bt237.2.1 bt237.2.2.1).bind fun bt255 => (some (bt250.1.toList == bt255.1.toList && (bt250.2.1.toList == bt255.2.1.toList && (bt250.2.2.1.toList == bt255.2.2.toList))))) else (some false)) else (some false)) else (some false)) else (some false)) else (if t235 = true then (if bt237.2.2.2 = 0 then (if bt242.2.2.2 = 0 then (if bt250.2.2.2 = 0 then ((disk_Log.f bt250.1 bt250.2.1 bt250.2.2.1).bind fun t258 => (if (t258.size : Int) = (wrap64 ((wrap64 (t236 + 99999)) + (mn (a1.size : Int) 100))) then (some ((bt242.1.size : Int) == (wrap64 (t236 + 99999)))) else (some false))) else (some false)) else (some false)) else (some false)) else (some false)))))))) else (none)) else (none)) else (none)) else (none)))) = some true := H
      by_cases c5 : (x6_1.size : Int) < 100002
      · rw [if_pos c5] at H
        have c5b0 : decide ((x6_1.size : Int) < 100002) = true := decide_eq_true c5
        have c5b1 : decide (x6_1.size < 100002) = true := decide_eq_true (by omega)
        clear c5
        by_cases c6 : x6_1.size + x6_1.size ≤ 9223372036854775807
        · rw [if_pos c6] at H
          have c6b0 := eq_true c6
          have c6b1 : decide (x6_1.size + x6_1.size ≤ 9223372036854775807) = true := decide_eq_true c6
          try have c6b2 : (9223372036854775807 < x6_1.size + x6_1.size) = False := eq_false (Nat.not_lt.2 c6)
          have H' := Aside0.mk H
          clear H
          go_wp2
          go_roundg k1
          case measure => have := HK1.out; omega
          case rel => exact ⟨(x6_1 ++ x6_1), (by first | rfl | (simp; done) | (simp [*]; done)), H', ⟨by have := HK1.out; omega⟩, ⟨by repeat (first | (with_reducible first | exact HB.out | apply below_alloc | apply pw_below_drewN | apply below_drew1) | exact HB.out)⟩⟩
        · rw [if_neg c6] at H
          exact absurd H (by simp)
      · rw [if_neg c5] at H
        have c5b0 : decide ((x6_1.size : Int) < 100002) = false := decide_eq_false c5
        have c5b1 : decide (x6_1.size < 100002) = false := decide_eq_false (by omega)
        clear c5
        replace H := Option.bind_eq_some_iff.mp H
        obtain ⟨t236, A70, H⟩ := H
        replace H : (if 0 ≤ (mn (a1.size : Int) 100) then (if (mn (a1.size : Int) 100) ≤ (a1.size : Int) then (if 0 ≤ (mn (wrap64 (t236 + 99999)) (x6_1.size : Int)) then (if (mn (wrap64 (t236 + 99999)) (x6_1.size : Int)) ≤ (x6_1.size : Int) then ((disk_Append.f (⟨#[]⟩ : ByteArray) (⟨#[]⟩ : ByteArray) (⟨#[]⟩ : ByteArray) (x6_1.extract 0 ((mn (wrap64 (t236 + 99999)) (x6_1.size : Int)) : Int).toNat)).bind fun bt237 => ((disk_Swap.f (⟨#[]⟩ : ByteArray) (a1.extract 0 ((mn (a1.size : Int) 100) : Int).toNat) (⟨#[]⟩ : ByteArray) (x6_1.extract 0 ((mn (wrap64 (t236 + 99999)) (x6_1.size : Int)) : Int).toNat)).bind fun bt242 => (if (wrap64 (t236 + 99999)) > 100000 then (if t235 = true then (if bt237.2.2.2 = 50 then (if (bt237.1.toList == ([] : List UInt8) && (bt237.2.1.toList == ([] : List UInt8) && (bt237.2.2.1.toList == ([] : List UInt8)))) = true then (if bt242.2.2.2 = 50 then (some (bt242.1.toList == ([] : List UInt8) && (bt242.2.1.toList == ((a1.extract 0 ((mn (a1.size : Int) 100) : Int).toNat).toList) && (bt242.2.2.1.toList == ([] : List UInt8))))) else (some false)) else (some false)) else (some false)) else (some false)) else ((disk_Sync.f bt237.1 bt237.2.1 bt237.2.2.1).bind fun bt247 => ((disk_Append.f bt247.1 bt247.2.1 bt247.2.2 (a1.extract 0 ((mn (a1.size : Int) 100) : Int).toNat)).bind fun bt250 => (if (mn (a1.size : Int) 100) > (wrap64 (100000 - (wrap64 (t236 + 99999)))) then (if t235 = true then (if bt237.2.2.2 = 0 then (if bt242.2.2.2 = 0 then (if bt250.2.2.2 = 50 then ((disk_Sync.f bt237.1 bt237.2.1 bt237.2.2.1).bind fun bt255 => (some (bt250.1.toList == bt255.1.toList && (bt250.2.1.toList == bt255.2.1.toList && (bt250.2.2.1.toList == bt255.2.2.toList))))) else (some false)) else (some false)) else (some false)) else (some false)) else (if t235 = true then (if bt237.2.2.2 = 0 then (if bt242.2.2.2 = 0 then (if bt250.2.2.2 = 0 then ((disk_Log.f bt250.1 bt250.2.1 bt250.2.2.1).bind fun t258 => (if (t258.size : Int) = (wrap64 ((wrap64 (t236 + 99999)) + (mn (a1.size : Int) 100))) then (some ((bt242.1.size : Int) == (wrap64 (t236 + 99999)))) else (some false))) else (some false)) else (some false)) else (some false)) else (some false)))))))) else (none)) else (none)) else (none)) else (none)) = some true := H
        have A7 := Aside0.mk A70
        clear A70
        obtain ⟨ji8, hji8⟩ : ∃ j_ : Int, (mn (a1.size : Int) 100) = j_ := ⟨_, rfl⟩
        replace H : (if 0 ≤ (ji8) then (if (ji8) ≤ (a1.size : Int) then (if 0 ≤ (mn (wrap64 (t236 + 99999)) (x6_1.size : Int)) then (if (mn (wrap64 (t236 + 99999)) (x6_1.size : Int)) ≤ (x6_1.size : Int) then ((disk_Append.f (⟨#[]⟩ : ByteArray) (⟨#[]⟩ : ByteArray) (⟨#[]⟩ : ByteArray) (x6_1.extract 0 ((mn (wrap64 (t236 + 99999)) (x6_1.size : Int)) : Int).toNat)).bind fun bt237 => ((disk_Swap.f (⟨#[]⟩ : ByteArray) (a1.extract 0 ((ji8) : Int).toNat) (⟨#[]⟩ : ByteArray) (x6_1.extract 0 ((mn (wrap64 (t236 + 99999)) (x6_1.size : Int)) : Int).toNat)).bind fun bt242 => (if (wrap64 (t236 + 99999)) > 100000 then (if t235 = true then (if bt237.2.2.2 = 50 then (if (bt237.1.toList == ([] : List UInt8) && (bt237.2.1.toList == ([] : List UInt8) && (bt237.2.2.1.toList == ([] : List UInt8)))) = true then (if bt242.2.2.2 = 50 then (some (bt242.1.toList == ([] : List UInt8) && (bt242.2.1.toList == ((a1.extract 0 ((ji8) : Int).toNat).toList) && (bt242.2.2.1.toList == ([] : List UInt8))))) else (some false)) else (some false)) else (some false)) else (some false)) else ((disk_Sync.f bt237.1 bt237.2.1 bt237.2.2.1).bind fun bt247 => ((disk_Append.f bt247.1 bt247.2.1 bt247.2.2 (a1.extract 0 ((ji8) : Int).toNat)).bind fun bt250 => (if (ji8) > (wrap64 (100000 - (wrap64 (t236 + 99999)))) then (if t235 = true then (if bt237.2.2.2 = 0 then (if bt242.2.2.2 = 0 then (if bt250.2.2.2 = 50 then ((disk_Sync.f bt237.1 bt237.2.1 bt237.2.2.1).bind fun bt255 => (some (bt250.1.toList == bt255.1.toList && (bt250.2.1.toList == bt255.2.1.toList && (bt250.2.2.1.toList == bt255.2.2.toList))))) else (some false)) else (some false)) else (some false)) else (some false)) else (if t235 = true then (if bt237.2.2.2 = 0 then (if bt242.2.2.2 = 0 then (if bt250.2.2.2 = 0 then ((disk_Log.f bt250.1 bt250.2.1 bt250.2.2.1).bind fun t258 => (if (t258.size : Int) = (wrap64 ((wrap64 (t236 + 99999)) + (ji8))) then (some ((bt242.1.size : Int) == (wrap64 (t236 + 99999)))) else (some false))) else (some false)) else (some false)) else (some false)) else (some false)))))))) else (none)) else (none)) else (none)) else (none)) = some true := by first | (rw [hji8] at H; exact H) | (simp only [hji8] at H ⊢; exact H)
        (try rw [hji8] at A7)
        have hji8_ : (if 100 < (a1.size : Int) then 100 else (a1.size : Int)) = ji8 := hji8
        by_cases c9 : 0 ≤ (ji8)
        · rw [if_pos c9] at H
          have c9M : max ji8 0 = ji8 := Int.max_eq_left c9
          have c9b0 := eq_true c9
          have c9b1 : decide (0 ≤ (ji8)) = true := decide_eq_true c9
          clear c9
          by_cases c10 : (ji8) ≤ (a1.size : Int)
          · rw [if_pos c10] at H
            have c10b0 := eq_true c10
            have c10b1 : decide ((ji8) ≤ (a1.size : Int)) = true := decide_eq_true c10
            clear c10
            obtain ⟨ji11, hji11⟩ : ∃ j_ : Int, (mn (wrap64 (t236 + 99999)) (x6_1.size : Int)) = j_ := ⟨_, rfl⟩
            replace H : (if 0 ≤ (ji11) then (if (ji11) ≤ (x6_1.size : Int) then ((disk_Append.f (⟨#[]⟩ : ByteArray) (⟨#[]⟩ : ByteArray) (⟨#[]⟩ : ByteArray) (x6_1.extract 0 ((ji11) : Int).toNat)).bind fun bt237 => ((disk_Swap.f (⟨#[]⟩ : ByteArray) (a1.extract 0 ((ji8) : Int).toNat) (⟨#[]⟩ : ByteArray) (x6_1.extract 0 ((ji11) : Int).toNat)).bind fun bt242 => (if (wrap64 (t236 + 99999)) > 100000 then (if t235 = true then (if bt237.2.2.2 = 50 then (if (bt237.1.toList == ([] : List UInt8) && (bt237.2.1.toList == ([] : List UInt8) && (bt237.2.2.1.toList == ([] : List UInt8)))) = true then (if bt242.2.2.2 = 50 then (some (bt242.1.toList == ([] : List UInt8) && (bt242.2.1.toList == ((a1.extract 0 ((ji8) : Int).toNat).toList) && (bt242.2.2.1.toList == ([] : List UInt8))))) else (some false)) else (some false)) else (some false)) else (some false)) else ((disk_Sync.f bt237.1 bt237.2.1 bt237.2.2.1).bind fun bt247 => ((disk_Append.f bt247.1 bt247.2.1 bt247.2.2 (a1.extract 0 ((ji8) : Int).toNat)).bind fun bt250 => (if (ji8) > (wrap64 (100000 - (wrap64 (t236 + 99999)))) then (if t235 = true then (if bt237.2.2.2 = 0 then (if bt242.2.2.2 = 0 then (if bt250.2.2.2 = 50 then ((disk_Sync.f bt237.1 bt237.2.1 bt237.2.2.1).bind fun bt255 => (some (bt250.1.toList == bt255.1.toList && (bt250.2.1.toList == bt255.2.1.toList && (bt250.2.2.1.toList == bt255.2.2.toList))))) else (some false)) else (some false)) else (some false)) else (some false)) else (if t235 = true then (if bt237.2.2.2 = 0 then (if bt242.2.2.2 = 0 then (if bt250.2.2.2 = 0 then ((disk_Log.f bt250.1 bt250.2.1 bt250.2.2.1).bind fun t258 => (if (t258.size : Int) = (wrap64 ((wrap64 (t236 + 99999)) + (ji8))) then (some ((bt242.1.size : Int) == (wrap64 (t236 + 99999)))) else (some false))) else (some false)) else (some false)) else (some false)) else (some false)))))))) else (none)) else (none)) = some true := by first | (rw [hji11] at H; exact H) | (simp only [hji11] at H ⊢; exact H)
            (try rw [hji11] at A7)
            have hji11_ : (if (x6_1.size : Int) < (wrap64 (t236 + 99999)) then (x6_1.size : Int) else (wrap64 (t236 + 99999))) = ji11 := hji11
            by_cases c12 : 0 ≤ (ji11)
            · rw [if_pos c12] at H
              have c12M : max ji11 0 = ji11 := Int.max_eq_left c12
              have c12b0 := eq_true c12
              have c12b1 : decide (0 ≤ (ji11)) = true := decide_eq_true c12
              clear c12
              by_cases c13 : (ji11) ≤ (x6_1.size : Int)
              · rw [if_pos c13] at H
                have c13b0 := eq_true c13
                have c13b1 : decide ((ji11) ≤ (x6_1.size : Int)) = true := decide_eq_true c13
                clear c13
                replace H := Option.bind_eq_some_iff.mp H
                obtain ⟨⟨t237, t238, t239, t240⟩, A140, H⟩ := H
                replace H : ((disk_Swap.f (⟨#[]⟩ : ByteArray) (a1.extract 0 ((ji8) : Int).toNat) (⟨#[]⟩ : ByteArray) (x6_1.extract 0 ((ji11) : Int).toNat)).bind fun bt242 => (if (wrap64 (t236 + 99999)) > 100000 then (if t235 = true then (if t240 = 50 then (if (t237.toList == ([] : List UInt8) && (t238.toList == ([] : List UInt8) && (t239.toList == ([] : List UInt8)))) = true then (if bt242.2.2.2 = 50 then (some (bt242.1.toList == ([] : List UInt8) && (bt242.2.1.toList == ((a1.extract 0 ((ji8) : Int).toNat).toList) && (bt242.2.2.1.toList == ([] : List UInt8))))) else (some false)) else (some false)) else (some false)) else (some false)) else ((disk_Sync.f t237 t238 t239).bind fun bt247 => ((disk_Append.f bt247.1 bt247.2.1 bt247.2.2 (a1.extract 0 ((ji8) : Int).toNat)).bind fun bt250 => (if (ji8) > (wrap64 (100000 - (wrap64 (t236 + 99999)))) then (if t235 = true then (if t240 = 0 then (if bt242.2.2.2 = 0 then (if bt250.2.2.2 = 50 then ((disk_Sync.f t237 t238 t239).bind fun bt255 => (some (bt250.1.toList == bt255.1.toList && (bt250.2.1.toList == bt255.2.1.toList && (bt250.2.2.1.toList == bt255.2.2.toList))))) else (some false)) else (some false)) else (some false)) else (some false)) else (if t235 = true then (if t240 = 0 then (if bt242.2.2.2 = 0 then (if bt250.2.2.2 = 0 then ((disk_Log.f bt250.1 bt250.2.1 bt250.2.2.1).bind fun t258 => (if (t258.size : Int) = (wrap64 ((wrap64 (t236 + 99999)) + (ji8))) then (some ((bt242.1.size : Int) == (wrap64 (t236 + 99999)))) else (some false))) else (some false)) else (some false)) else (some false)) else (some false))))))) = some true := H
                have A14 := Aside0.mk A140
                clear A140
                have c15b0 := eq_true (of_decide_eq_true (by first | (with_reducible assumption) | assumption) : 0 ≤ (ji11))
                have c16b0 := eq_true (of_decide_eq_true (by first | (with_reducible assumption) | assumption) : (ji11) ≤ (x6_1.size : Int))
                replace H := Option.bind_eq_some_iff.mp H
                obtain ⟨⟨t242, t243, t244, t245⟩, A170, H⟩ := H
                replace H : (if (wrap64 (t236 + 99999)) > 100000 then (if t235 = true then (if t240 = 50 then (if (t237.toList == ([] : List UInt8) && (t238.toList == ([] : List UInt8) && (t239.toList == ([] : List UInt8)))) = true then (if t245 = 50 then (some (t242.toList == ([] : List UInt8) && (t243.toList == ((a1.extract 0 ((ji8) : Int).toNat).toList) && (t244.toList == ([] : List UInt8))))) else (some false)) else (some false)) else (some false)) else (some false)) else ((disk_Sync.f t237 t238 t239).bind fun bt247 => ((disk_Append.f bt247.1 bt247.2.1 bt247.2.2 (a1.extract 0 ((ji8) : Int).toNat)).bind fun bt250 => (if (ji8) > (wrap64 (100000 - (wrap64 (t236 + 99999)))) then (if t235 = true then (if t240 = 0 then (if t245 = 0 then (if bt250.2.2.2 = 50 then ((disk_Sync.f t237 t238 t239).bind fun bt255 => (some (bt250.1.toList == bt255.1.toList && (bt250.2.1.toList == bt255.2.1.toList && (bt250.2.2.1.toList == bt255.2.2.toList))))) else (some false)) else (some false)) else (some false)) else (some false)) else (if t235 = true then (if t240 = 0 then (if t245 = 0 then (if bt250.2.2.2 = 0 then ((disk_Log.f bt250.1 bt250.2.1 bt250.2.2.1).bind fun t258 => (if (t258.size : Int) = (wrap64 ((wrap64 (t236 + 99999)) + (ji8))) then (some ((t242.size : Int) == (wrap64 (t236 + 99999)))) else (some false))) else (some false)) else (some false)) else (some false)) else (some false)))))) = some true := H
                have A17 := Aside0.mk A170
                clear A170
                by_cases c18 : (wrap64 (t236 + 99999)) > 100000
                · rw [if_pos c18] at H
                  have c18b0 : decide (100000 < (wrap64 (t236 + 99999))) = true := decide_eq_true c18
                  clear c18
                  by_cases c19 : t235 = true
                  · subst c19
                    have H1 : (if t240 = 50 then (if (t237.toList == ([] : List UInt8) && (t238.toList == ([] : List UInt8) && (t239.toList == ([] : List UInt8)))) = true then (if t245 = 50 then (some (t242.toList == ([] : List UInt8) && (t243.toList == ((a1.extract 0 ((ji8) : Int).toNat).toList) && (t244.toList == ([] : List UInt8))))) else (some false)) else (some false)) else (some false)) = some true := by rw [if_pos rfl] at H; exact H
                    clear H
                    have H := H1
                    clear H1
                    by_cases c20 : t240 = 50
                    · rw [if_pos c20] at H
                      have c20b0 : (t240 == 50) = true := beq_iff_eq.mpr c20
                      have c20b1 : (t240 != 50) = false := bne_eq_false_iff_eq.mpr c20
                      clear c20
                      by_cases c21 : (t237.toList == ([] : List UInt8) && (t238.toList == ([] : List UInt8) && (t239.toList == ([] : List UInt8)))) = true
                      · rw [if_pos c21] at H
                        have c21b0 : (t237.toList == ([] : List UInt8) && (t238.toList == ([] : List UInt8) && (t239.toList == ([] : List UInt8)))) = true := c21
                        (try (have c21b1 : decide (t237.toList = ([] : List UInt8) && (t238.toList == ([] : List UInt8) && (t239.toList == ([] : List UInt8)))) = true := by simpa using c21))
                        (try (have c21b2 : (t237.toList == ([] : List UInt8) && (t238.toList == ([] : List UInt8) && (t239.toList == ([] : List UInt8)))) = true := by simpa using c21))
                        (try have c21d0 : (t237.toList = ([] : List UInt8)) = True := eq_true (by (have h_ := c21); simp only [Bool.and_eq_true, beq_iff_eq] at h_; exact h_.1))
                        (try have c21d1 : (t238.toList = ([] : List UInt8)) = True := eq_true (by (have h_ := c21); simp only [Bool.and_eq_true, beq_iff_eq] at h_; exact h_.2.1))
                        (try have c21d2 : (t239.toList = ([] : List UInt8)) = True := eq_true (by (have h_ := c21); simp only [Bool.and_eq_true, beq_iff_eq] at h_; exact h_.2.2))
                        clear c21
                        by_cases c22 : t245 = 50
                        · rw [if_pos c22] at H
                          have c22b0 : (t245 == 50) = true := beq_iff_eq.mpr c22
                          have c22b1 : (t245 != 50) = false := bne_eq_false_iff_eq.mpr c22
                          clear c22
                          have HV_ := Aside0.mk (Option.some.inj H)
                          clear H
                          go_wp2_with (first | ((with_reducible refine gate_callee (f := 10) rfl ?_); refine goesL_ (some 23) rfl rfl Try.func10 (by kernel_rfl) rfl #[.int .i64 a0, .int .i64 3] rfl (by (try simp only [List.map_toArray, List.map_cons, List.map_nil]); first | done | rfl | (simp only [List.length_drop, List.length_take]; rfl)) ?_; (with_reducible refine (careenlaw07_pick.calls a0 3 t236 _ A7.out).mono ?_); rintro e w' ⟨rfl, ⟨nd, rfl⟩⟩; refine ⟨_, rfl, ?_⟩; (try (rw [drewN_self wr]; generalize hq_ : World.drewN wr _ = wr; have n0_ : Aside0 (Below w.heap.size w wr) := ⟨by rw [← hq_]; exact (by repeat (first | (with_reducible first | exact HB.out | apply below_alloc | apply pw_below_drewN | apply below_drew1) | exact HB.out))⟩; clear HB hq_; have HB := n0_; clear n0_))) | ((with_reducible refine gate_callee (f := 13) rfl ?_); refine goesL_ (some 38) rfl rfl Try.func13 (by kernel_rfl) rfl #[.agg #[.string (⟨#[]⟩ : ByteArray), .string (⟨#[]⟩ : ByteArray), .string (⟨#[]⟩ : ByteArray)], .string (x6_1.extract 0 ((ji11) : Int).toNat)] rfl (by (try simp only [List.map_toArray, List.map_cons, List.map_nil]); first | done | (simp only [hji11]; rfl) | rfl | (simp only [List.length_drop, List.length_take]; rfl)) ?_; (with_reducible refine (disk_Append.calls (⟨#[]⟩ : ByteArray) (⟨#[]⟩ : ByteArray) (⟨#[]⟩ : ByteArray) (x6_1.extract 0 ((ji11) : Int).toNat) t237 t238 t239 t240 _ A14.out).mono ?_); rintro e w23 ⟨rfl, hb⟩; refine ⟨_, rfl, ?_⟩; have n0_ := Aside0.mk (below_step (by repeat (first | (with_reducible first | exact HB.out | apply below_alloc | apply pw_below_drewN | apply below_drew1) | exact HB.out)) hb); clear HB; have HB := n0_; clear n0_; (try clear hb); (try clear hb2); (try clear hk); (try clear hi)) | ((with_reducible refine gate_dst (N := 9) rfl ?_); (try (refine gate_guard (by rfl) ?_; dsimp only)); refine box_event ?hg (N := 9) ?hd (cs := #[.string (⟨#[]⟩ : ByteArray), .string (⟨#[]⟩ : ByteArray), .string (⟨#[]⟩ : ByteArray)]) (t := 23) ?hr ?_; (case hd => rfl); (case hg => rfl); (case hr => first | (go_simp; done) | (go_simp; rfl)); intro gb241 hg w24 hbox hb; have n0_ := Aside0.mk (below_step (by repeat (first | (with_reducible first | exact HB.out | apply below_alloc | apply pw_below_drewN | apply below_drew1) | exact HB.out)) hb); have n1_ := Aside0.mk (hbox); have n2_ := Aside0.mk ((by rw [hg]; exact (below_size (by repeat (first | (with_reducible first | exact HB.out | apply below_alloc | apply pw_below_drewN | apply below_drew1) | exact HB.out))) : w.heap.size ≤ gb241)); have n3_ := Aside0.mk ((by rw [hg]; exact (below_size (by repeat (first | (with_reducible first | exact HB.out | apply below_alloc | apply pw_below_drewN | apply below_drew1) | exact HB.out))) : w.heap.size ≤ gb241)); clear HB; have HB := n0_; have BK241 := n1_; have GW241 := n2_; have GE241 := n3_; clear n0_ n1_ n2_ n3_; clear hb hbox hg; have hcz25_0 : w24.cell? ⟨gb241, 0, none⟩ = some (.string (⟨#[]⟩ : ByteArray)) := (blk_cell BK241.out 0).trans rfl; have hcz25_1 : w24.cell? ⟨gb241, 1, none⟩ = some (.string (⟨#[]⟩ : ByteArray)) := (blk_cell BK241.out 1).trans rfl; have hcz25_2 : w24.cell? ⟨gb241, 2, none⟩ = some (.string (⟨#[]⟩ : ByteArray)) := (blk_cell BK241.out 2).trans rfl; have hfz25_0 := blk_frozen BK241.out 0; have hfz25_1 := blk_frozen BK241.out 1; have hfz25_2 := blk_frozen BK241.out 2) | ((with_reducible refine gate_callee (f := 15) rfl ?_); refine goesL_ (some 50) rfl rfl Try.func15 (by kernel_rfl) rfl #[.agg #[.string (⟨#[]⟩ : ByteArray), .string (a1.extract 0 ((ji8) : Int).toNat), .string (⟨#[]⟩ : ByteArray)], .string (x6_1.extract 0 ((ji11) : Int).toNat)] rfl (by (try simp only [List.map_toArray, List.map_cons, List.map_nil]); first | done | (simp only [hji11, hji8]; rfl) | rfl | (simp only [List.length_drop, List.length_take]; rfl)) ?_; (with_reducible refine (disk_Swap.calls (⟨#[]⟩ : ByteArray) (a1.extract 0 ((ji8) : Int).toNat) (⟨#[]⟩ : ByteArray) (x6_1.extract 0 ((ji11) : Int).toNat) t242 t243 t244 t245 _ A17.out).mono ?_); rintro e w26 ⟨rfl, hb⟩; refine ⟨_, rfl, ?_⟩; have n0_ := Aside0.mk (blk_below (g := gb241) (o := .cells #[.string t237, .string t238, .string t239] 23 (0, 0)) (by (with_reducible repeat (first | refine blk_drewN ?_ _ | refine blk_drew ?_ | refine blk_alloc ?_ _)); refine blk_put (cs := #[.string t237, .string t238, .string (⟨#[]⟩ : ByteArray)]) ?_ 2 _ rfl; (with_reducible repeat (first | refine blk_drewN ?_ _ | refine blk_drew ?_ | refine blk_alloc ?_ _)); refine blk_put (cs := #[.string t237, .string (⟨#[]⟩ : ByteArray), .string (⟨#[]⟩ : ByteArray)]) ?_ 1 _ rfl; (with_reducible repeat (first | refine blk_drewN ?_ _ | refine blk_drew ?_ | refine blk_alloc ?_ _)); refine blk_put (cs := #[.string (⟨#[]⟩ : ByteArray), .string (⟨#[]⟩ : ByteArray), .string (⟨#[]⟩ : ByteArray)]) ?_ 0 _ rfl; (with_reducible repeat (first | refine blk_drewN ?_ _ | refine blk_drew ?_ | refine blk_alloc ?_ _)); exact BK241.out) hb); have n1_ := Aside0.mk (below_step (by repeat (first | (with_reducible first | exact HB.out | apply below_alloc | apply pw_below_drewN | apply below_drew1 | refine below_set ?_ GE241.out) | exact HB.out)) hb); clear BK241; clear HB; have BK241 := n0_; have HB := n1_; clear n0_ n1_; (try clear hb); (try clear hb2); (try clear hk); (try clear hi)) | ((with_reducible refine gate_dst (N := 11) rfl ?_); (try (refine gate_guard (by rfl) ?_; dsimp only)); refine box_event ?hg (N := 11) ?hd (cs := #[.string (⟨#[]⟩ : ByteArray), .string (⟨#[]⟩ : ByteArray), .string (⟨#[]⟩ : ByteArray)]) (t := 23) ?hr ?_; (case hd => rfl); (case hg => rfl); (case hr => first | (go_simp; done) | (go_simp; rfl)); intro gb246 hg w27 hbox hb; have n0_ := Aside0.mk (blk_below (g := gb241) (o := .cells #[.string t237, .string t238, .string t239] 23 (0, 0)) (by (with_reducible repeat (first | refine blk_drewN ?_ _ | refine blk_drew ?_ | refine blk_alloc ?_ _)); exact BK241.out) hb); have n1_ := Aside0.mk (below_step (by repeat (first | (with_reducible first | exact HB.out | apply below_alloc | apply pw_below_drewN | apply below_drew1 | refine below_set ?_ GE241.out) | exact HB.out)) hb); have n2_ := Aside0.mk (hbox); have n3_ := Aside0.mk ((by rw [hg]; exact (below_size (by repeat (first | (with_reducible first | exact HB.out | apply below_alloc | apply pw_below_drewN | apply below_drew1 | refine below_set ?_ GE241.out) | exact HB.out))) : w.heap.size ≤ gb246)); have n4_ := Aside0.mk ((by rw [hg]; exact (below_size (by repeat (first | (with_reducible first | exact HB.out | apply below_alloc | apply pw_below_drewN | apply below_drew1 | refine below_set ?_ GE241.out) | exact HB.out))) : w.heap.size ≤ gb246)); have n5_ := Aside0.mk ((by rw [hg]; exact Nat.ne_of_lt (blk_lt (g := gb241) (o := .cells #[.string t237, .string t238, .string t239] 23 (0, 0)) (by (with_reducible repeat (first | refine blk_drewN ?_ _ | refine blk_drew ?_ | refine blk_alloc ?_ _)); exact BK241.out)) : gb241 ≠ gb246)); have n6_ := Aside0.mk ((by rw [hg]; exact Nat.ne_of_gt (blk_lt (g := gb241) (o := .cells #[.string t237, .string t238, .string t239] 23 (0, 0)) (by (with_reducible repeat (first | refine blk_drewN ?_ _ | refine blk_drew ?_ | refine blk_alloc ?_ _)); exact BK241.out)) : gb246 ≠ gb241)); clear BK241; clear HB; have BK241 := n0_; have HB := n1_; have BK246 := n2_; have GW246 := n3_; have GE246 := n4_; have NB241_246 := n5_; have NB246_241 := n6_; clear n0_ n1_ n2_ n3_ n4_ n5_ n6_; clear hb hbox hg; have hnb28 := NB246_241.out; have hnc28 := NB241_246.out; have hcz29_0 : w27.cell? ⟨gb246, 0, none⟩ = some (.string (⟨#[]⟩ : ByteArray)) := (blk_cell BK246.out 0).trans rfl; have hcz29_1 : w27.cell? ⟨gb246, 1, none⟩ = some (.string (⟨#[]⟩ : ByteArray)) := (blk_cell BK246.out 1).trans rfl; have hcz29_2 : w27.cell? ⟨gb246, 2, none⟩ = some (.string (⟨#[]⟩ : ByteArray)) := (blk_cell BK246.out 2).trans rfl; have hfz29_0 := blk_frozen BK246.out 0; have hfz29_1 := blk_frozen BK246.out 1; have hfz29_2 := blk_frozen BK246.out 2; have hcz30_0 : w27.cell? ⟨gb241, 0, none⟩ = some (.string t237) := (blk_cell BK241.out 0).trans rfl; have hcz30_1 : w27.cell? ⟨gb241, 1, none⟩ = some (.string t238) := (blk_cell BK241.out 1).trans rfl; have hcz30_2 : w27.cell? ⟨gb241, 2, none⟩ = some (.string t239) := (blk_cell BK241.out 2).trans rfl; have hfz30_0 := blk_frozen BK241.out 0; have hfz30_1 := blk_frozen BK241.out 1; have hfz30_2 := blk_frozen BK241.out 2))
                          go_ret
                          exact ⟨by first | exact congrArg (fun b_ => Ending.returned (Value.bool b_)) HV_.out | (have hv_ := HV_.out; simp only [Bool.and_eq_true, beq_iff_eq] at hv_; simp [hv_]; done) | (have hv_ := HV_.out; simp at hv_; simp [*]; done) | rfl | (simp [errW_none, errW_some] <;> rfl) | (simp only [← hji8, ← hji11]; first | rfl | (simp [errW_none, errW_some] <;> rfl)) | (simp [*, errW_none, errW_some] <;> rfl), by repeat (first | (with_reducible first | exact HB.out | apply below_alloc | apply pw_below_drewN | apply below_drew1 | refine below_set ?_ GE241.out | refine below_set ?_ GE246.out) | exact HB.out)⟩
                        · rw [if_neg c22] at H
                          have c22b0 : (t245 == 50) = false := beq_eq_false_iff_ne.mpr c22
                          have c22b1 : (t245 != 50) = true := bne_iff_ne.mpr c22
                          exact absurd H (by simp)
                      · rw [if_neg c21] at H
                        have c21b0 : (t237.toList == ([] : List UInt8) && (t238.toList == ([] : List UInt8) && (t239.toList == ([] : List UInt8)))) = false := by simpa using c21
                        (try (have c21b1 : decide (t237.toList = ([] : List UInt8) && (t238.toList == ([] : List UInt8) && (t239.toList == ([] : List UInt8)))) = false := by simpa using c21))
                        (try (have c21b2 : (t237.toList == ([] : List UInt8) && (t238.toList == ([] : List UInt8) && (t239.toList == ([] : List UInt8)))) = false := by simpa using c21))
                        (try (have c21b3 : ¬ (t237.toList = ([] : List UInt8) && (t238.toList == ([] : List UInt8) && (t239.toList == ([] : List UInt8)))) := by simpa using c21))
                        clear c21
                        exact absurd H (by simp)
                    · rw [if_neg c20] at H
                      have c20b0 : (t240 == 50) = false := beq_eq_false_iff_ne.mpr c20
                      have c20b1 : (t240 != 50) = true := bne_iff_ne.mpr c20
                      exact absurd H (by simp)
                  · replace c19 := Bool.eq_false_iff.mpr c19
                    subst c19
                    have H1 : (some false) = some true := by rw [if_neg (show ¬ (false = true) by decide)] at H; exact H
                    clear H
                    have H := H1
                    clear H1
                    exact absurd H (by simp)
                · rw [if_neg c18] at H
                  have c18b0 : decide (100000 < (wrap64 (t236 + 99999))) = false := decide_eq_false c18
                  clear c18
                  replace H := Option.bind_eq_some_iff.mp H
                  obtain ⟨⟨t247, t248, t249⟩, A310, H⟩ := H
                  replace H : ((disk_Append.f t247 t248 t249 (a1.extract 0 ((ji8) : Int).toNat)).bind fun bt250 => (if (ji8) > (wrap64 (100000 - (wrap64 (t236 + 99999)))) then (if t235 = true then (if t240 = 0 then (if t245 = 0 then (if bt250.2.2.2 = 50 then ((disk_Sync.f t237 t238 t239).bind fun bt255 => (some (bt250.1.toList == bt255.1.toList && (bt250.2.1.toList == bt255.2.1.toList && (bt250.2.2.1.toList == bt255.2.2.toList))))) else (some false)) else (some false)) else (some false)) else (some false)) else (if t235 = true then (if t240 = 0 then (if t245 = 0 then (if bt250.2.2.2 = 0 then ((disk_Log.f bt250.1 bt250.2.1 bt250.2.2.1).bind fun t258 => (if (t258.size : Int) = (wrap64 ((wrap64 (t236 + 99999)) + (ji8))) then (some ((t242.size : Int) == (wrap64 (t236 + 99999)))) else (some false))) else (some false)) else (some false)) else (some false)) else (some false)))) = some true := H
                  have A31 := Aside0.mk A310
                  clear A310
                  replace H := Option.bind_eq_some_iff.mp H
                  obtain ⟨⟨t250, t251, t252, t253⟩, A320, H⟩ := H
                  replace H : (if (ji8) > (wrap64 (100000 - (wrap64 (t236 + 99999)))) then (if t235 = true then (if t240 = 0 then (if t245 = 0 then (if t253 = 50 then ((disk_Sync.f t237 t238 t239).bind fun bt255 => (some (t250.toList == bt255.1.toList && (t251.toList == bt255.2.1.toList && (t252.toList == bt255.2.2.toList))))) else (some false)) else (some false)) else (some false)) else (some false)) else (if t235 = true then (if t240 = 0 then (if t245 = 0 then (if t253 = 0 then ((disk_Log.f t250 t251 t252).bind fun t258 => (if (t258.size : Int) = (wrap64 ((wrap64 (t236 + 99999)) + (ji8))) then (some ((t242.size : Int) == (wrap64 (t236 + 99999)))) else (some false))) else (some false)) else (some false)) else (some false)) else (some false))) = some true := H
                  have A32 := Aside0.mk A320
                  clear A320
                  by_cases c33 : (ji8) > (wrap64 (100000 - (wrap64 (t236 + 99999))))
                  · rw [if_pos c33] at H
                    have c33b0 : decide ((wrap64 (100000 - (wrap64 (t236 + 99999)))) < (ji8)) = true := decide_eq_true c33
                    clear c33
                    by_cases c34 : t235 = true
                    · subst c34
                      have H1 : (if t240 = 0 then (if t245 = 0 then (if t253 = 50 then ((disk_Sync.f t237 t238 t239).bind fun bt255 => (some (t250.toList == bt255.1.toList && (t251.toList == bt255.2.1.toList && (t252.toList == bt255.2.2.toList))))) else (some false)) else (some false)) else (some false)) = some true := by rw [if_pos rfl] at H; exact H
                      clear H
                      have H := H1
                      clear H1
                      by_cases c35 : t240 = 0
                      · rw [if_pos c35] at H
                        have c35b0 : (t240 == 0) = true := beq_iff_eq.mpr c35
                        have c35b1 : (t240 != 0) = false := bne_eq_false_iff_eq.mpr c35
                        clear c35
                        by_cases c36 : t245 = 0
                        · rw [if_pos c36] at H
                          have c36b0 : (t245 == 0) = true := beq_iff_eq.mpr c36
                          have c36b1 : (t245 != 0) = false := bne_eq_false_iff_eq.mpr c36
                          clear c36
                          by_cases c37 : t253 = 50
                          · rw [if_pos c37] at H
                            have c37b0 : (t253 == 50) = true := beq_iff_eq.mpr c37
                            have c37b1 : (t253 != 50) = false := bne_eq_false_iff_eq.mpr c37
                            clear c37
                            replace H := Option.bind_eq_some_iff.mp H
                            obtain ⟨⟨t255, t256, t257⟩, A380, H⟩ := H
                            replace H : (some (t250.toList == t255.toList && (t251.toList == t256.toList && (t252.toList == t257.toList)))) = some true := H
                            have A38 := Aside0.mk A380
                            clear A380
                            have HV_ := Aside0.mk (Option.some.inj H)
                            clear H
                            try go_wp2_with (first | ((with_reducible refine gate_callee (f := 10) rfl ?_); refine goesL_ (some 23) rfl rfl Try.func10 (by kernel_rfl) rfl #[.int .i64 a0, .int .i64 3] rfl (by (try simp only [List.map_toArray, List.map_cons, List.map_nil]); first | done | rfl | (simp only [List.length_drop, List.length_take]; rfl)) ?_; (with_reducible refine (careenlaw07_pick.calls a0 3 t236 _ A7.out).mono ?_); rintro e w' ⟨rfl, ⟨nd, rfl⟩⟩; refine ⟨_, rfl, ?_⟩; (try (rw [drewN_self wr]; generalize hq_ : World.drewN wr _ = wr; have n0_ : Aside0 (Below w.heap.size w wr) := ⟨by rw [← hq_]; exact (by repeat (first | (with_reducible first | exact HB.out | apply below_alloc | apply pw_below_drewN | apply below_drew1) | exact HB.out))⟩; clear HB hq_; have HB := n0_; clear n0_))) | ((with_reducible refine gate_callee (f := 13) rfl ?_); refine goesL_ (some 38) rfl rfl Try.func13 (by kernel_rfl) rfl #[.agg #[.string (⟨#[]⟩ : ByteArray), .string (⟨#[]⟩ : ByteArray), .string (⟨#[]⟩ : ByteArray)], .string (x6_1.extract 0 ((ji11) : Int).toNat)] rfl (by (try simp only [List.map_toArray, List.map_cons, List.map_nil]); first | done | (simp only [hji11]; rfl) | rfl | (simp only [List.length_drop, List.length_take]; rfl)) ?_; (with_reducible refine (disk_Append.calls (⟨#[]⟩ : ByteArray) (⟨#[]⟩ : ByteArray) (⟨#[]⟩ : ByteArray) (x6_1.extract 0 ((ji11) : Int).toNat) t237 t238 t239 t240 _ A14.out).mono ?_); rintro e w39 ⟨rfl, hb⟩; refine ⟨_, rfl, ?_⟩; have n0_ := Aside0.mk (below_step (by repeat (first | (with_reducible first | exact HB.out | apply below_alloc | apply pw_below_drewN | apply below_drew1) | exact HB.out)) hb); clear HB; have HB := n0_; clear n0_; (try clear hb); (try clear hb2); (try clear hk); (try clear hi)) | ((with_reducible refine gate_dst (N := 9) rfl ?_); (try (refine gate_guard (by rfl) ?_; dsimp only)); refine box_event ?hg (N := 9) ?hd (cs := #[.string (⟨#[]⟩ : ByteArray), .string (⟨#[]⟩ : ByteArray), .string (⟨#[]⟩ : ByteArray)]) (t := 23) ?hr ?_; (case hd => rfl); (case hg => rfl); (case hr => first | (go_simp; done) | (go_simp; rfl)); intro gb241 hg w40 hbox hb; have n0_ := Aside0.mk (below_step (by repeat (first | (with_reducible first | exact HB.out | apply below_alloc | apply pw_below_drewN | apply below_drew1) | exact HB.out)) hb); have n1_ := Aside0.mk (hbox); have n2_ := Aside0.mk ((by rw [hg]; exact (below_size (by repeat (first | (with_reducible first | exact HB.out | apply below_alloc | apply pw_below_drewN | apply below_drew1) | exact HB.out))) : w.heap.size ≤ gb241)); have n3_ := Aside0.mk ((by rw [hg]; exact (below_size (by repeat (first | (with_reducible first | exact HB.out | apply below_alloc | apply pw_below_drewN | apply below_drew1) | exact HB.out))) : w.heap.size ≤ gb241)); clear HB; have HB := n0_; have BK241 := n1_; have GW241 := n2_; have GE241 := n3_; clear n0_ n1_ n2_ n3_; clear hb hbox hg; have hcz41_0 : w40.cell? ⟨gb241, 0, none⟩ = some (.string (⟨#[]⟩ : ByteArray)) := (blk_cell BK241.out 0).trans rfl; have hcz41_1 : w40.cell? ⟨gb241, 1, none⟩ = some (.string (⟨#[]⟩ : ByteArray)) := (blk_cell BK241.out 1).trans rfl; have hcz41_2 : w40.cell? ⟨gb241, 2, none⟩ = some (.string (⟨#[]⟩ : ByteArray)) := (blk_cell BK241.out 2).trans rfl; have hfz41_0 := blk_frozen BK241.out 0; have hfz41_1 := blk_frozen BK241.out 1; have hfz41_2 := blk_frozen BK241.out 2) | ((with_reducible refine gate_callee (f := 15) rfl ?_); refine goesL_ (some 50) rfl rfl Try.func15 (by kernel_rfl) rfl #[.agg #[.string (⟨#[]⟩ : ByteArray), .string (a1.extract 0 ((ji8) : Int).toNat), .string (⟨#[]⟩ : ByteArray)], .string (x6_1.extract 0 ((ji11) : Int).toNat)] rfl (by (try simp only [List.map_toArray, List.map_cons, List.map_nil]); first | done | (simp only [hji11, hji8]; rfl) | rfl | (simp only [List.length_drop, List.length_take]; rfl)) ?_; (with_reducible refine (disk_Swap.calls (⟨#[]⟩ : ByteArray) (a1.extract 0 ((ji8) : Int).toNat) (⟨#[]⟩ : ByteArray) (x6_1.extract 0 ((ji11) : Int).toNat) t242 t243 t244 t245 _ A17.out).mono ?_); rintro e w42 ⟨rfl, hb⟩; refine ⟨_, rfl, ?_⟩; have n0_ := Aside0.mk (blk_below (g := gb241) (o := .cells #[.string t237, .string t238, .string t239] 23 (0, 0)) (by (with_reducible repeat (first | refine blk_drewN ?_ _ | refine blk_drew ?_ | refine blk_alloc ?_ _)); refine blk_put (cs := #[.string t237, .string t238, .string (⟨#[]⟩ : ByteArray)]) ?_ 2 _ rfl; (with_reducible repeat (first | refine blk_drewN ?_ _ | refine blk_drew ?_ | refine blk_alloc ?_ _)); refine blk_put (cs := #[.string t237, .string (⟨#[]⟩ : ByteArray), .string (⟨#[]⟩ : ByteArray)]) ?_ 1 _ rfl; (with_reducible repeat (first | refine blk_drewN ?_ _ | refine blk_drew ?_ | refine blk_alloc ?_ _)); refine blk_put (cs := #[.string (⟨#[]⟩ : ByteArray), .string (⟨#[]⟩ : ByteArray), .string (⟨#[]⟩ : ByteArray)]) ?_ 0 _ rfl; (with_reducible repeat (first | refine blk_drewN ?_ _ | refine blk_drew ?_ | refine blk_alloc ?_ _)); exact BK241.out) hb); have n1_ := Aside0.mk (below_step (by repeat (first | (with_reducible first | exact HB.out | apply below_alloc | apply pw_below_drewN | apply below_drew1 | refine below_set ?_ GE241.out) | exact HB.out)) hb); clear BK241; clear HB; have BK241 := n0_; have HB := n1_; clear n0_ n1_; (try clear hb); (try clear hb2); (try clear hk); (try clear hi)) | ((with_reducible refine gate_dst (N := 11) rfl ?_); (try (refine gate_guard (by rfl) ?_; dsimp only)); refine box_event ?hg (N := 11) ?hd (cs := #[.string (⟨#[]⟩ : ByteArray), .string (⟨#[]⟩ : ByteArray), .string (⟨#[]⟩ : ByteArray)]) (t := 23) ?hr ?_; (case hd => rfl); (case hg => rfl); (case hr => first | (go_simp; done) | (go_simp; rfl)); intro gb246 hg w43 hbox hb; have n0_ := Aside0.mk (blk_below (g := gb241) (o := .cells #[.string t237, .string t238, .string t239] 23 (0, 0)) (by (with_reducible repeat (first | refine blk_drewN ?_ _ | refine blk_drew ?_ | refine blk_alloc ?_ _)); exact BK241.out) hb); have n1_ := Aside0.mk (below_step (by repeat (first | (with_reducible first | exact HB.out | apply below_alloc | apply pw_below_drewN | apply below_drew1 | refine below_set ?_ GE241.out) | exact HB.out)) hb); have n2_ := Aside0.mk (hbox); have n3_ := Aside0.mk ((by rw [hg]; exact (below_size (by repeat (first | (with_reducible first | exact HB.out | apply below_alloc | apply pw_below_drewN | apply below_drew1 | refine below_set ?_ GE241.out) | exact HB.out))) : w.heap.size ≤ gb246)); have n4_ := Aside0.mk ((by rw [hg]; exact (below_size (by repeat (first | (with_reducible first | exact HB.out | apply below_alloc | apply pw_below_drewN | apply below_drew1 | refine below_set ?_ GE241.out) | exact HB.out))) : w.heap.size ≤ gb246)); have n5_ := Aside0.mk ((by rw [hg]; exact Nat.ne_of_lt (blk_lt (g := gb241) (o := .cells #[.string t237, .string t238, .string t239] 23 (0, 0)) (by (with_reducible repeat (first | refine blk_drewN ?_ _ | refine blk_drew ?_ | refine blk_alloc ?_ _)); exact BK241.out)) : gb241 ≠ gb246)); have n6_ := Aside0.mk ((by rw [hg]; exact Nat.ne_of_gt (blk_lt (g := gb241) (o := .cells #[.string t237, .string t238, .string t239] 23 (0, 0)) (by (with_reducible repeat (first | refine blk_drewN ?_ _ | refine blk_drew ?_ | refine blk_alloc ?_ _)); exact BK241.out)) : gb246 ≠ gb241)); clear BK241; clear HB; have BK241 := n0_; have HB := n1_; have BK246 := n2_; have GW246 := n3_; have GE246 := n4_; have NB241_246 := n5_; have NB246_241 := n6_; clear n0_ n1_ n2_ n3_ n4_ n5_ n6_; clear hb hbox hg; have hnb44 := NB246_241.out; have hnc44 := NB241_246.out; have hcz45_0 : w43.cell? ⟨gb246, 0, none⟩ = some (.string (⟨#[]⟩ : ByteArray)) := (blk_cell BK246.out 0).trans rfl; have hcz45_1 : w43.cell? ⟨gb246, 1, none⟩ = some (.string (⟨#[]⟩ : ByteArray)) := (blk_cell BK246.out 1).trans rfl; have hcz45_2 : w43.cell? ⟨gb246, 2, none⟩ = some (.string (⟨#[]⟩ : ByteArray)) := (blk_cell BK246.out 2).trans rfl; have hfz45_0 := blk_frozen BK246.out 0; have hfz45_1 := blk_frozen BK246.out 1; have hfz45_2 := blk_frozen BK246.out 2; have hcz46_0 : w43.cell? ⟨gb241, 0, none⟩ = some (.string t237) := (blk_cell BK241.out 0).trans rfl; have hcz46_1 : w43.cell? ⟨gb241, 1, none⟩ = some (.string t238) := (blk_cell BK241.out 1).trans rfl; have hcz46_2 : w43.cell? ⟨gb241, 2, none⟩ = some (.string t239) := (blk_cell BK241.out 2).trans rfl; have hfz46_0 := blk_frozen BK241.out 0; have hfz46_1 := blk_frozen BK241.out 1; have hfz46_2 := blk_frozen BK241.out 2) | ((with_reducible refine gate_callee (f := 17) rfl ?_); refine goesL_ (some 77) rfl rfl Try.func17 (by kernel_rfl) rfl #[.agg #[.string t237, .string t238, .string t239]] rfl (by (try simp only [List.map_toArray, List.map_cons, List.map_nil]); first | done | rfl | (simp only [List.length_drop, List.length_take]; rfl)) ?_; (with_reducible refine (disk_Sync.calls t237 t238 t239 t247 t248 t249 _ A31.out).mono ?_); rintro e w47 ⟨rfl, hb⟩; refine ⟨_, rfl, ?_⟩; have n0_ := Aside0.mk (blk_below (g := gb241) (o := .cells #[.string t237, .string t238, .string t239] 23 (0, 0)) (by (with_reducible repeat (first | refine blk_drewN ?_ _ | refine blk_drew ?_ | refine blk_alloc ?_ _)); refine blk_far ?_ NB241_246.out _; (with_reducible repeat (first | refine blk_drewN ?_ _ | refine blk_drew ?_ | refine blk_alloc ?_ _)); refine blk_far ?_ NB241_246.out _; (with_reducible repeat (first | refine blk_drewN ?_ _ | refine blk_drew ?_ | refine blk_alloc ?_ _)); refine blk_far ?_ NB241_246.out _; (with_reducible repeat (first | refine blk_drewN ?_ _ | refine blk_drew ?_ | refine blk_alloc ?_ _)); exact BK241.out) hb); have n1_ := Aside0.mk (blk_below (g := gb246) (o := .cells #[.string t242, .string t243, .string t244] 23 (0, 0)) (by (with_reducible repeat (first | refine blk_drewN ?_ _ | refine blk_drew ?_ | refine blk_alloc ?_ _)); refine blk_put (cs := #[.string t242, .string t243, .string (⟨#[]⟩ : ByteArray)]) ?_ 2 _ rfl; (with_reducible repeat (first | refine blk_drewN ?_ _ | refine blk_drew ?_ | refine blk_alloc ?_ _)); refine blk_put (cs := #[.string t242, .string (⟨#[]⟩ : ByteArray), .string (⟨#[]⟩ : ByteArray)]) ?_ 1 _ rfl; (with_reducible repeat (first | refine blk_drewN ?_ _ | refine blk_drew ?_ | refine blk_alloc ?_ _)); refine blk_put (cs := #[.string (⟨#[]⟩ : ByteArray), .string (⟨#[]⟩ : ByteArray), .string (⟨#[]⟩ : ByteArray)]) ?_ 0 _ rfl; (with_reducible repeat (first | refine blk_drewN ?_ _ | refine blk_drew ?_ | refine blk_alloc ?_ _)); exact BK246.out) hb); have n2_ := Aside0.mk (below_step (by repeat (first | (with_reducible first | exact HB.out | apply below_alloc | apply pw_below_drewN | apply below_drew1 | refine below_set ?_ GE241.out | refine below_set ?_ GE246.out) | exact HB.out)) hb); clear BK241; clear BK246; clear HB; have BK241 := n0_; have BK246 := n1_; have HB := n2_; clear n0_ n1_ n2_; (try clear hb); (try clear hb2); (try clear hk); (try clear hi)) | ((with_reducible refine gate_callee (f := 13) rfl ?_); refine goesL_ (some 79) rfl rfl Try.func13 (by kernel_rfl) rfl #[.agg #[.string t247, .string t248, .string t249], .string (a1.extract 0 ((ji8) : Int).toNat)] rfl (by (try simp only [List.map_toArray, List.map_cons, List.map_nil]); first | done | (simp only [hji8]; rfl) | rfl | (simp only [List.length_drop, List.length_take]; rfl)) ?_; (with_reducible refine (disk_Append.calls t247 t248 t249 (a1.extract 0 ((ji8) : Int).toNat) t250 t251 t252 t253 _ A32.out).mono ?_); rintro e w48 ⟨rfl, hb⟩; refine ⟨_, rfl, ?_⟩; have n0_ := Aside0.mk (blk_below (g := gb241) (o := .cells #[.string t237, .string t238, .string t239] 23 (0, 0)) (by (with_reducible repeat (first | refine blk_drewN ?_ _ | refine blk_drew ?_ | refine blk_alloc ?_ _)); exact BK241.out) hb); have n1_ := Aside0.mk (blk_below (g := gb246) (o := .cells #[.string t242, .string t243, .string t244] 23 (0, 0)) (by (with_reducible repeat (first | refine blk_drewN ?_ _ | refine blk_drew ?_ | refine blk_alloc ?_ _)); exact BK246.out) hb); have n2_ := Aside0.mk (below_step (by repeat (first | (with_reducible first | exact HB.out | apply below_alloc | apply pw_below_drewN | apply below_drew1 | refine below_set ?_ GE241.out | refine below_set ?_ GE246.out) | exact HB.out)) hb); clear BK241; clear BK246; clear HB; have BK241 := n0_; have BK246 := n1_; have HB := n2_; clear n0_ n1_ n2_; (try clear hb); (try clear hb2); (try clear hk); (try clear hi)) | ((with_reducible refine gate_dst (N := 13) rfl ?_); (try (refine gate_guard (by rfl) ?_; dsimp only)); refine box_event ?hg (N := 13) ?hd (cs := #[.string (⟨#[]⟩ : ByteArray), .string (⟨#[]⟩ : ByteArray), .string (⟨#[]⟩ : ByteArray)]) (t := 23) ?hr ?_; (case hd => rfl); (case hg => rfl); (case hr => first | (go_simp; done) | (go_simp; rfl)); intro gb254 hg w49 hbox hb; have n0_ := Aside0.mk (blk_below (g := gb241) (o := .cells #[.string t237, .string t238, .string t239] 23 (0, 0)) (by (with_reducible repeat (first | refine blk_drewN ?_ _ | refine blk_drew ?_ | refine blk_alloc ?_ _)); exact BK241.out) hb); have n1_ := Aside0.mk (blk_below (g := gb246) (o := .cells #[.string t242, .string t243, .string t244] 23 (0, 0)) (by (with_reducible repeat (first | refine blk_drewN ?_ _ | refine blk_drew ?_ | refine blk_alloc ?_ _)); exact BK246.out) hb); have n2_ := Aside0.mk (below_step (by repeat (first | (with_reducible first | exact HB.out | apply below_alloc | apply pw_below_drewN | apply below_drew1 | refine below_set ?_ GE241.out | refine below_set ?_ GE246.out) | exact HB.out)) hb); have n3_ := Aside0.mk (hbox); have n4_ := Aside0.mk ((by rw [hg]; exact (below_size (by repeat (first | (with_reducible first | exact HB.out | apply below_alloc | apply pw_below_drewN | apply below_drew1 | refine below_set ?_ GE241.out | refine below_set ?_ GE246.out) | exact HB.out))) : w.heap.size ≤ gb254)); have n5_ := Aside0.mk ((by rw [hg]; exact (below_size (by repeat (first | (with_reducible first | exact HB.out | apply below_alloc | apply pw_below_drewN | apply below_drew1 | refine below_set ?_ GE241.out | refine below_set ?_ GE246.out) | exact HB.out))) : w.heap.size ≤ gb254)); have n6_ := Aside0.mk ((by rw [hg]; exact Nat.ne_of_lt (blk_lt (g := gb241) (o := .cells #[.string t237, .string t238, .string t239] 23 (0, 0)) (by (with_reducible repeat (first | refine blk_drewN ?_ _ | refine blk_drew ?_ | refine blk_alloc ?_ _)); exact BK241.out)) : gb241 ≠ gb254)); have n7_ := Aside0.mk ((by rw [hg]; exact Nat.ne_of_gt (blk_lt (g := gb241) (o := .cells #[.string t237, .string t238, .string t239] 23 (0, 0)) (by (with_reducible repeat (first | refine blk_drewN ?_ _ | refine blk_drew ?_ | refine blk_alloc ?_ _)); exact BK241.out)) : gb254 ≠ gb241)); have n8_ := Aside0.mk ((by rw [hg]; exact Nat.ne_of_lt (blk_lt (g := gb246) (o := .cells #[.string t242, .string t243, .string t244] 23 (0, 0)) (by (with_reducible repeat (first | refine blk_drewN ?_ _ | refine blk_drew ?_ | refine blk_alloc ?_ _)); exact BK246.out)) : gb246 ≠ gb254)); have n9_ := Aside0.mk ((by rw [hg]; exact Nat.ne_of_gt (blk_lt (g := gb246) (o := .cells #[.string t242, .string t243, .string t244] 23 (0, 0)) (by (with_reducible repeat (first | refine blk_drewN ?_ _ | refine blk_drew ?_ | refine blk_alloc ?_ _)); exact BK246.out)) : gb254 ≠ gb246)); clear BK241; clear BK246; clear HB; have BK241 := n0_; have BK246 := n1_; have HB := n2_; have BK254 := n3_; have GW254 := n4_; have GE254 := n5_; have NB241_254 := n6_; have NB254_241 := n7_; have NB246_254 := n8_; have NB254_246 := n9_; clear n0_ n1_ n2_ n3_ n4_ n5_ n6_ n7_ n8_ n9_; clear hb hbox hg; have hnb50 := NB254_241.out; have hnc50 := NB241_254.out; have hnb51 := NB254_246.out; have hnc51 := NB246_254.out; have hcz52_0 : w49.cell? ⟨gb254, 0, none⟩ = some (.string (⟨#[]⟩ : ByteArray)) := (blk_cell BK254.out 0).trans rfl; have hcz52_1 : w49.cell? ⟨gb254, 1, none⟩ = some (.string (⟨#[]⟩ : ByteArray)) := (blk_cell BK254.out 1).trans rfl; have hcz52_2 : w49.cell? ⟨gb254, 2, none⟩ = some (.string (⟨#[]⟩ : ByteArray)) := (blk_cell BK254.out 2).trans rfl; have hfz52_0 := blk_frozen BK254.out 0; have hfz52_1 := blk_frozen BK254.out 1; have hfz52_2 := blk_frozen BK254.out 2))
                            have n0_ : Aside0 ((((w49.setCell ⟨gb254, 0, none⟩ (.string t250)).setCell ⟨gb254, 1, none⟩ (.string t251)).setCell ⟨gb254, 2, none⟩ (.string t252)).heap[gb241]? = some (.cells #[.string t237, .string t238, .string t239] 23 (0, 0))) := ⟨by (with_reducible repeat (first | refine blk_drewN ?_ _ | refine blk_drew ?_ | refine blk_alloc ?_ _)); refine blk_far ?_ NB241_254.out _; (with_reducible repeat (first | refine blk_drewN ?_ _ | refine blk_drew ?_ | refine blk_alloc ?_ _)); refine blk_far ?_ NB241_254.out _; (with_reducible repeat (first | refine blk_drewN ?_ _ | refine blk_drew ?_ | refine blk_alloc ?_ _)); refine blk_far ?_ NB241_254.out _; (with_reducible repeat (first | refine blk_drewN ?_ _ | refine blk_drew ?_ | refine blk_alloc ?_ _)); exact BK241.out⟩
                            have n1_ : Aside0 ((((w49.setCell ⟨gb254, 0, none⟩ (.string t250)).setCell ⟨gb254, 1, none⟩ (.string t251)).setCell ⟨gb254, 2, none⟩ (.string t252)).heap[gb246]? = some (.cells #[.string t242, .string t243, .string t244] 23 (0, 0))) := ⟨by (with_reducible repeat (first | refine blk_drewN ?_ _ | refine blk_drew ?_ | refine blk_alloc ?_ _)); refine blk_far ?_ NB246_254.out _; (with_reducible repeat (first | refine blk_drewN ?_ _ | refine blk_drew ?_ | refine blk_alloc ?_ _)); refine blk_far ?_ NB246_254.out _; (with_reducible repeat (first | refine blk_drewN ?_ _ | refine blk_drew ?_ | refine blk_alloc ?_ _)); refine blk_far ?_ NB246_254.out _; (with_reducible repeat (first | refine blk_drewN ?_ _ | refine blk_drew ?_ | refine blk_alloc ?_ _)); exact BK246.out⟩
                            have n2_ : Aside0 ((((w49.setCell ⟨gb254, 0, none⟩ (.string t250)).setCell ⟨gb254, 1, none⟩ (.string t251)).setCell ⟨gb254, 2, none⟩ (.string t252)).heap[gb254]? = some (.cells #[.string t250, .string t251, .string t252] 23 (0, 0))) := ⟨by (with_reducible repeat (first | refine blk_drewN ?_ _ | refine blk_drew ?_ | refine blk_alloc ?_ _)); refine blk_put (cs := #[.string t250, .string t251, .string (⟨#[]⟩ : ByteArray)]) ?_ 2 _ rfl; (with_reducible repeat (first | refine blk_drewN ?_ _ | refine blk_drew ?_ | refine blk_alloc ?_ _)); refine blk_put (cs := #[.string t250, .string (⟨#[]⟩ : ByteArray), .string (⟨#[]⟩ : ByteArray)]) ?_ 1 _ rfl; (with_reducible repeat (first | refine blk_drewN ?_ _ | refine blk_drew ?_ | refine blk_alloc ?_ _)); refine blk_put (cs := #[.string (⟨#[]⟩ : ByteArray), .string (⟨#[]⟩ : ByteArray), .string (⟨#[]⟩ : ByteArray)]) ?_ 0 _ rfl; (with_reducible repeat (first | refine blk_drewN ?_ _ | refine blk_drew ?_ | refine blk_alloc ?_ _)); exact BK254.out⟩
                            have n3_ : Aside0 (Below w.heap.size w (((w49.setCell ⟨gb254, 0, none⟩ (.string t250)).setCell ⟨gb254, 1, none⟩ (.string t251)).setCell ⟨gb254, 2, none⟩ (.string t252))) := ⟨by repeat (first | (with_reducible first | exact HB.out | apply below_alloc | apply pw_below_drewN | apply below_drew1 | refine below_set ?_ GE241.out | refine below_set ?_ GE246.out | refine below_set ?_ GE254.out) | exact HB.out)⟩
                            (try clear BK241)
                            (try clear BK246)
                            (try clear BK254)
                            (try clear HB)
                            generalize (((w49.setCell ⟨gb254, 0, none⟩ (.string t250)).setCell ⟨gb254, 1, none⟩ (.string t251)).setCell ⟨gb254, 2, none⟩ (.string t252)) = w53 at n0_ n1_ n2_ n3_ ⊢
                            have BK241 := n0_
                            have BK246 := n1_
                            have BK254 := n2_
                            have HB := n3_
                            clear n0_ n1_ n2_ n3_
                            have n0_ := Aside0.mk (blk_drew BK241.out)
                            have n1_ := Aside0.mk (blk_drew BK246.out)
                            have n2_ := Aside0.mk (blk_drew BK254.out)
                            have n3_ := Aside0.mk (below_drew1 HB.out)
                            clear BK241
                            clear BK246
                            clear BK254
                            clear HB
                            have BK241 := n0_
                            have BK246 := n1_
                            have BK254 := n2_
                            have HB := n3_
                            clear n0_ n1_ n2_ n3_
                            refine start_ (n := 20) (S := fun w' => w'.cell? ⟨gb254, 0, none⟩ = some (.string t250) ∧ w'.cell? ⟨gb254, 1, none⟩ = some (.string t251) ∧ w'.cell? ⟨gb254, 2, none⟩ = some (.string t252) ∧ w'.cell? ⟨gb241, 0, none⟩ = some (.string t237) ∧ w'.cell? ⟨gb241, 1, none⟩ = some (.string t238) ∧ w'.cell? ⟨gb241, 2, none⟩ = some (.string t239)) (ds := []) #[false, false, false, false, false, false, false, false, false, false, false, false, false, false, false, false, false, false, false, false] (by kernel_rfl) rfl rfl ⟨(blk_cell BK254.out 0).trans rfl, (blk_cell BK254.out 1).trans rfl, (blk_cell BK254.out 2).trans rfl, (blk_cell BK241.out 0).trans rfl, (blk_cell BK241.out 1).trans rfl, (blk_cell BK241.out 2).trans rfl⟩ (fun hHeld => ?_); refine with_tabW careenlaw07_DiskFull.tab13 careenlaw07_DiskFull.bits13 (fun HT_ HW_ => ?_)
                            generalize w53.drew = w54 at BK241 BK246 BK254 HB hHeld ⊢
                            refine pure_ (i := 0) (N := some 87) (v := ?_) (a' := ?_) #[true, false, false, false, false, false, false, false, false, false, false, false, false, false, false, false, false, false, false, false] rfl rfl (any_of HT_.out (by kernel_rfl)) (fun _ _ _ h => h) (Or.inl ⟨by rfl, ?_⟩) ?_ ?_
                            rotate_left
                            · intro w'
                              go_simp
                              with_reducible rfl
                            rotate_left
                            · simp only [Act.put, List.setIfInBounds_toArray, List.set_cons_zero, List.set_cons_succ, i64_w, i32_w]
                              rfl
                            refine pure_ (i := 1) (N := some 88) (v := ?_) (a' := ?_) #[true, true, false, false, false, false, false, false, false, false, false, false, false, false, false, false, false, false, false, false] rfl rfl (any_of HT_.out (by kernel_rfl)) (fun _ _ _ h => h) (Or.inl ⟨by rfl, ?_⟩) ?_ ?_
                            rotate_left
                            · intro w'
                              go_simp
                              with_reducible rfl
                            rotate_left
                            · simp only [Act.put, List.setIfInBounds_toArray, List.set_cons_zero, List.set_cons_succ, i64_w, i32_w]
                              rfl
                            refine pure_ (i := 2) (N := some 89) (v := ?_) (a' := ?_) #[true, true, true, false, false, false, false, false, false, false, false, false, false, false, false, false, false, false, false, false] rfl rfl (any_of HT_.out (by kernel_rfl)) (fun _ _ _ h => h) (Or.inl ⟨by rfl, ?_⟩) ?_ ?_
                            rotate_left
                            · intro w'
                              go_simp
                              with_reducible rfl
                            rotate_left
                            · simp only [Act.put, List.setIfInBounds_toArray, List.set_cons_zero, List.set_cons_succ, i64_w, i32_w]
                              rfl
                            refine pure_ (i := 3) (N := some 90) (v := ?_) (a' := ?_) #[true, true, true, true, false, false, false, false, false, false, false, false, false, false, false, false, false, false, false, false] rfl rfl (any_of HT_.out (by kernel_rfl)) (fun _ _ _ h => h) (Or.inl ⟨by rfl, ?_⟩) ?_ ?_
                            rotate_left
                            · intro w'
                              go_simp
                              with_reducible rfl
                            rotate_left
                            · simp only [Act.put, List.setIfInBounds_toArray, List.set_cons_zero, List.set_cons_succ, i64_w, i32_w]
                              rfl
                            refine pure_ (i := 4) (N := some 91) (v := ?_) (a' := ?_) #[true, true, true, true, true, false, false, false, false, false, false, false, false, false, false, false, false, false, false, false] rfl rfl (any_of HT_.out (by kernel_rfl)) (fun _ _ _ h => h) (Or.inl ⟨by rfl, ?_⟩) ?_ ?_
                            rotate_left
                            · intro w'
                              go_simp
                              with_reducible rfl
                            rotate_left
                            · simp only [Act.put, List.setIfInBounds_toArray, List.set_cons_zero, List.set_cons_succ, i64_w, i32_w]
                              rfl
                            refine pure_ (i := 5) (N := some 92) (v := ?_) (a' := ?_) #[true, true, true, true, true, true, false, false, false, false, false, false, false, false, false, false, false, false, false, false] rfl rfl (any_of HT_.out (by kernel_rfl)) (fun _ _ _ h => h) (Or.inl ⟨by rfl, ?_⟩) ?_ ?_
                            rotate_left
                            · intro w'
                              go_simp
                              with_reducible rfl
                            rotate_left
                            · simp only [Act.put, List.setIfInBounds_toArray, List.set_cons_zero, List.set_cons_succ, i64_w, i32_w]
                              rfl
                            refine pure_ (i := 6) (N := some 93) (v := ?_) (a' := ?_) #[true, true, true, true, true, true, true, false, false, false, false, false, false, false, false, false, false, false, false, false] rfl rfl (any_of HT_.out (by kernel_rfl)) (fun _ _ _ h => h) (Or.inl ⟨by rfl, ?_⟩) ?_ ?_
                            rotate_left
                            · intro w'
                              go_simp
                              with_reducible rfl
                            rotate_left
                            · simp only [Act.put, List.setIfInBounds_toArray, List.set_cons_zero, List.set_cons_succ, i64_w, i32_w]
                              rfl
                            refine pure_ (i := 7) (N := some 94) (v := ?_) (a' := ?_) #[true, true, true, true, true, true, true, true, false, false, false, false, false, false, false, false, false, false, false, false] rfl rfl (any_of HT_.out (by kernel_rfl)) (fun _ _ _ h => h) (Or.inl ⟨by rfl, ?_⟩) ?_ ?_
                            rotate_left
                            · intro w'
                              go_simp
                              with_reducible rfl
                            rotate_left
                            · simp only [Act.put, List.setIfInBounds_toArray, List.set_cons_zero, List.set_cons_succ, i64_w, i32_w]
                              rfl
                            refine pure_ (i := 8) (N := some 95) (v := ?_) (a' := ?_) #[true, true, true, true, true, true, true, true, true, false, false, false, false, false, false, false, false, false, false, false] rfl rfl (any_of HT_.out (by kernel_rfl)) (fun _ _ _ h => h) (Or.inl ⟨by rfl, ?_⟩) ?_ ?_
                            rotate_left
                            · intro w'
                              go_simp
                              with_reducible rfl
                            rotate_left
                            · simp only [Act.put, List.setIfInBounds_toArray, List.set_cons_zero, List.set_cons_succ, i64_w, i32_w]
                              rfl
                            refine pure_ (i := 9) (N := some 96) (v := ?_) (a' := ?_) #[true, true, true, true, true, true, true, true, true, true, false, false, false, false, false, false, false, false, false, false] rfl rfl (any_of HT_.out (by kernel_rfl)) (fun _ _ _ h => h) (Or.inl ⟨by rfl, ?_⟩) ?_ ?_
                            rotate_left
                            · intro w'
                              go_simp
                              with_reducible rfl
                            rotate_left
                            · simp only [Act.put, List.setIfInBounds_toArray, List.set_cons_zero, List.set_cons_succ, i64_w, i32_w]
                              rfl
                            refine pure_ (i := 10) (N := some 97) (v := ?_) (a' := ?_) #[true, true, true, true, true, true, true, true, true, true, true, false, false, false, false, false, false, false, false, false] rfl rfl (any_of HT_.out (by kernel_rfl)) (fun _ _ _ h => h) (Or.inl ⟨by rfl, ?_⟩) ?_ ?_
                            rotate_left
                            · intro w'
                              go_simp
                              with_reducible rfl
                            rotate_left
                            · simp only [Act.put, List.setIfInBounds_toArray, List.set_cons_zero, List.set_cons_succ, i64_w, i32_w]
                              rfl
                            refine pure_ (i := 11) (N := some 98) (v := ?_) (a' := ?_) #[true, true, true, true, true, true, true, true, true, true, true, true, false, false, false, false, false, false, false, false] rfl rfl (any_of HT_.out (by kernel_rfl)) (fun _ _ _ h => h) (Or.inl ⟨by rfl, ?_⟩) ?_ ?_
                            rotate_left
                            · intro w'
                              go_simp
                              with_reducible rfl
                            rotate_left
                            · simp only [Act.put, List.setIfInBounds_toArray, List.set_cons_zero, List.set_cons_succ, i64_w, i32_w]
                              rfl
                            refine pure_ (i := 12) (N := some 99) (v := ?_) (a' := ?_) #[true, true, true, true, true, true, true, true, true, true, true, true, true, false, false, false, false, false, false, false] rfl rfl (any_of HT_.out (by kernel_rfl)) (fun _ _ _ h => h) (Or.inl ⟨by rfl, ?_⟩) ?_ ?_
                            rotate_left
                            · intro w'
                              go_simp
                              with_reducible rfl
                            rotate_left
                            · simp only [Act.put, List.setIfInBounds_toArray, List.set_cons_zero, List.set_cons_succ, i64_w, i32_w]
                              rfl
                            refine pure_ (i := 13) (N := some 100) (v := ?_) (a' := ?_) #[true, true, true, true, true, true, true, true, true, true, true, true, true, true, false, false, false, false, false, false] rfl rfl (any_of HT_.out (by kernel_rfl)) (fun _ _ _ h => h) (Or.inl ⟨by rfl, ?_⟩) ?_ ?_
                            rotate_left
                            · intro w'
                              go_simp
                              with_reducible rfl
                            rotate_left
                            · simp only [Act.put, List.setIfInBounds_toArray, List.set_cons_zero, List.set_cons_succ, i64_w, i32_w]
                              rfl
                            refine take_ (i := 14) (N := some 101) (v := ?_) (a' := ?_) #[true, true, true, true, true, true, true, true, true, true, true, true, true, true, true, false, false, false, false, false] rfl rfl (take_ofW HT_.out HW_.out (by kernel_rfl)) (fun _ _ _ h => h) (Or.inl ⟨by rfl, ?_⟩) hHeld ?_ ?_
                            rotate_left
                            · rintro w' ⟨s0, s1, s2, s3, s4, s5⟩
                              go_simp
                              with_reducible rfl
                            rotate_left
                            · simp only [Act.put, List.setIfInBounds_toArray, List.set_cons_zero, List.set_cons_succ, i64_w, i32_w]
                              rfl
                            refine take_ (i := 15) (N := some 102) (v := ?_) (a' := ?_) #[true, true, true, true, true, true, true, true, true, true, true, true, true, true, true, true, false, false, false, false] rfl rfl (take_ofW HT_.out HW_.out (by kernel_rfl)) (fun _ _ _ h => h) (Or.inl ⟨by rfl, ?_⟩) hHeld ?_ ?_
                            rotate_left
                            · rintro w' ⟨s0, s1, s2, s3, s4, s5⟩
                              go_simp
                              with_reducible rfl
                            rotate_left
                            · simp only [Act.put, List.setIfInBounds_toArray, List.set_cons_zero, List.set_cons_succ, i64_w, i32_w]
                              rfl
                            refine one_ (i := 16) (N := some 103) #[true, true, true, true, true, true, true, true, true, true, true, true, true, true, true, true, true, false, false, false] rfl rfl (one_of HT_.out (by kernel_rfl)) (by decide) (fun K hK => ?_)
                            refine goes_ Try.func17 (by kernel_rfl) rfl #[.agg #[.string t237, .string t238, .string t239]] (by rfl) rfl rfl (by (try simp only [List.map_toArray, List.map_cons, List.map_nil]); first | done | rfl | (simp only [List.length_drop, List.length_take]; rfl)) ?_
                            with_reducible refine (disk_Sync.calls t237 t238 t239 t255 t256 t257 _ A38.out).mono ?_
                            rintro e w55 ⟨rfl, hb⟩
                            refine ⟨_, rfl, ?_⟩
                            have n0_ := Aside0.mk (blk_below (g := gb241) (o := .cells #[.string t237, .string t238, .string t239] 23 (0, 0)) (by (with_reducible repeat (first | refine blk_drewN ?_ _ | refine blk_drew ?_ | refine blk_alloc ?_ _)); exact BK241.out) hb)
                            have n1_ := Aside0.mk (blk_below (g := gb246) (o := .cells #[.string t242, .string t243, .string t244] 23 (0, 0)) (by (with_reducible repeat (first | refine blk_drewN ?_ _ | refine blk_drew ?_ | refine blk_alloc ?_ _)); exact BK246.out) hb)
                            have n2_ := Aside0.mk (blk_below (g := gb254) (o := .cells #[.string t250, .string t251, .string t252] 23 (0, 0)) (by (with_reducible repeat (first | refine blk_drewN ?_ _ | refine blk_drew ?_ | refine blk_alloc ?_ _)); exact BK254.out) hb)
                            have n3_ := Aside0.mk (below_step (by repeat (first | (with_reducible first | exact HB.out | apply below_alloc | apply pw_below_drewN | apply below_drew1 | refine below_set ?_ GE241.out | refine below_set ?_ GE246.out | refine below_set ?_ GE254.out) | exact HB.out)) hb)
                            clear BK241
                            clear BK246
                            clear BK254
                            clear HB
                            have BK241 := n0_
                            have BK246 := n1_
                            have BK254 := n2_
                            have HB := n3_
                            clear n0_ n1_ n2_ n3_
                            (try clear hb)
                            (try clear hb2)
                            (try clear hk)
                            (try clear hi)
                            refine hK.out _ _ ⟨(blk_cell BK254.out 0).trans rfl, (blk_cell BK254.out 1).trans rfl, (blk_cell BK254.out 2).trans rfl, (blk_cell BK241.out 0).trans rfl, (blk_cell BK241.out 1).trans rfl, (blk_cell BK241.out 2).trans rfl⟩ (fun hHeld => ?_)
                            clear hK K
                            refine norm_ (a' := ?_) ?_ ?_
                            rotate_left
                            · show Act.put _ (some 103) _ = _
                              simp only [Act.put, List.setIfInBounds_toArray, List.set_cons_zero, List.set_cons_succ, i64_w, i32_w]
                              rfl
                            refine pure_ (i := 17) (N := some 104) (v := ?_) (a' := ?_) #[true, true, true, true, true, true, true, true, true, true, true, true, true, true, true, true, true, true, false, false] rfl rfl (any_of HT_.out (by kernel_rfl)) (fun _ _ _ h => h) (Or.inl ⟨by rfl, ?_⟩) ?_ ?_
                            rotate_left
                            · intro w'
                              go_simp
                              with_reducible rfl
                            rotate_left
                            · simp only [Act.put, List.setIfInBounds_toArray, List.set_cons_zero, List.set_cons_succ, i64_w, i32_w]
                              rfl
                            refine pure_ (i := 18) (N := some 105) (v := ?_) (a' := ?_) #[true, true, true, true, true, true, true, true, true, true, true, true, true, true, true, true, true, true, true, false] rfl rfl (any_of HT_.out (by kernel_rfl)) (fun _ _ _ h => h) (Or.inl ⟨by rfl, ?_⟩) ?_ ?_
                            rotate_left
                            · intro w'
                              go_simp
                              with_reducible rfl
                            rotate_left
                            · simp only [Act.put, List.setIfInBounds_toArray, List.set_cons_zero, List.set_cons_succ, i64_w, i32_w]
                              rfl
                            refine pure_ (i := 19) (N := some 4) (v := ?_) (a' := ?_) #[true, true, true, true, true, true, true, true, true, true, true, true, true, true, true, true, true, true, true, true] rfl rfl (any_of HT_.out (by kernel_rfl)) (fun _ _ _ h => h) (Or.inl ⟨by rfl, ?_⟩) ?_ ?_
                            rotate_left
                            · intro w'
                              go_simp
                              with_reducible rfl
                            rotate_left
                            · simp only [Act.put, List.setIfInBounds_toArray, List.set_cons_zero, List.set_cons_succ, i64_w, i32_w]
                              rfl
                            refine done_ (done_of HT_.out (by kernel_rfl)) ?_
                            try go_wp2
                            go_ret
                            exact ⟨by first | exact congrArg (fun b_ => Ending.returned (Value.bool b_)) HV_.out | (have hv_ := HV_.out; simp only [Bool.and_eq_true, beq_iff_eq] at hv_; simp [hv_]; done) | (have hv_ := HV_.out; simp at hv_; simp [*]; done) | rfl | (simp [errW_none, errW_some] <;> rfl) | (simp only [← hji8, ← hji11]; first | rfl | (simp [errW_none, errW_some] <;> rfl)) | (simp [*, errW_none, errW_some] <;> rfl), by repeat (first | (with_reducible first | exact HB.out | apply below_alloc | apply pw_below_drewN | apply below_drew1 | refine below_set ?_ GE241.out | refine below_set ?_ GE246.out | refine below_set ?_ GE254.out) | exact HB.out)⟩
                          · rw [if_neg c37] at H
                            have c37b0 : (t253 == 50) = false := beq_eq_false_iff_ne.mpr c37
                            have c37b1 : (t253 != 50) = true := bne_iff_ne.mpr c37
                            exact absurd H (by simp)
                        · rw [if_neg c36] at H
                          have c36b0 : (t245 == 0) = false := beq_eq_false_iff_ne.mpr c36
                          have c36b1 : (t245 != 0) = true := bne_iff_ne.mpr c36
                          exact absurd H (by simp)
                      · rw [if_neg c35] at H
                        have c35b0 : (t240 == 0) = false := beq_eq_false_iff_ne.mpr c35
                        have c35b1 : (t240 != 0) = true := bne_iff_ne.mpr c35
                        exact absurd H (by simp)
                    · replace c34 := Bool.eq_false_iff.mpr c34
                      subst c34
                      have H1 : (some false) = some true := by rw [if_neg (show ¬ (false = true) by decide)] at H; exact H
                      clear H
                      have H := H1
                      clear H1
                      exact absurd H (by simp)
                  · rw [if_neg c33] at H
                    have c33b0 : decide ((wrap64 (100000 - (wrap64 (t236 + 99999)))) < (ji8)) = false := decide_eq_false c33
                    clear c33
                    by_cases c56 : t235 = true
                    · subst c56
                      have H1 : (if t240 = 0 then (if t245 = 0 then (if t253 = 0 then ((disk_Log.f t250 t251 t252).bind fun t258 => (if (t258.size : Int) = (wrap64 ((wrap64 (t236 + 99999)) + (ji8))) then (some ((t242.size : Int) == (wrap64 (t236 + 99999)))) else (some false))) else (some false)) else (some false)) else (some false)) = some true := by rw [if_pos rfl] at H; exact H
                      clear H
                      have H := H1
                      clear H1
                      by_cases c57 : t240 = 0
                      · rw [if_pos c57] at H
                        have c57b0 : (t240 == 0) = true := beq_iff_eq.mpr c57
                        have c57b1 : (t240 != 0) = false := bne_eq_false_iff_eq.mpr c57
                        clear c57
                        by_cases c58 : t245 = 0
                        · rw [if_pos c58] at H
                          have c58b0 : (t245 == 0) = true := beq_iff_eq.mpr c58
                          have c58b1 : (t245 != 0) = false := bne_eq_false_iff_eq.mpr c58
                          clear c58
                          by_cases c59 : t253 = 0
                          · rw [if_pos c59] at H
                            have c59b0 : (t253 == 0) = true := beq_iff_eq.mpr c59
                            have c59b1 : (t253 != 0) = false := bne_eq_false_iff_eq.mpr c59
                            clear c59
                            replace H := Option.bind_eq_some_iff.mp H
                            obtain ⟨t258, A600, H⟩ := H
                            replace H : (if (t258.size : Int) = (wrap64 ((wrap64 (t236 + 99999)) + (ji8))) then (some ((t242.size : Int) == (wrap64 (t236 + 99999)))) else (some false)) = some true := H
                            have A60 := Aside0.mk A600
                            clear A600
                            by_cases c61 : (t258.size : Int) = (wrap64 ((wrap64 (t236 + 99999)) + (ji8)))
                            · rw [if_pos c61] at H
                              have c61b0 : ((t258.size : Int) == (wrap64 ((wrap64 (t236 + 99999)) + (ji8)))) = true := beq_iff_eq.mpr c61
                              have c61b1 : ((t258.size : Int) != (wrap64 ((wrap64 (t236 + 99999)) + (ji8)))) = false := bne_eq_false_iff_eq.mpr c61
                              clear c61
                              have HV_ := Aside0.mk (Option.some.inj H)
                              clear H
                              go_wp2_with (first | ((with_reducible refine gate_callee (f := 10) rfl ?_); refine goesL_ (some 23) rfl rfl Try.func10 (by kernel_rfl) rfl #[.int .i64 a0, .int .i64 3] rfl (by (try simp only [List.map_toArray, List.map_cons, List.map_nil]); first | done | rfl | (simp only [List.length_drop, List.length_take]; rfl)) ?_; (with_reducible refine (careenlaw07_pick.calls a0 3 t236 _ A7.out).mono ?_); rintro e w' ⟨rfl, ⟨nd, rfl⟩⟩; refine ⟨_, rfl, ?_⟩; (try (rw [drewN_self wr]; generalize hq_ : World.drewN wr _ = wr; have n0_ : Aside0 (Below w.heap.size w wr) := ⟨by rw [← hq_]; exact (by repeat (first | (with_reducible first | exact HB.out | apply below_alloc | apply pw_below_drewN | apply below_drew1) | exact HB.out))⟩; clear HB hq_; have HB := n0_; clear n0_))) | ((with_reducible refine gate_callee (f := 13) rfl ?_); refine goesL_ (some 38) rfl rfl Try.func13 (by kernel_rfl) rfl #[.agg #[.string (⟨#[]⟩ : ByteArray), .string (⟨#[]⟩ : ByteArray), .string (⟨#[]⟩ : ByteArray)], .string (x6_1.extract 0 ((ji11) : Int).toNat)] rfl (by (try simp only [List.map_toArray, List.map_cons, List.map_nil]); first | done | (simp only [hji11]; rfl) | rfl | (simp only [List.length_drop, List.length_take]; rfl)) ?_; (with_reducible refine (disk_Append.calls (⟨#[]⟩ : ByteArray) (⟨#[]⟩ : ByteArray) (⟨#[]⟩ : ByteArray) (x6_1.extract 0 ((ji11) : Int).toNat) t237 t238 t239 t240 _ A14.out).mono ?_); rintro e w62 ⟨rfl, hb⟩; refine ⟨_, rfl, ?_⟩; have n0_ := Aside0.mk (below_step (by repeat (first | (with_reducible first | exact HB.out | apply below_alloc | apply pw_below_drewN | apply below_drew1) | exact HB.out)) hb); clear HB; have HB := n0_; clear n0_; (try clear hb); (try clear hb2); (try clear hk); (try clear hi)) | ((with_reducible refine gate_dst (N := 9) rfl ?_); (try (refine gate_guard (by rfl) ?_; dsimp only)); refine box_event ?hg (N := 9) ?hd (cs := #[.string (⟨#[]⟩ : ByteArray), .string (⟨#[]⟩ : ByteArray), .string (⟨#[]⟩ : ByteArray)]) (t := 23) ?hr ?_; (case hd => rfl); (case hg => rfl); (case hr => first | (go_simp; done) | (go_simp; rfl)); intro gb241 hg w63 hbox hb; have n0_ := Aside0.mk (below_step (by repeat (first | (with_reducible first | exact HB.out | apply below_alloc | apply pw_below_drewN | apply below_drew1) | exact HB.out)) hb); have n1_ := Aside0.mk (hbox); have n2_ := Aside0.mk ((by rw [hg]; exact (below_size (by repeat (first | (with_reducible first | exact HB.out | apply below_alloc | apply pw_below_drewN | apply below_drew1) | exact HB.out))) : w.heap.size ≤ gb241)); have n3_ := Aside0.mk ((by rw [hg]; exact (below_size (by repeat (first | (with_reducible first | exact HB.out | apply below_alloc | apply pw_below_drewN | apply below_drew1) | exact HB.out))) : w.heap.size ≤ gb241)); clear HB; have HB := n0_; have BK241 := n1_; have GW241 := n2_; have GE241 := n3_; clear n0_ n1_ n2_ n3_; clear hb hbox hg; have hcz64_0 : w63.cell? ⟨gb241, 0, none⟩ = some (.string (⟨#[]⟩ : ByteArray)) := (blk_cell BK241.out 0).trans rfl; have hcz64_1 : w63.cell? ⟨gb241, 1, none⟩ = some (.string (⟨#[]⟩ : ByteArray)) := (blk_cell BK241.out 1).trans rfl; have hcz64_2 : w63.cell? ⟨gb241, 2, none⟩ = some (.string (⟨#[]⟩ : ByteArray)) := (blk_cell BK241.out 2).trans rfl; have hfz64_0 := blk_frozen BK241.out 0; have hfz64_1 := blk_frozen BK241.out 1; have hfz64_2 := blk_frozen BK241.out 2) | ((with_reducible refine gate_callee (f := 15) rfl ?_); refine goesL_ (some 50) rfl rfl Try.func15 (by kernel_rfl) rfl #[.agg #[.string (⟨#[]⟩ : ByteArray), .string (a1.extract 0 ((ji8) : Int).toNat), .string (⟨#[]⟩ : ByteArray)], .string (x6_1.extract 0 ((ji11) : Int).toNat)] rfl (by (try simp only [List.map_toArray, List.map_cons, List.map_nil]); first | done | (simp only [hji11, hji8]; rfl) | rfl | (simp only [List.length_drop, List.length_take]; rfl)) ?_; (with_reducible refine (disk_Swap.calls (⟨#[]⟩ : ByteArray) (a1.extract 0 ((ji8) : Int).toNat) (⟨#[]⟩ : ByteArray) (x6_1.extract 0 ((ji11) : Int).toNat) t242 t243 t244 t245 _ A17.out).mono ?_); rintro e w65 ⟨rfl, hb⟩; refine ⟨_, rfl, ?_⟩; have n0_ := Aside0.mk (blk_below (g := gb241) (o := .cells #[.string t237, .string t238, .string t239] 23 (0, 0)) (by (with_reducible repeat (first | refine blk_drewN ?_ _ | refine blk_drew ?_ | refine blk_alloc ?_ _)); refine blk_put (cs := #[.string t237, .string t238, .string (⟨#[]⟩ : ByteArray)]) ?_ 2 _ rfl; (with_reducible repeat (first | refine blk_drewN ?_ _ | refine blk_drew ?_ | refine blk_alloc ?_ _)); refine blk_put (cs := #[.string t237, .string (⟨#[]⟩ : ByteArray), .string (⟨#[]⟩ : ByteArray)]) ?_ 1 _ rfl; (with_reducible repeat (first | refine blk_drewN ?_ _ | refine blk_drew ?_ | refine blk_alloc ?_ _)); refine blk_put (cs := #[.string (⟨#[]⟩ : ByteArray), .string (⟨#[]⟩ : ByteArray), .string (⟨#[]⟩ : ByteArray)]) ?_ 0 _ rfl; (with_reducible repeat (first | refine blk_drewN ?_ _ | refine blk_drew ?_ | refine blk_alloc ?_ _)); exact BK241.out) hb); have n1_ := Aside0.mk (below_step (by repeat (first | (with_reducible first | exact HB.out | apply below_alloc | apply pw_below_drewN | apply below_drew1 | refine below_set ?_ GE241.out) | exact HB.out)) hb); clear BK241; clear HB; have BK241 := n0_; have HB := n1_; clear n0_ n1_; (try clear hb); (try clear hb2); (try clear hk); (try clear hi)) | ((with_reducible refine gate_dst (N := 11) rfl ?_); (try (refine gate_guard (by rfl) ?_; dsimp only)); refine box_event ?hg (N := 11) ?hd (cs := #[.string (⟨#[]⟩ : ByteArray), .string (⟨#[]⟩ : ByteArray), .string (⟨#[]⟩ : ByteArray)]) (t := 23) ?hr ?_; (case hd => rfl); (case hg => rfl); (case hr => first | (go_simp; done) | (go_simp; rfl)); intro gb246 hg w66 hbox hb; have n0_ := Aside0.mk (blk_below (g := gb241) (o := .cells #[.string t237, .string t238, .string t239] 23 (0, 0)) (by (with_reducible repeat (first | refine blk_drewN ?_ _ | refine blk_drew ?_ | refine blk_alloc ?_ _)); exact BK241.out) hb); have n1_ := Aside0.mk (below_step (by repeat (first | (with_reducible first | exact HB.out | apply below_alloc | apply pw_below_drewN | apply below_drew1 | refine below_set ?_ GE241.out) | exact HB.out)) hb); have n2_ := Aside0.mk (hbox); have n3_ := Aside0.mk ((by rw [hg]; exact (below_size (by repeat (first | (with_reducible first | exact HB.out | apply below_alloc | apply pw_below_drewN | apply below_drew1 | refine below_set ?_ GE241.out) | exact HB.out))) : w.heap.size ≤ gb246)); have n4_ := Aside0.mk ((by rw [hg]; exact (below_size (by repeat (first | (with_reducible first | exact HB.out | apply below_alloc | apply pw_below_drewN | apply below_drew1 | refine below_set ?_ GE241.out) | exact HB.out))) : w.heap.size ≤ gb246)); have n5_ := Aside0.mk ((by rw [hg]; exact Nat.ne_of_lt (blk_lt (g := gb241) (o := .cells #[.string t237, .string t238, .string t239] 23 (0, 0)) (by (with_reducible repeat (first | refine blk_drewN ?_ _ | refine blk_drew ?_ | refine blk_alloc ?_ _)); exact BK241.out)) : gb241 ≠ gb246)); have n6_ := Aside0.mk ((by rw [hg]; exact Nat.ne_of_gt (blk_lt (g := gb241) (o := .cells #[.string t237, .string t238, .string t239] 23 (0, 0)) (by (with_reducible repeat (first | refine blk_drewN ?_ _ | refine blk_drew ?_ | refine blk_alloc ?_ _)); exact BK241.out)) : gb246 ≠ gb241)); clear BK241; clear HB; have BK241 := n0_; have HB := n1_; have BK246 := n2_; have GW246 := n3_; have GE246 := n4_; have NB241_246 := n5_; have NB246_241 := n6_; clear n0_ n1_ n2_ n3_ n4_ n5_ n6_; clear hb hbox hg; have hnb67 := NB246_241.out; have hnc67 := NB241_246.out; have hcz68_0 : w66.cell? ⟨gb246, 0, none⟩ = some (.string (⟨#[]⟩ : ByteArray)) := (blk_cell BK246.out 0).trans rfl; have hcz68_1 : w66.cell? ⟨gb246, 1, none⟩ = some (.string (⟨#[]⟩ : ByteArray)) := (blk_cell BK246.out 1).trans rfl; have hcz68_2 : w66.cell? ⟨gb246, 2, none⟩ = some (.string (⟨#[]⟩ : ByteArray)) := (blk_cell BK246.out 2).trans rfl; have hfz68_0 := blk_frozen BK246.out 0; have hfz68_1 := blk_frozen BK246.out 1; have hfz68_2 := blk_frozen BK246.out 2; have hcz69_0 : w66.cell? ⟨gb241, 0, none⟩ = some (.string t237) := (blk_cell BK241.out 0).trans rfl; have hcz69_1 : w66.cell? ⟨gb241, 1, none⟩ = some (.string t238) := (blk_cell BK241.out 1).trans rfl; have hcz69_2 : w66.cell? ⟨gb241, 2, none⟩ = some (.string t239) := (blk_cell BK241.out 2).trans rfl; have hfz69_0 := blk_frozen BK241.out 0; have hfz69_1 := blk_frozen BK241.out 1; have hfz69_2 := blk_frozen BK241.out 2) | ((with_reducible refine gate_callee (f := 17) rfl ?_); refine goesL_ (some 77) rfl rfl Try.func17 (by kernel_rfl) rfl #[.agg #[.string t237, .string t238, .string t239]] rfl (by (try simp only [List.map_toArray, List.map_cons, List.map_nil]); first | done | rfl | (simp only [List.length_drop, List.length_take]; rfl)) ?_; (with_reducible refine (disk_Sync.calls t237 t238 t239 t247 t248 t249 _ A31.out).mono ?_); rintro e w70 ⟨rfl, hb⟩; refine ⟨_, rfl, ?_⟩; have n0_ := Aside0.mk (blk_below (g := gb241) (o := .cells #[.string t237, .string t238, .string t239] 23 (0, 0)) (by (with_reducible repeat (first | refine blk_drewN ?_ _ | refine blk_drew ?_ | refine blk_alloc ?_ _)); refine blk_far ?_ NB241_246.out _; (with_reducible repeat (first | refine blk_drewN ?_ _ | refine blk_drew ?_ | refine blk_alloc ?_ _)); refine blk_far ?_ NB241_246.out _; (with_reducible repeat (first | refine blk_drewN ?_ _ | refine blk_drew ?_ | refine blk_alloc ?_ _)); refine blk_far ?_ NB241_246.out _; (with_reducible repeat (first | refine blk_drewN ?_ _ | refine blk_drew ?_ | refine blk_alloc ?_ _)); exact BK241.out) hb); have n1_ := Aside0.mk (blk_below (g := gb246) (o := .cells #[.string t242, .string t243, .string t244] 23 (0, 0)) (by (with_reducible repeat (first | refine blk_drewN ?_ _ | refine blk_drew ?_ | refine blk_alloc ?_ _)); refine blk_put (cs := #[.string t242, .string t243, .string (⟨#[]⟩ : ByteArray)]) ?_ 2 _ rfl; (with_reducible repeat (first | refine blk_drewN ?_ _ | refine blk_drew ?_ | refine blk_alloc ?_ _)); refine blk_put (cs := #[.string t242, .string (⟨#[]⟩ : ByteArray), .string (⟨#[]⟩ : ByteArray)]) ?_ 1 _ rfl; (with_reducible repeat (first | refine blk_drewN ?_ _ | refine blk_drew ?_ | refine blk_alloc ?_ _)); refine blk_put (cs := #[.string (⟨#[]⟩ : ByteArray), .string (⟨#[]⟩ : ByteArray), .string (⟨#[]⟩ : ByteArray)]) ?_ 0 _ rfl; (with_reducible repeat (first | refine blk_drewN ?_ _ | refine blk_drew ?_ | refine blk_alloc ?_ _)); exact BK246.out) hb); have n2_ := Aside0.mk (below_step (by repeat (first | (with_reducible first | exact HB.out | apply below_alloc | apply pw_below_drewN | apply below_drew1 | refine below_set ?_ GE241.out | refine below_set ?_ GE246.out) | exact HB.out)) hb); clear BK241; clear BK246; clear HB; have BK241 := n0_; have BK246 := n1_; have HB := n2_; clear n0_ n1_ n2_; (try clear hb); (try clear hb2); (try clear hk); (try clear hi)) | ((with_reducible refine gate_callee (f := 13) rfl ?_); refine goesL_ (some 79) rfl rfl Try.func13 (by kernel_rfl) rfl #[.agg #[.string t247, .string t248, .string t249], .string (a1.extract 0 ((ji8) : Int).toNat)] rfl (by (try simp only [List.map_toArray, List.map_cons, List.map_nil]); first | done | (simp only [hji8]; rfl) | rfl | (simp only [List.length_drop, List.length_take]; rfl)) ?_; (with_reducible refine (disk_Append.calls t247 t248 t249 (a1.extract 0 ((ji8) : Int).toNat) t250 t251 t252 t253 _ A32.out).mono ?_); rintro e w71 ⟨rfl, hb⟩; refine ⟨_, rfl, ?_⟩; have n0_ := Aside0.mk (blk_below (g := gb241) (o := .cells #[.string t237, .string t238, .string t239] 23 (0, 0)) (by (with_reducible repeat (first | refine blk_drewN ?_ _ | refine blk_drew ?_ | refine blk_alloc ?_ _)); exact BK241.out) hb); have n1_ := Aside0.mk (blk_below (g := gb246) (o := .cells #[.string t242, .string t243, .string t244] 23 (0, 0)) (by (with_reducible repeat (first | refine blk_drewN ?_ _ | refine blk_drew ?_ | refine blk_alloc ?_ _)); exact BK246.out) hb); have n2_ := Aside0.mk (below_step (by repeat (first | (with_reducible first | exact HB.out | apply below_alloc | apply pw_below_drewN | apply below_drew1 | refine below_set ?_ GE241.out | refine below_set ?_ GE246.out) | exact HB.out)) hb); clear BK241; clear BK246; clear HB; have BK241 := n0_; have BK246 := n1_; have HB := n2_; clear n0_ n1_ n2_; (try clear hb); (try clear hb2); (try clear hk); (try clear hi)) | ((with_reducible refine gate_dst (N := 13) rfl ?_); (try (refine gate_guard (by rfl) ?_; dsimp only)); refine box_event ?hg (N := 13) ?hd (cs := #[.string (⟨#[]⟩ : ByteArray), .string (⟨#[]⟩ : ByteArray), .string (⟨#[]⟩ : ByteArray)]) (t := 23) ?hr ?_; (case hd => rfl); (case hg => rfl); (case hr => first | (go_simp; done) | (go_simp; rfl)); intro gb254 hg w72 hbox hb; have n0_ := Aside0.mk (blk_below (g := gb241) (o := .cells #[.string t237, .string t238, .string t239] 23 (0, 0)) (by (with_reducible repeat (first | refine blk_drewN ?_ _ | refine blk_drew ?_ | refine blk_alloc ?_ _)); exact BK241.out) hb); have n1_ := Aside0.mk (blk_below (g := gb246) (o := .cells #[.string t242, .string t243, .string t244] 23 (0, 0)) (by (with_reducible repeat (first | refine blk_drewN ?_ _ | refine blk_drew ?_ | refine blk_alloc ?_ _)); exact BK246.out) hb); have n2_ := Aside0.mk (below_step (by repeat (first | (with_reducible first | exact HB.out | apply below_alloc | apply pw_below_drewN | apply below_drew1 | refine below_set ?_ GE241.out | refine below_set ?_ GE246.out) | exact HB.out)) hb); have n3_ := Aside0.mk (hbox); have n4_ := Aside0.mk ((by rw [hg]; exact (below_size (by repeat (first | (with_reducible first | exact HB.out | apply below_alloc | apply pw_below_drewN | apply below_drew1 | refine below_set ?_ GE241.out | refine below_set ?_ GE246.out) | exact HB.out))) : w.heap.size ≤ gb254)); have n5_ := Aside0.mk ((by rw [hg]; exact (below_size (by repeat (first | (with_reducible first | exact HB.out | apply below_alloc | apply pw_below_drewN | apply below_drew1 | refine below_set ?_ GE241.out | refine below_set ?_ GE246.out) | exact HB.out))) : w.heap.size ≤ gb254)); have n6_ := Aside0.mk ((by rw [hg]; exact Nat.ne_of_lt (blk_lt (g := gb241) (o := .cells #[.string t237, .string t238, .string t239] 23 (0, 0)) (by (with_reducible repeat (first | refine blk_drewN ?_ _ | refine blk_drew ?_ | refine blk_alloc ?_ _)); exact BK241.out)) : gb241 ≠ gb254)); have n7_ := Aside0.mk ((by rw [hg]; exact Nat.ne_of_gt (blk_lt (g := gb241) (o := .cells #[.string t237, .string t238, .string t239] 23 (0, 0)) (by (with_reducible repeat (first | refine blk_drewN ?_ _ | refine blk_drew ?_ | refine blk_alloc ?_ _)); exact BK241.out)) : gb254 ≠ gb241)); have n8_ := Aside0.mk ((by rw [hg]; exact Nat.ne_of_lt (blk_lt (g := gb246) (o := .cells #[.string t242, .string t243, .string t244] 23 (0, 0)) (by (with_reducible repeat (first | refine blk_drewN ?_ _ | refine blk_drew ?_ | refine blk_alloc ?_ _)); exact BK246.out)) : gb246 ≠ gb254)); have n9_ := Aside0.mk ((by rw [hg]; exact Nat.ne_of_gt (blk_lt (g := gb246) (o := .cells #[.string t242, .string t243, .string t244] 23 (0, 0)) (by (with_reducible repeat (first | refine blk_drewN ?_ _ | refine blk_drew ?_ | refine blk_alloc ?_ _)); exact BK246.out)) : gb254 ≠ gb246)); clear BK241; clear BK246; clear HB; have BK241 := n0_; have BK246 := n1_; have HB := n2_; have BK254 := n3_; have GW254 := n4_; have GE254 := n5_; have NB241_254 := n6_; have NB254_241 := n7_; have NB246_254 := n8_; have NB254_246 := n9_; clear n0_ n1_ n2_ n3_ n4_ n5_ n6_ n7_ n8_ n9_; clear hb hbox hg; have hnb73 := NB254_241.out; have hnc73 := NB241_254.out; have hnb74 := NB254_246.out; have hnc74 := NB246_254.out; have hcz75_0 : w72.cell? ⟨gb254, 0, none⟩ = some (.string (⟨#[]⟩ : ByteArray)) := (blk_cell BK254.out 0).trans rfl; have hcz75_1 : w72.cell? ⟨gb254, 1, none⟩ = some (.string (⟨#[]⟩ : ByteArray)) := (blk_cell BK254.out 1).trans rfl; have hcz75_2 : w72.cell? ⟨gb254, 2, none⟩ = some (.string (⟨#[]⟩ : ByteArray)) := (blk_cell BK254.out 2).trans rfl; have hfz75_0 := blk_frozen BK254.out 0; have hfz75_1 := blk_frozen BK254.out 1; have hfz75_2 := blk_frozen BK254.out 2) | (go_at_call 19; (with_reducible refine (disk_Log.calls t250 t251 t252 t258 _ A60.out).mono ?_); rintro e w76 ⟨rfl, hb⟩; have n0_ := Aside0.mk (blk_below (g := gb241) (o := .cells #[.string t237, .string t238, .string t239] 23 (0, 0)) (by (with_reducible repeat (first | refine blk_drewN ?_ _ | refine blk_drew ?_ | refine blk_alloc ?_ _)); refine blk_far ?_ NB241_254.out _; (with_reducible repeat (first | refine blk_drewN ?_ _ | refine blk_drew ?_ | refine blk_alloc ?_ _)); refine blk_far ?_ NB241_254.out _; (with_reducible repeat (first | refine blk_drewN ?_ _ | refine blk_drew ?_ | refine blk_alloc ?_ _)); refine blk_far ?_ NB241_254.out _; (with_reducible repeat (first | refine blk_drewN ?_ _ | refine blk_drew ?_ | refine blk_alloc ?_ _)); exact BK241.out) hb); have n1_ := Aside0.mk (blk_below (g := gb246) (o := .cells #[.string t242, .string t243, .string t244] 23 (0, 0)) (by (with_reducible repeat (first | refine blk_drewN ?_ _ | refine blk_drew ?_ | refine blk_alloc ?_ _)); refine blk_far ?_ NB246_254.out _; (with_reducible repeat (first | refine blk_drewN ?_ _ | refine blk_drew ?_ | refine blk_alloc ?_ _)); refine blk_far ?_ NB246_254.out _; (with_reducible repeat (first | refine blk_drewN ?_ _ | refine blk_drew ?_ | refine blk_alloc ?_ _)); refine blk_far ?_ NB246_254.out _; (with_reducible repeat (first | refine blk_drewN ?_ _ | refine blk_drew ?_ | refine blk_alloc ?_ _)); exact BK246.out) hb); have n2_ := Aside0.mk (blk_below (g := gb254) (o := .cells #[.string t250, .string t251, .string t252] 23 (0, 0)) (by (with_reducible repeat (first | refine blk_drewN ?_ _ | refine blk_drew ?_ | refine blk_alloc ?_ _)); refine blk_put (cs := #[.string t250, .string t251, .string (⟨#[]⟩ : ByteArray)]) ?_ 2 _ rfl; (with_reducible repeat (first | refine blk_drewN ?_ _ | refine blk_drew ?_ | refine blk_alloc ?_ _)); refine blk_put (cs := #[.string t250, .string (⟨#[]⟩ : ByteArray), .string (⟨#[]⟩ : ByteArray)]) ?_ 1 _ rfl; (with_reducible repeat (first | refine blk_drewN ?_ _ | refine blk_drew ?_ | refine blk_alloc ?_ _)); refine blk_put (cs := #[.string (⟨#[]⟩ : ByteArray), .string (⟨#[]⟩ : ByteArray), .string (⟨#[]⟩ : ByteArray)]) ?_ 0 _ rfl; (with_reducible repeat (first | refine blk_drewN ?_ _ | refine blk_drew ?_ | refine blk_alloc ?_ _)); exact BK254.out) hb); have n3_ := Aside0.mk (below_step (by repeat (first | (with_reducible first | exact HB.out | apply below_alloc | apply pw_below_drewN | apply below_drew1 | refine below_set ?_ GE241.out | refine below_set ?_ GE246.out | refine below_set ?_ GE254.out) | exact HB.out)) hb); clear BK241; clear BK246; clear BK254; clear HB; have BK241 := n0_; have BK246 := n1_; have BK254 := n2_; have HB := n3_; clear n0_ n1_ n2_ n3_; (try clear hb); (try clear hb2); (try clear hk); (try clear hi); have hcz77_0 : w76.cell? ⟨gb246, 0, none⟩ = some (.string t242) := (blk_cell BK246.out 0).trans rfl; have hcz77_1 : w76.cell? ⟨gb246, 1, none⟩ = some (.string t243) := (blk_cell BK246.out 1).trans rfl; have hcz77_2 : w76.cell? ⟨gb246, 2, none⟩ = some (.string t244) := (blk_cell BK246.out 2).trans rfl; have hfz77_0 := blk_frozen BK246.out 0; have hfz77_1 := blk_frozen BK246.out 1; have hfz77_2 := blk_frozen BK246.out 2))
                              go_ret
                              exact ⟨by first | exact congrArg (fun b_ => Ending.returned (Value.bool b_)) HV_.out | (have hv_ := HV_.out; simp only [Bool.and_eq_true, beq_iff_eq] at hv_; simp [hv_]; done) | (have hv_ := HV_.out; simp at hv_; simp [*]; done) | rfl | (simp [errW_none, errW_some] <;> rfl) | (simp only [← hji8, ← hji11]; first | rfl | (simp [errW_none, errW_some] <;> rfl)) | (simp [*, errW_none, errW_some] <;> rfl), by repeat (first | (with_reducible first | exact HB.out | apply below_alloc | apply pw_below_drewN | apply below_drew1 | refine below_set ?_ GE241.out | refine below_set ?_ GE246.out | refine below_set ?_ GE254.out) | exact HB.out)⟩
                            · rw [if_neg c61] at H
                              have c61b0 : ((t258.size : Int) == (wrap64 ((wrap64 (t236 + 99999)) + (ji8)))) = false := beq_eq_false_iff_ne.mpr c61
                              have c61b1 : ((t258.size : Int) != (wrap64 ((wrap64 (t236 + 99999)) + (ji8)))) = true := bne_iff_ne.mpr c61
                              exact absurd H (by simp)
                          · rw [if_neg c59] at H
                            have c59b0 : (t253 == 0) = false := beq_eq_false_iff_ne.mpr c59
                            have c59b1 : (t253 != 0) = true := bne_iff_ne.mpr c59
                            exact absurd H (by simp)
                        · rw [if_neg c58] at H
                          have c58b0 : (t245 == 0) = false := beq_eq_false_iff_ne.mpr c58
                          have c58b1 : (t245 != 0) = true := bne_iff_ne.mpr c58
                          exact absurd H (by simp)
                      · rw [if_neg c57] at H
                        have c57b0 : (t240 == 0) = false := beq_eq_false_iff_ne.mpr c57
                        have c57b1 : (t240 != 0) = true := bne_iff_ne.mpr c57
                        exact absurd H (by simp)
                    · replace c56 := Bool.eq_false_iff.mpr c56
                      subst c56
                      have H1 : (some false) = some true := by rw [if_neg (show ¬ (false = true) by decide)] at H; exact H
                      clear H
                      have H := H1
                      clear H1
                      exact absurd H (by simp)
              · rw [if_neg c13] at H
                exact absurd H (by simp)
            · rw [if_neg c12] at H
              exact absurd H (by simp)
          · rw [if_neg c10] at H
            exact absurd H (by simp)
        · rw [if_neg c9] at H
          exact absurd H (by simp)

/-- THE ONE PURE STATEMENT of careenlaw07_DiskFull: yours. -/
def careenlaw07_DiskFull.Pure : Prop := ∀ (a0 : Int) (a1 : ByteArray), (Lit.int .i64 a0).wf = true → a1.size ≤ 140737488351232 → ∃ k, careenlaw07_DiskFull.f k a0 a1 = some true
theorem careenlaw07_DiskFull.walk (P : careenlaw07_DiskFull.Pure) (a0 : Int) (a1 : ByteArray) (w : World) (w0 : (Lit.int .i64 a0).wf = true) (w1 : a1.size ≤ 140737488351232) :
    Calls Try.prog 5 #[.int .i64 a0, .string a1] w fun e w' => e = .returned (.bool true) ∧ Below w.heap.size w w' := by
  obtain ⟨k, h⟩ := P a0 a1 w0 w1
  refine (careenlaw07_DiskFull.calls k a0 a1 w h).mono ?_
  rintro e w' ⟨rfl, hd⟩
  exact ⟨rfl, hd⟩

end Go.Proofs.Ytlhkcbcfhmjamaa.PAll
