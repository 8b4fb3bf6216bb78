-- Written by a program of this session (wip/xpatch.py, wip/xprint.sh) for seat Ytmicfaeloanffaa.
import Derived.Test.YtmicfaeloanffaaPAllx0
import Derived.Test.YtmicfaeloanffaaPAllx2
import Derived.Test.YtmicfaeloanffaaPAllx3
import Derived.Test.YtmicfaeloanffaaPAllx5
import Derived.Test.YtmicfaeloanffaaPAllx6
import Derived.Test.YtmicfaeloanffaaPAllx7
import Derived.Test.YtmicfaeloanffaaPFrx
import Derived.Test.YtmicfaeloanffaaPAllx9
namespace Go.Proofs.Ytmicfaeloanffaa.PAll
attribute [local go_sem high] Go.Proofs.Ytmicfaeloanffaa.Hand.unary_xor_u32
open Go.RowKit Go.Proofs.YtmicfaeloanffaaW.PrintWords Go.Proofs.YtmicfaeloanffaaW.PrintLast Go.Proofs.YtmicfaeloanffaaW.PrintMore
attribute [local go_sem] max2_int min2_int max_two min_two max_three min_three max_four min_four   -- for this text's walks alone
set_option linter.unusedVariables false
set_option linter.unusedSimpArgs false

/-! ### careenlaw06_FrameTells: function 3 -/
mutual
def careenlaw06_FrameTells.l0 : Nat → List (S57) → List ByteArray → ByteArray → Int → ByteArray → Bool → List Int → Int → Int → Int → Int → ByteArray → Option (Bool)
 | 0, _, _, _, _, _, _, _, _, _, _, _, _ => none
 | k + 1, x2, x3, x4, x5, x6, x15, x38, x39, x40, x210000, x210001, x210002 => if x40 < x39 then (if 0 ≤ x40 then (if x40 < (x38.length : Int) then ((frame_Encode.f (rd x38 x40) x210000 x210001 x210002).bind fun bt215 => ((careenref06_Encode.f k (rd x38 x40) x210000 x210001 x210002).bind fun bt217 => (if bt215.1.toList = bt217.1.toList then (if bt215.2 = bt217.2 then ((frame_Right.f (rd x38 x40) x210000 x210001 x210002).bind fun t219 => ((careenref06_Right.f (rd x38 x40) x210000 x210001 x210002).bind fun t220 => (careenlaw06_FrameTells.j1 k x2 x3 x4 x5 x6 x15 (rd x38 x40) bt217.1 x38 x39 x40 (t219 != t220) x210000 x210001 x210002))) else (careenlaw06_FrameTells.j1 k x2 x3 x4 x5 x6 x15 (rd x38 x40) bt217.1 x38 x39 x40 true x210000 x210001 x210002)) else (careenlaw06_FrameTells.j1 k x2 x3 x4 x5 x6 x15 (rd x38 x40) bt217.1 x38 x39 x40 true x210000 x210001 x210002)))) else (none)) else (none)) else (some x15)
def careenlaw06_FrameTells.j1 : Nat → List (S57) → List ByteArray → ByteArray → Int → ByteArray → Bool → Int → ByteArray → List Int → Int → Int → Bool → Int → Int → ByteArray → Option (Bool)
 | 0, _, _, _, _, _, _, _, _, _, _, _, _, _, _, _ => none
 | k + 1, x2, x3, x4, x5, x6, x15, x17, x20, x38, x39, x40, x72, x210000, x210001, x210002 => if x72 = true then (some false) else ((careenlaw06_pick.f x17 2).bind fun t221 => ((careenlaw06_Frames.f k (wrap64 (1 + t221)) x2 x3).bind fun t222 => (careenlaw06_FrameTells.l1 k x2 x3 x4 x5 x6 x15 x17 x20 x38 x39 x40 t222 (t222.length : Int) 0 x210000 x210001 x210002)))
def careenlaw06_FrameTells.l1 : Nat → List (S57) → List ByteArray → ByteArray → Int → ByteArray → Bool → Int → ByteArray → List Int → Int → Int → List (S23) → Int → Int → Int → Int → ByteArray → Option (Bool)
 | 0, _, _, _, _, _, _, _, _, _, _, _, _, _, _, _, _, _ => none
 | k + 1, x2, x3, x4, x5, x6, x15, x17, x22, x38, x39, x40, x79, x80, x81, x210000, x210001, x210002 => if x81 < x80 then (if 0 ≤ x81 then (if x81 < (x79.length : Int) then ((careenlaw06_pick.f x17 2).bind fun t227 => ((careenref06_Encode.f k (wrap64 (1 + t227)) ((rd_T23 x79 x81).f0) ((rd_T23 x79 x81).f1) ((rd_T23 x79 x81).f2)).bind fun bt228 => (if x22.size + bt228.1.size ≤ 9223372036854775807 then (careenlaw06_FrameTells.l1 k x2 x3 x4 x5 x6 x15 x17 (x22 ++ bt228.1) x38 x39 x40 x79 x80 (wrap64 (x81 + 1)) x210000 x210001 x210002) else (none)))) else (none)) else (none)) else ((careenlaw06_pick.f x5 (wrap64 ((x22.size : Int) + 1))).bind fun t230 => (if 0 ≤ t230 then (if t230 ≤ (x22.size : Int) then (if (x22.extract 0 (t230 : Int).toNat).size + x6.size ≤ 9223372036854775807 then (if 0 ≤ (mn (wrap64 (t230 + (x6.size : Int))) (x22.size : Int)) then (if (mn (wrap64 (t230 + (x6.size : Int))) (x22.size : Int)) ≤ (x22.size : Int) then (if ((x22.extract 0 (t230 : Int).toNat) ++ x6).size + (x22.extract ((mn (wrap64 (t230 + (x6.size : Int))) (x22.size : Int)) : Int).toNat x22.size).size ≤ 9223372036854775807 then (if ((x22.extract 0 (t230 : Int).toNat) ++ x6).size + (x22.extract (t230 : Int).toNat x22.size).size ≤ 9223372036854775807 then ((some (([x4, x22, x22.extract 0 (t230 : Int).toNat, ((x22.extract 0 (t230 : Int).toNat) ++ x6) ++ (x22.extract ((mn (wrap64 (t230 + (x6.size : Int))) (x22.size : Int)) : Int).toNat x22.size), ((x22.extract 0 (t230 : Int).toNat) ++ x6) ++ (x22.extract (t230 : Int).toNat x22.size)] : List ByteArray) : List ByteArray)).bind fun y231 => (careenlaw06_FrameTells.l2 k x2 x3 x4 x5 x6 x15 x17 x38 x39 x40 y231 (y231.length : Int) 0 x210000 x210001 x210002)) else (none)) else (none)) else (none)) else (none)) else (none)) else (none)) else (none)))
def careenlaw06_FrameTells.l2 : Nat → List (S57) → List ByteArray → ByteArray → Int → ByteArray → Bool → Int → List Int → Int → Int → List ByteArray → Int → Int → Int → Int → ByteArray → Option (Bool)
 | 0, _, _, _, _, _, _, _, _, _, _, _, _, _, _, _, _ => none
 | k + 1, x2, x3, x4, x5, x6, x15, x17, x38, x39, x40, x131, x132, x133, x210000, x210001, x210002 => if x133 < x132 then (if 0 ≤ x133 then (if x133 < (x131.length : Int) then ((frame_Scan.f k x17 (rdOf ByteArray.empty x131 x133)).bind fun bt235 => ((careenref06_Scan.f k x17 (rdOf ByteArray.empty x131 x133)).bind fun bt240 => ((careenref06_Same.f k bt235.1 bt240.1).bind fun t245 => (if t245 = true then (if bt235.2.1 = bt240.2.1 then (if bt235.2.2 = bt240.2.2 then (careenlaw06_FrameTells.l2 k x2 x3 x4 x5 x6 x15 x17 x38 x39 x40 x131 x132 (wrap64 (x133 + 1)) x210000 x210001 x210002) else (some false)) else (some false)) else (some false))))) else (none)) else (none)) else (careenlaw06_FrameTells.l0 k x2 x3 x4 x5 x6 x15 x38 x39 (wrap64 (x40 + 1)) x210000 x210001 x210002)
end
def careenlaw06_FrameTells.f (k : Nat) (a0_0 : Int) (a0_1 : Int) (a0_2 : ByteArray) (a1 : Int) (l2 : List (S57)) (l3 : List ByteArray) (a4 : ByteArray) (a5 : Int) (a6 : ByteArray) : Option (Bool) := (careenlaw06_awake.f k).bind fun t210 => ((some (([a1, 1, 2] : List Int) : List Int)).bind fun y211 => (careenlaw06_FrameTells.l0 k l2 l3 a4 a5 a6 t210 y211 (y211.length : Int) 0 a0_0 a0_1 a0_2))
theorem careenlaw06_FrameTells.mono_l : ∀ k, (∀ y0 y1 y2 y3 y4 y5 y6 y7 y8 y9 y10 y11, LeO (careenlaw06_FrameTells.l0 k y0 y1 y2 y3 y4 y5 y6 y7 y8 y9 y10 y11) (careenlaw06_FrameTells.l0 (k + 1) y0 y1 y2 y3 y4 y5 y6 y7 y8 y9 y10 y11)) ∧ (∀ y0 y1 y2 y3 y4 y5 y6 y7 y8 y9 y10 y11 y12 y13 y14, LeO (careenlaw06_FrameTells.j1 k y0 y1 y2 y3 y4 y5 y6 y7 y8 y9 y10 y11 y12 y13 y14) (careenlaw06_FrameTells.j1 (k + 1) y0 y1 y2 y3 y4 y5 y6 y7 y8 y9 y10 y11 y12 y13 y14)) ∧ (∀ y0 y1 y2 y3 y4 y5 y6 y7 y8 y9 y10 y11 y12 y13 y14 y15 y16, LeO (careenlaw06_FrameTells.l1 k y0 y1 y2 y3 y4 y5 y6 y7 y8 y9 y10 y11 y12 y13 y14 y15 y16) (careenlaw06_FrameTells.l1 (k + 1) y0 y1 y2 y3 y4 y5 y6 y7 y8 y9 y10 y11 y12 y13 y14 y15 y16)) ∧ (∀ y0 y1 y2 y3 y4 y5 y6 y7 y8 y9 y10 y11 y12 y13 y14 y15, LeO (careenlaw06_FrameTells.l2 k y0 y1 y2 y3 y4 y5 y6 y7 y8 y9 y10 y11 y12 y13 y14 y15) (careenlaw06_FrameTells.l2 (k + 1) y0 y1 y2 y3 y4 y5 y6 y7 y8 y9 y10 y11 y12 y13 y14 y15))
 | 0 => ⟨(fun _ _ _ _ _ _ _ _ _ _ _ _ r h => by cases (show (none : Option _) = some r from h)), (fun _ _ _ _ _ _ _ _ _ _ _ _ _ _ _ r h => by cases (show (none : Option _) = some r from h)), (fun _ _ _ _ _ _ _ _ _ _ _ _ _ _ _ _ _ r h => by cases (show (none : Option _) = some r from h)), (fun _ _ _ _ _ _ _ _ _ _ _ _ _ _ _ _ r h => by cases (show (none : Option _) = some r from h))⟩
 | k + 1 => by
  obtain ⟨ih0, ih1, ih2, ih3⟩ := careenlaw06_FrameTells.mono_l k
  refine ⟨?_, ?_, ?_, ?_⟩
  ·intro y0 y1 y2 y3 y4 y5 y6 y7 y8 y9 y10 y11
   unfold careenlaw06_FrameTells.l0
   repeat' first
   | (with_reducible exact ih0 _ _ _ _ _ _ _ _ _ _ _ _)
   | (with_reducible exact ih1 _ _ _ _ _ _ _ _ _ _ _ _ _ _ _)
   | (with_reducible exact ih2 _ _ _ _ _ _ _ _ _ _ _ _ _ _ _ _ _)
   | (with_reducible exact ih3 _ _ _ _ _ _ _ _ _ _ _ _ _ _ _ _)
   | (with_reducible exact careenlaw06_Frames.mono _ _ _ _)
   | (with_reducible exact careenlaw06_awake.mono _)
   | (with_reducible exact careenref06_Encode.mono _ _ _ _ _)
   | (with_reducible exact careenref06_Same.mono _ _ _)
   | (with_reducible exact careenref06_Scan.mono _ _ _)
   | (with_reducible exact frame_Scan.mono _ _ _)
   | (with_reducible exact LeO.refl _)
   | (with_reducible exact LeO.none _)
   | (with_reducible refine LeO.ite ?_ ?_)
   | (with_reducible refine LeO.bind ?_ (fun _ => ?_))
   | exact ih0 _ _ _ _ _ _ _ _ _ _ _ _
   | exact ih1 _ _ _ _ _ _ _ _ _ _ _ _ _ _ _
   | exact ih2 _ _ _ _ _ _ _ _ _ _ _ _ _ _ _ _ _
   | exact ih3 _ _ _ _ _ _ _ _ _ _ _ _ _ _ _ _
   | exact careenlaw06_Frames.mono _ _ _ _
   | exact careenlaw06_awake.mono _
   | exact careenref06_Encode.mono _ _ _ _ _
   | exact careenref06_Same.mono _ _ _
   | exact careenref06_Scan.mono _ _ _
   | exact frame_Scan.mono _ _ _
   | exact LeO.none _
   | refine LeO.ite ?_ ?_
   | refine LeO.bind ?_ (fun _ => ?_)
  ·intro y0 y1 y2 y3 y4 y5 y6 y7 y8 y9 y10 y11 y12 y13 y14
   unfold careenlaw06_FrameTells.j1
   repeat' first
   | (with_reducible exact ih0 _ _ _ _ _ _ _ _ _ _ _ _)
   | (with_reducible exact ih1 _ _ _ _ _ _ _ _ _ _ _ _ _ _ _)
   | (with_reducible exact ih2 _ _ _ _ _ _ _ _ _ _ _ _ _ _ _ _ _)
   | (with_reducible exact ih3 _ _ _ _ _ _ _ _ _ _ _ _ _ _ _ _)
   | (with_reducible exact careenlaw06_Frames.mono _ _ _ _)
   | (with_reducible exact careenlaw06_awake.mono _)
   | (with_reducible exact careenref06_Encode.mono _ _ _ _ _)
   | (with_reducible exact careenref06_Same.mono _ _ _)
   | (with_reducible exact careenref06_Scan.mono _ _ _)
   | (with_reducible exact frame_Scan.mono _ _ _)
   | (with_reducible exact LeO.refl _)
   | (with_reducible exact LeO.none _)
   | (with_reducible refine LeO.ite ?_ ?_)
   | (with_reducible refine LeO.bind ?_ (fun _ => ?_))
   | exact ih0 _ _ _ _ _ _ _ _ _ _ _ _
   | exact ih1 _ _ _ _ _ _ _ _ _ _ _ _ _ _ _
   | exact ih2 _ _ _ _ _ _ _ _ _ _ _ _ _ _ _ _ _
   | exact ih3 _ _ _ _ _ _ _ _ _ _ _ _ _ _ _ _
   | exact careenlaw06_Frames.mono _ _ _ _
   | exact careenlaw06_awake.mono _
   | exact careenref06_Encode.mono _ _ _ _ _
   | exact careenref06_Same.mono _ _ _
   | exact careenref06_Scan.mono _ _ _
   | exact frame_Scan.mono _ _ _
   | exact LeO.none _
   | refine LeO.ite ?_ ?_
   | refine LeO.bind ?_ (fun _ => ?_)
  ·intro y0 y1 y2 y3 y4 y5 y6 y7 y8 y9 y10 y11 y12 y13 y14 y15 y16
   unfold careenlaw06_FrameTells.l1
   repeat' first
   | (with_reducible exact ih0 _ _ _ _ _ _ _ _ _ _ _ _)
   | (with_reducible exact ih1 _ _ _ _ _ _ _ _ _ _ _ _ _ _ _)
   | (with_reducible exact ih2 _ _ _ _ _ _ _ _ _ _ _ _ _ _ _ _ _)
   | (with_reducible exact ih3 _ _ _ _ _ _ _ _ _ _ _ _ _ _ _ _)
   | (with_reducible exact careenlaw06_Frames.mono _ _ _ _)
   | (with_reducible exact careenlaw06_awake.mono _)
   | (with_reducible exact careenref06_Encode.mono _ _ _ _ _)
   | (with_reducible exact careenref06_Same.mono _ _ _)
   | (with_reducible exact careenref06_Scan.mono _ _ _)
   | (with_reducible exact frame_Scan.mono _ _ _)
   | (with_reducible exact LeO.refl _)
   | (with_reducible exact LeO.none _)
   | (with_reducible refine LeO.ite ?_ ?_)
   | (with_reducible refine LeO.bind ?_ (fun _ => ?_))
   | exact ih0 _ _ _ _ _ _ _ _ _ _ _ _
   | exact ih1 _ _ _ _ _ _ _ _ _ _ _ _ _ _ _
   | exact ih2 _ _ _ _ _ _ _ _ _ _ _ _ _ _ _ _ _
   | exact ih3 _ _ _ _ _ _ _ _ _ _ _ _ _ _ _ _
   | exact careenlaw06_Frames.mono _ _ _ _
   | exact careenlaw06_awake.mono _
   | exact careenref06_Encode.mono _ _ _ _ _
   | exact careenref06_Same.mono _ _ _
   | exact careenref06_Scan.mono _ _ _
   | exact frame_Scan.mono _ _ _
   | exact LeO.none _
   | refine LeO.ite ?_ ?_
   | refine LeO.bind ?_ (fun _ => ?_)
  ·intro y0 y1 y2 y3 y4 y5 y6 y7 y8 y9 y10 y11 y12 y13 y14 y15
   unfold careenlaw06_FrameTells.l2
   repeat' first
   | (with_reducible exact ih0 _ _ _ _ _ _ _ _ _ _ _ _)
   | (with_reducible exact ih1 _ _ _ _ _ _ _ _ _ _ _ _ _ _ _)
   | (with_reducible exact ih2 _ _ _ _ _ _ _ _ _ _ _ _ _ _ _ _ _)
   | (with_reducible exact ih3 _ _ _ _ _ _ _ _ _ _ _ _ _ _ _ _)
   | (with_reducible exact careenlaw06_Frames.mono _ _ _ _)
   | (with_reducible exact careenlaw06_awake.mono _)
   | (with_reducible exact careenref06_Encode.mono _ _ _ _ _)
   | (with_reducible exact careenref06_Same.mono _ _ _)
   | (with_reducible exact careenref06_Scan.mono _ _ _)
   | (with_reducible exact frame_Scan.mono _ _ _)
   | (with_reducible exact LeO.refl _)
   | (with_reducible exact LeO.none _)
   | (with_reducible refine LeO.ite ?_ ?_)
   | (with_reducible refine LeO.bind ?_ (fun _ => ?_))
   | exact ih0 _ _ _ _ _ _ _ _ _ _ _ _
   | exact ih1 _ _ _ _ _ _ _ _ _ _ _ _ _ _ _
   | exact ih2 _ _ _ _ _ _ _ _ _ _ _ _ _ _ _ _ _
   | exact ih3 _ _ _ _ _ _ _ _ _ _ _ _ _ _ _ _
   | exact careenlaw06_Frames.mono _ _ _ _
   | exact careenlaw06_awake.mono _
   | exact careenref06_Encode.mono _ _ _ _ _
   | exact careenref06_Same.mono _ _ _
   | exact careenref06_Scan.mono _ _ _
   | exact frame_Scan.mono _ _ _
   | exact LeO.none _
   | refine LeO.ite ?_ ?_
   | refine LeO.bind ?_ (fun _ => ?_)
theorem careenlaw06_FrameTells.mono : ∀ a0 a1 a2 a3 a4 a5 a6 a7 a8 k, LeO (careenlaw06_FrameTells.f k a0 a1 a2 a3 a4 a5 a6 a7 a8) (careenlaw06_FrameTells.f (k + 1) a0 a1 a2 a3 a4 a5 a6 a7 a8) := by
 intro a0 a1 a2 a3 a4 a5 a6 a7 a8 k
 obtain ⟨ih0, ih1, ih2, ih3⟩ := careenlaw06_FrameTells.mono_l k
 unfold careenlaw06_FrameTells.f
 repeat' first
   | (with_reducible exact ih0 _ _ _ _ _ _ _ _ _ _ _ _)
   | (with_reducible exact ih1 _ _ _ _ _ _ _ _ _ _ _ _ _ _ _)
   | (with_reducible exact ih2 _ _ _ _ _ _ _ _ _ _ _ _ _ _ _ _ _)
   | (with_reducible exact ih3 _ _ _ _ _ _ _ _ _ _ _ _ _ _ _ _)
   | (with_reducible exact careenlaw06_Frames.mono _ _ _ _)
   | (with_reducible exact careenlaw06_awake.mono _)
   | (with_reducible exact careenref06_Encode.mono _ _ _ _ _)
   | (with_reducible exact careenref06_Same.mono _ _ _)
   | (with_reducible exact careenref06_Scan.mono _ _ _)
   | (with_reducible exact frame_Scan.mono _ _ _)
   | (with_reducible exact LeO.refl _)
   | (with_reducible exact LeO.none _)
   | (with_reducible refine LeO.ite ?_ ?_)
   | (with_reducible refine LeO.bind ?_ (fun _ => ?_))
   | exact ih0 _ _ _ _ _ _ _ _ _ _ _ _
   | exact ih1 _ _ _ _ _ _ _ _ _ _ _ _ _ _ _
   | exact ih2 _ _ _ _ _ _ _ _ _ _ _ _ _ _ _ _ _
   | exact ih3 _ _ _ _ _ _ _ _ _ _ _ _ _ _ _ _
   | exact careenlaw06_Frames.mono _ _ _ _
   | exact careenlaw06_awake.mono _
   | exact careenref06_Encode.mono _ _ _ _ _
   | exact careenref06_Same.mono _ _ _
   | exact careenref06_Scan.mono _ _ _
   | exact frame_Scan.mono _ _ _
   | exact LeO.none _
   | refine LeO.ite ?_ ?_
   | refine LeO.bind ?_ (fun _ => ?_)
def careenlaw06_FrameTells.T7 : Bool × List (List Nat × List Nat) := (true, [([], []), ([], []), ([0, 1], [0, 1]), ([2], [2]), ([3], [3]), ([3], [3]), ([4, 5, 3], [3, 4, 5]), ([3, 6], [3, 6]), ([7, 3], [7]), ([8], [8]), ([8], [8]), ([9, 10, 8, 8], [8, 9, 10]), ([8], [8]), ([8], [8]), ([12, 13, 11, 8], [8, 12, 13]), ([11, 14, 8], [8, 11, 14]), ([8, 15], [8, 15])])
def careenlaw06_FrameTells.B7 : List Nat := [0, 0, 3, 7, 15, 15, 63, 127, 255, 511, 511, 2047, 511, 511, 16383, 32767, 65535]
theorem careenlaw06_FrameTells.tab7 : rtab .any (opsOf Try.f3 7) = careenlaw06_FrameTells.T7 := by kernel_rfl
theorem careenlaw06_FrameTells.bits7 : waitsOk careenlaw06_FrameTells.T7.2 careenlaw06_FrameTells.B7 = true := by kernel_rfl
def careenlaw06_FrameTells.T13 : Bool × List (List Nat × List Nat) := (true, [([], []), ([0], [0]), ([1], [1]), ([], []), ([2, 3, 1], [2, 3]), ([4], [4]), ([5], [5]), ([5], [5]), ([6, 4, 0, 1, 2, 3, 4, 5, 6], [6]), ([7, 8, 0, 1, 2, 3, 4, 5, 6, 7, 8], [7])])
def careenlaw06_FrameTells.B13 : List Nat := [0, 1, 3, 0, 15, 31, 63, 63, 127, 511]
theorem careenlaw06_FrameTells.tab13 : rtab .any (opsOf Try.f3 13) = careenlaw06_FrameTells.T13 := by kernel_rfl
theorem careenlaw06_FrameTells.bits13 : waitsOk careenlaw06_FrameTells.T13.2 careenlaw06_FrameTells.B13 = true := by kernel_rfl
def careenlaw06_FrameTells.T17 : Bool × List (List Nat × List Nat) := (true, [([], []), ([], []), ([], []), ([], []), ([2, 3], [2, 3]), ([], []), ([], []), ([5, 6], [5, 6]), ([], []), ([7, 8], [7, 8]), ([], []), ([], []), ([], []), ([12], [12]), ([11, 13], [11, 13]), ([], []), ([15], [15]), ([14, 16], [14, 16]), ([10, 17], [10, 17]), ([9, 18], [9, 18]), ([], []), ([], []), ([20, 21], [20, 21]), ([], []), ([22, 23], [22, 23]), ([], []), ([], []), ([25, 26], [25, 26]), ([24, 27], [24, 27]), ([0, 1, 4, 19, 28], [0, 1, 4, 19, 28]), ([29], [29]), ([], [])])
def careenlaw06_FrameTells.B17 : List Nat := [0, 0, 0, 0, 12, 0, 0, 96, 0, 480, 0, 0, 0, 4096, 14336, 0, 32768, 129024, 261120, 524256, 0, 0, 3145728, 0, 15728640, 0, 0, 100663296, 267386880, 536870911, 1073741823, 0]
theorem careenlaw06_FrameTells.tab17 : rtab .any (opsOf Try.f3 17) = careenlaw06_FrameTells.T17 := by kernel_rfl
theorem careenlaw06_FrameTells.bits17 : waitsOk careenlaw06_FrameTells.T17.2 careenlaw06_FrameTells.B17 = true := by kernel_rfl
set_option maxHeartbeats 8000000 in
set_option maxRecDepth 100000 in
theorem careenlaw06_FrameTells.calls (k : Nat) (a0_0 : Int) (a0_1 : Int) (a0_2 : ByteArray) (a1 : Int) (A2 : Option Addr) (c2 : Nat) (l2 : List (S57)) (A3 : Option Addr) (c3 : Nat) (l3 : List ByteArray) (a4 : ByteArray) (a5 : Int) (a6 : ByteArray) (w : World) (hr2 : Kd.C k57 w A2 l2.length l2) (hc2 : l2.length ≤ c2) (hr3 : Kd.C Kd.string w A3 l3.length l3) (hc3 : l3.length ≤ c3) (h : careenlaw06_FrameTells.f k a0_0 a0_1 a0_2 a1 l2 l3 a4 a5 a6 = some true) :
  Calls Try.prog 3 #[.agg #[.int .i64 a0_0, .int .i64 a0_1, .string a0_2], .int .i64 a1, .slice A2 l2.length c2, .slice A3 l3.length c3, .string a4, .int .i64 a5, .string a6] w fun e w' => e = .returned (.bool true) ∧ Below w.heap.size w w' := by
 have hu23 := Try.underlying23
 have HR2 := Aside0.mk hr2
 have HC2 := Aside0.mk hc2
 clear hr2 hc2
 have HR3 := Aside0.mk hr3
 have HC3 := Aside0.mk hc3
 clear hr3 hc3
 have HB := Aside0.mk (Below.refl w.heap.size w)
 have H : ((careenlaw06_awake.f k).bind fun t210 => ((some (([a1, 1, 2] : List Int) : List Int)).bind fun y211 => (careenlaw06_FrameTells.l0 k l2 l3 a4 a5 a6 t210 y211 (y211.length : Int) 0 a0_0 a0_1 a0_2))) = some true := h
 clear h
 replace H := Option.bind_eq_some_iff.mp H
 obtain ⟨t210, A80, H⟩ := H
 replace H : ((some (([a1, 1, 2] : List Int) : List Int)).bind fun y211 => (careenlaw06_FrameTells.l0 k l2 l3 a4 a5 a6 t210 y211 (y211.length : Int) 0 a0_0 a0_1 a0_2)) = some true := H
 have A8 := Aside0.mk A80
 clear A80
 obtain ⟨y211, hy211⟩ : ∃ y_ : List Int, y_ = (([a1, 1, 2] : List Int)) := ⟨_, rfl⟩
 replace H : (careenlaw06_FrameTells.l0 k l2 l3 a4 a5 a6 t210 y211 (y211.length : Int) 0 a0_0 a0_1 a0_2) = some true := by first | (rw [hy211]; with_reducible exact H) | (have H2_ := (Option.bind_some _ _).symm.trans H; rw [hy211]; with_reducible exact H2_) | (have H2_ := (Option.bind_some _ _).symm.trans H; with_reducible exact H2_) | with_reducible exact H | (rw [hy211]; exact H) | exact H
 have Ny211 := Aside0.mk hy211
 clear hy211
 have H' := Aside0.mk H
 clear H
 go_enter Try.func3, Try.ntmps3
 go_wp2_with (first | ((with_reducible refine gate_dst (N := 7) rfl ?_); refine box_event ?hg (N := 7) ?hd (cs := #[.int .i64 a0_0, .int .i64 a0_1, .string a0_2]) (t := 23) ?hr ?_; (case hd => rfl); (case hg => rfl); (case hr => first | (go_simp; done) | (go_simp; rfl)); intro gb209 hg w9 hbox hb; have n0_ := Aside0.mk (below_step (by repeat (first | (with_reducible first | exact HB.out | apply below_alloc | apply pw_below_drewN | apply below_drew1) | exact HB.out)) hb); have n1_ := Aside0.mk (hbox); have n2_ := Aside0.mk ((by rw [hg]; exact (below_size (by repeat (first | (with_reducible first | exact HB.out | apply below_alloc | apply pw_below_drewN | apply below_drew1) | exact HB.out))) : w.heap.size ≤ gb209)); have n3_ := Aside0.mk ((by rw [hg]; exact (below_size (by repeat (first | (with_reducible first | exact HB.out | apply below_alloc | apply pw_below_drewN | apply below_drew1) | exact HB.out))) : w.heap.size ≤ gb209)); clear HB; have HB := n0_; have BK209 := n1_; have GW209 := n2_; have GE209 := n3_; clear n0_ n1_ n2_ n3_; clear hb hbox hg) | ((with_reducible refine gate_callee (f := 11) rfl ?_); refine goesL_ (some 36) rfl rfl Try.func11 (by kernel_rfl) rfl #[] rfl (by (try simp only [List.map_toArray, List.map_cons, List.map_nil]); first | done | rfl | (simp only [List.length_drop, List.length_take]; rfl)) ?_; (with_reducible refine (careenlaw06_awake.calls k  t210 _ A8.out).mono ?_); rintro e w10 ⟨rfl, hb⟩; refine ⟨_, rfl, ?_⟩; have n0_ := Aside0.mk (blk_below (g := gb209) (o := .cells #[.int .i64 a0_0, .int .i64 a0_1, .string a0_2] 23 (0, 0)) (by (with_reducible repeat (first | refine blk_drewN ?_ _ | refine blk_drew ?_ | refine blk_alloc ?_ _)); exact BK209.out) hb); have n1_ := Aside0.mk (below_step (by repeat (first | (with_reducible first | exact HB.out | apply below_alloc | apply pw_below_drewN | apply below_drew1 | refine below_set ?_ GE209.out) | exact HB.out)) hb); clear BK209; clear HB; have BK209 := n0_; have HB := n1_; clear n0_ n1_; (try clear hb); (try clear hb2); (try clear hk); (try clear hi)) | ((with_reducible refine gate_dst (N := 38) rfl ?_); refine Kd.R_lit (Kd.int .i64) _ 3 ?hg (N := 38) ?hd (xs := ([a1, 1, 2] : List Int)) (inner := [.int .i64 a1, .int .i64 1, .int .i64 2]) (ok := fun _ => True) (okp := fun _ => True) ?hr ?hp (fun _ hk => hk) trivial (Below.refl _ _) (Nat.le_refl _) (by simp) ?_; (case hd => rfl); (case hg => rfl); (case hr => first | (go_simp; done) | (go_simp; rfl)); (case hp => exact (Reps.one (show Kd.M (Kd.int .i64) _ _ _ a1 [.int .i64 a1] from rfl) (Reps.one (show Kd.M (Kd.int .i64) _ _ _ 1 [.int .i64 1] from rfl) (Reps.one (show Kd.M (Kd.int .i64) _ _ _ 2 [.int .i64 2] from rfl) (Reps.none _ _))))); intro v212 w11 ho12 hb hg_ hnew_; clear hg_ hnew_; (first | rw [← Ny211.out] at ho12 | (simp only [Int.reduceToNat] at ho12; rw [← Ny211.out] at ho12)); have n0_ := Aside0.mk (Kd.R_lower ho12 (below_size (by repeat (first | (with_reducible first | exact HB.out | apply below_alloc | apply pw_below_drewN | apply below_drew1 | refine below_set ?_ GE209.out) | exact HB.out)))); have n1_ := Aside0.mk (blk_below (g := gb209) (o := .cells #[.int .i64 a0_0, .int .i64 a0_1, .string a0_2] 23 (0, 0)) (by (with_reducible repeat (first | refine blk_drewN ?_ _ | refine blk_drew ?_ | refine blk_alloc ?_ _)); exact BK209.out) hb); have n2_ := Aside0.mk (below_step (by repeat (first | (with_reducible first | exact HB.out | apply below_alloc | apply pw_below_drewN | apply below_drew1 | refine below_set ?_ GE209.out) | exact HB.out)) hb); clear BK209; clear HB; have HO213 := n0_; have BK209 := n1_; have HB := n2_; clear n0_ n1_ n2_; clear hb ho12; obtain ⟨Ao13, co13, eo13⟩ := Kd.R_slice HO213.out; subst eo13))
 go_loopg [40] k (fun kq v40 w' => ∃ (x40_1 : Int), v40 = .int .i64 x40_1 ∧ Aside0 (careenlaw06_FrameTells.l0 kq l2 l3 a4 a5 a6 t210 y211 (y211.length : Int) x40_1 a0_0 a0_1 a0_2 = some true) ∧ Aside0 (kq ≤ k) ∧ Aside0 (Kd.R (Kd.int .i64) 3 w' w.heap.size (fun _ => True) (.slice Ao13 y211.length co13) y211) ∧ Aside0 (w'.heap[gb209]? = some (.cells #[.int .i64 a0_0, .int .i64 a0_1, .string a0_2] 23 (0, 0))) ∧ Aside0 (Below w.heap.size w w'))
 case atStart => exact ⟨(0), (by first | rfl | (simp; done) | (simp [*]; done)), H', ⟨Nat.le_refl _⟩, ⟨by (with_reducible repeat (first | apply Kd.R_alloc | apply Kd.R_drewN | apply Kd.R_drew)); exact HO213.out⟩, ⟨by (with_reducible repeat (first | refine blk_drewN ?_ _ | refine blk_drew ?_ | refine blk_alloc ?_ _)); exact BK209.out⟩, ⟨by repeat (first | (with_reducible first | exact HB.out | apply below_alloc | apply pw_below_drewN | apply below_drew1 | refine below_set ?_ GE209.out) | exact HB.out)⟩⟩
 case round =>
  clear H'
  try clear c1
  try clear c2
  try clear p2
  try clear c3
  try clear c11
  obtain ⟨x40_1, rfl, HA, HK1, HO_38, BK209, HB⟩ := hrel
  cases gk with
  | zero => cases (show (none : Option _) = some _ from HA.out)
  | succ k1 =>
   have H := HA.out
   clear HA
   simp only [careenlaw06_FrameTells.l0] at H
   by_cases c14 : x40_1 < (y211.length : Int)
   ·rw [if_pos c14] at H
    have c14b0 : decide (x40_1 < (y211.length : Int)) = true := decide_eq_true c14
    clear c14
    by_cases c15 : 0 ≤ x40_1
    ·rw [if_pos c15] at H
     have c15b0 : decide (0 ≤ x40_1) = true := decide_eq_true c15
     clear c15
     by_cases c16 : x40_1 < (y211.length : Int)
     ·rw [if_pos c16] at H
      have c16b0 : decide (x40_1 < (y211.length : Int)) = true := decide_eq_true c16
      clear c16
      replace H := Option.bind_eq_some_iff.mp H
      obtain ⟨⟨t215, t216⟩, A170, H⟩ := H
      replace H : ((careenref06_Encode.f k1 (rd y211 x40_1) a0_0 a0_1 a0_2).bind fun bt217 => (if t215.toList = bt217.1.toList then (if t216 = bt217.2 then ((frame_Right.f (rd y211 x40_1) a0_0 a0_1 a0_2).bind fun t219 => ((careenref06_Right.f (rd y211 x40_1) a0_0 a0_1 a0_2).bind fun t220 => (careenlaw06_FrameTells.j1 k1 l2 l3 a4 a5 a6 t210 (rd y211 x40_1) bt217.1 y211 (y211.length : Int) x40_1 (t219 != t220) a0_0 a0_1 a0_2))) else (careenlaw06_FrameTells.j1 k1 l2 l3 a4 a5 a6 t210 (rd y211 x40_1) bt217.1 y211 (y211.length : Int) x40_1 true a0_0 a0_1 a0_2)) else (careenlaw06_FrameTells.j1 k1 l2 l3 a4 a5 a6 t210 (rd y211 x40_1) bt217.1 y211 (y211.length : Int) x40_1 true a0_0 a0_1 a0_2))) = some true := H
      have A17 := Aside0.mk A170
      clear A170
      replace H := Option.bind_eq_some_iff.mp H
      obtain ⟨⟨t217, t218⟩, A180, H⟩ := H
      replace H : (if t215.toList = t217.toList then (if t216 = t218 then ((frame_Right.f (rd y211 x40_1) a0_0 a0_1 a0_2).bind fun t219 => ((careenref06_Right.f (rd y211 x40_1) a0_0 a0_1 a0_2).bind fun t220 => (careenlaw06_FrameTells.j1 k1 l2 l3 a4 a5 a6 t210 (rd y211 x40_1) t217 y211 (y211.length : Int) x40_1 (t219 != t220) a0_0 a0_1 a0_2))) else (careenlaw06_FrameTells.j1 k1 l2 l3 a4 a5 a6 t210 (rd y211 x40_1) t217 y211 (y211.length : Int) x40_1 true a0_0 a0_1 a0_2)) else (careenlaw06_FrameTells.j1 k1 l2 l3 a4 a5 a6 t210 (rd y211 x40_1) t217 y211 (y211.length : Int) x40_1 true a0_0 a0_1 a0_2)) = some true := H
      have A18 := Aside0.mk A180
      clear A180
      have HC19 := Aside0.mk H
      clear H
      have p214 : 0 ≤ (x40_1 : Int) := of_decide_eq_true (by first | (with_reducible assumption) | assumption)
      have q214 : x40_1 < (y211.length : Int) := of_decide_eq_true (by first | (with_reducible assumption) | assumption)
      obtain ⟨ad214, e214, hx214_0⟩ := Kd.at_int (Kd.R_reads' HO_38.out).2.2 x40_1 p214 q214
      cases e214
      replace p214 := eq_true p214
      replace q214 := eq_true q214
      have hcz20_0 : wr.cell? ⟨gb209, 0, none⟩ = some (.int .i64 a0_0) := (blk_cell BK209.out 0).trans rfl
      have hcz20_1 : wr.cell? ⟨gb209, 1, none⟩ = some (.int .i64 a0_1) := (blk_cell BK209.out 1).trans rfl
      have hcz20_2 : wr.cell? ⟨gb209, 2, none⟩ = some (.string a0_2) := (blk_cell BK209.out 2).trans rfl
      have hfz20_0 := blk_frozen BK209.out 0
      have hfz20_1 := blk_frozen BK209.out 1
      have hfz20_2 := blk_frozen BK209.out 2
      go_upto_region 7 with (first | ((with_reducible refine gate_callee (f := 12) rfl ?_); refine goesL_ (some 47) rfl rfl Try.func12 (by kernel_rfl) rfl #[.int .i64 (rd y211 x40_1), .agg #[.int .i64 a0_0, .int .i64 a0_1, .string a0_2]] rfl (by (try simp only [List.map_toArray, List.map_cons, List.map_nil]); first | done | rfl | (simp only [List.length_drop, List.length_take]; rfl)) ?_; (with_reducible refine (frame_Encode.calls (rd y211 x40_1) a0_0 a0_1 a0_2 t215 t216 _ A17.out).mono ?_); rintro e w21 ⟨rfl, hb⟩; refine ⟨_, rfl, ?_⟩; have n0_ := Aside0.mk (Kd.R_below (by (with_reducible repeat (first | apply Kd.R_alloc | apply Kd.R_drewN | apply Kd.R_drew)); exact HO_38.out) hb); have n1_ := Aside0.mk (blk_below (g := gb209) (o := .cells #[.int .i64 a0_0, .int .i64 a0_1, .string a0_2] 23 (0, 0)) (by (with_reducible repeat (first | refine blk_drewN ?_ _ | refine blk_drew ?_ | refine blk_alloc ?_ _)); exact BK209.out) hb); have n2_ := Aside0.mk (below_step (by repeat (first | (with_reducible first | exact HB.out | apply below_alloc | apply pw_below_drewN | apply below_drew1 | refine below_set ?_ GE209.out) | exact HB.out)) hb); clear HO_38; clear BK209; clear HB; have HO_38 := n0_; have BK209 := n1_; have HB := n2_; clear n0_ n1_ n2_; (try clear hb); (try clear hb2); (try clear hk); (try clear hi); have hcz22_0 : w21.cell? ⟨gb209, 0, none⟩ = some (.int .i64 a0_0) := (blk_cell BK209.out 0).trans rfl; have hcz22_1 : w21.cell? ⟨gb209, 1, none⟩ = some (.int .i64 a0_1) := (blk_cell BK209.out 1).trans rfl; have hcz22_2 : w21.cell? ⟨gb209, 2, none⟩ = some (.string a0_2) := (blk_cell BK209.out 2).trans rfl; have hfz22_0 := blk_frozen BK209.out 0; have hfz22_1 := blk_frozen BK209.out 1; have hfz22_2 := blk_frozen BK209.out 2) | ((with_reducible refine gate_callee (f := 13) rfl ?_); refine goesL_ (some 53) rfl rfl Try.func13 (by kernel_rfl) rfl #[.int .i64 (rd y211 x40_1), .agg #[.int .i64 a0_0, .int .i64 a0_1, .string a0_2]] rfl (by (try simp only [List.map_toArray, List.map_cons, List.map_nil]); first | done | rfl | (simp only [List.length_drop, List.length_take]; rfl)) ?_; (with_reducible refine (careenref06_Encode.calls k1 (rd y211 x40_1) a0_0 a0_1 a0_2 t217 t218 _ A18.out).mono ?_); rintro e w23 ⟨rfl, hb⟩; refine ⟨_, rfl, ?_⟩; have n0_ := Aside0.mk (Kd.R_below (by (with_reducible repeat (first | apply Kd.R_alloc | apply Kd.R_drewN | apply Kd.R_drew)); exact HO_38.out) hb); have n1_ := Aside0.mk (blk_below (g := gb209) (o := .cells #[.int .i64 a0_0, .int .i64 a0_1, .string a0_2] 23 (0, 0)) (by (with_reducible repeat (first | refine blk_drewN ?_ _ | refine blk_drew ?_ | refine blk_alloc ?_ _)); exact BK209.out) hb); have n2_ := Aside0.mk (below_step (by repeat (first | (with_reducible first | exact HB.out | apply below_alloc | apply pw_below_drewN | apply below_drew1 | refine below_set ?_ GE209.out) | exact HB.out)) hb); clear HO_38; clear BK209; clear HB; have HO_38 := n0_; have BK209 := n1_; have HB := n2_; clear n0_ n1_ n2_; (try clear hb); (try clear hb2); (try clear hk); (try clear hi)))
      (try simp only [Act.put, Hand.z1, Hand.z2, Hand.z3])
      go_cut [72] (fun v72 wc => ∃ (kq : Nat) (x72_18 : Bool), v72 = .bool x72_18 ∧ Aside0 (careenlaw06_FrameTells.j1 kq l2 l3 a4 a5 a6 t210 (rd y211 x40_1) t217 y211 (y211.length : Int) x40_1 x72_18 a0_0 a0_1 a0_2 = some true) ∧ Aside0 (kq ≤ k1) ∧ Aside0 (Kd.R (Kd.int .i64) 3 wc w.heap.size (fun _ => True) (.slice (some ad214) y211.length co13) y211) ∧ Aside0 (wc.heap[gb209]? = some (.cells #[.int .i64 a0_0, .int .i64 a0_1, .string a0_2] 23 (0, 0))) ∧ Aside0 (Below w.heap.size w wc))
      case first =>
       have H := HC19.out
       clear HC19
       by_cases c24 : t215.toList = t217.toList
       ·rw [if_pos c24] at H
        have c24b0 : (t215.toList == t217.toList) = true := beq_iff_eq.mpr c24
        have c24b1 : (t215.toList != t217.toList) = false := bne_eq_false_iff_eq.mpr c24
        clear c24
        (first | rw [c24b0] | (simp only [i64_w, i32_w]; rw [c24b0]) | skip)
        by_cases c25 : t216 = t218
        ·rw [if_pos c25] at H
         have c25b0 : (t216 == t218) = true := beq_iff_eq.mpr c25
         have c25b1 : (t216 != t218) = false := bne_eq_false_iff_eq.mpr c25
         clear c25
         replace H := Option.bind_eq_some_iff.mp H
         obtain ⟨t219, A260, H⟩ := H
         replace H : ((careenref06_Right.f (rd y211 x40_1) a0_0 a0_1 a0_2).bind fun t220 => (careenlaw06_FrameTells.j1 k1 l2 l3 a4 a5 a6 t210 (rd y211 x40_1) t217 y211 (y211.length : Int) x40_1 (t219 != t220) a0_0 a0_1 a0_2)) = some true := H
         have A26 := Aside0.mk A260
         clear A260
         replace H := Option.bind_eq_some_iff.mp H
         obtain ⟨t220, A270, H⟩ := H
         replace H : (careenlaw06_FrameTells.j1 k1 l2 l3 a4 a5 a6 t210 (rd y211 x40_1) t217 y211 (y211.length : Int) x40_1 (t219 != t220) a0_0 a0_1 a0_2) = some true := H
         have A27 := Aside0.mk A270
         clear A270
         have H' := Aside0.mk H
         clear H
         try go_wp2
         have n0_ := Aside0.mk (Kd.R_drew HO_38.out)
         have n1_ := Aside0.mk (blk_drew BK209.out)
         have n2_ := Aside0.mk (below_drew1 HB.out)
         clear HO_38
         clear BK209
         clear HB
         have HO_38 := n0_
         have BK209 := n1_
         have HB := n2_
         clear n0_ n1_ n2_
         refine start_ (n := 17) (S := fun w' => w'.cell? ⟨gb209, 0, none⟩ = some (.int .i64 a0_0) ∧ w'.cell? ⟨gb209, 1, none⟩ = some (.int .i64 a0_1) ∧ w'.cell? ⟨gb209, 2, none⟩ = some (.string a0_2)) (ds := []) #[false, false, false, false, false, false, false, false, false, false, false, false, false, false, false, false, false] (by kernel_rfl) rfl rfl ⟨(blk_cell BK209.out 0).trans rfl, (blk_cell BK209.out 1).trans rfl, (blk_cell BK209.out 2).trans rfl⟩ (fun hHeld => ?_); refine with_tabW careenlaw06_FrameTells.tab7 careenlaw06_FrameTells.bits7 (fun HT_ HW_ => ?_)
         generalize w23.drew = w28 at HO_38 BK209 HB hHeld ⊢
         refine pure_ (i := 0) (N := some 56) (v := ?_) (a' := ?_) #[true, false, false, false, false, false, false, false, false, false, false, false, false, false, false, false, false] rfl rfl (any_of HT_.out (by kernel_rfl)) (fun _ _ _ h => h) (Or.inl ⟨by rfl, ?_⟩) ?_ ?_
         rotate_left
         ·intro w'
          go_simp
          with_reducible rfl
         rotate_left
         ·simp only [Act.put, Hand.z1, Hand.z2, Hand.z3, i64_w, i32_w]
          rfl
         refine pure_ (i := 1) (N := some 57) (v := ?_) (a' := ?_) #[true, true, false, false, false, false, false, false, false, false, false, false, false, false, false, false, false] rfl rfl (any_of HT_.out (by kernel_rfl)) (fun _ _ _ h => h) (Or.inl ⟨by rfl, ?_⟩) ?_ ?_
         rotate_left
         ·intro w'
          go_simp
          with_reducible rfl
         rotate_left
         ·simp only [Act.put, Hand.z1, Hand.z2, Hand.z3, i64_w, i32_w]
          rfl
         refine pure_ (i := 2) (N := some 58) (v := ?_) (a' := ?_) #[true, true, true, false, false, false, false, false, false, false, false, false, false, false, false, false, false] rfl rfl (any_of HT_.out (by kernel_rfl)) (fun _ _ _ h => h) (Or.inl ⟨by rfl, ?_⟩) ?_ ?_
         rotate_left
         ·intro w'
          go_simp
          with_reducible rfl
         rotate_left
         ·simp only [Act.put, Hand.z1, Hand.z2, Hand.z3, i64_w, i32_w]
          rfl
         refine pure_ (i := 3) (N := some 59) (v := ?_) (a' := ?_) #[true, true, true, true, false, false, false, false, false, false, false, false, false, false, false, false, false] rfl rfl (any_of HT_.out (by kernel_rfl)) (fun _ _ _ h => h) (Or.inl ⟨by rfl, ?_⟩) ?_ ?_
         rotate_left
         ·intro w'
          go_simp
          with_reducible rfl
         rotate_left
         ·simp only [Act.put, Hand.z1, Hand.z2, Hand.z3, i64_w, i32_w]
          rfl
         refine pure_ (i := 4) (N := some 60) (v := ?_) (a' := ?_) #[true, true, true, true, true, false, false, false, false, false, false, false, false, false, false, false, false] rfl rfl (any_of HT_.out (by kernel_rfl)) (fun _ _ _ h => h) (Or.inl ⟨by rfl, ?_⟩) ?_ ?_
         rotate_left
         ·intro w'
          go_simp
          with_reducible rfl
         rotate_left
         ·simp only [Act.put, Hand.z1, Hand.z2, Hand.z3, i64_w, i32_w]
          rfl
         refine pure_ (i := 5) (N := some 61) (v := ?_) (a' := ?_) #[true, true, true, true, true, true, false, false, false, false, false, false, false, false, false, false, false] rfl rfl (any_of HT_.out (by kernel_rfl)) (fun _ _ _ h => h) (Or.inl ⟨by rfl, ?_⟩) ?_ ?_
         rotate_left
         ·intro w'
          go_simp
          with_reducible rfl
         rotate_left
         ·simp only [Act.put, Hand.z1, Hand.z2, Hand.z3, i64_w, i32_w]
          rfl
         refine pure_ (i := 6) (N := some 62) (v := ?_) (a' := ?_) #[true, true, true, true, true, true, true, false, false, false, false, false, false, false, false, false, false] rfl rfl (any_of HT_.out (by kernel_rfl)) (fun _ _ _ h => h) (Or.inl ⟨by rfl, ?_⟩) ?_ ?_
         rotate_left
         ·intro w'
          go_simp
          with_reducible rfl
         rotate_left
         ·simp only [Act.put, Hand.z1, Hand.z2, Hand.z3, i64_w, i32_w]
          rfl
         refine pure_ (i := 7) (N := some 63) (v := ?_) (a' := ?_) #[true, true, true, true, true, true, true, true, false, false, false, false, false, false, false, false, false] rfl rfl (any_of HT_.out (by kernel_rfl)) (fun _ _ _ h => h) (Or.inl ⟨by rfl, ?_⟩) ?_ ?_
         rotate_left
         ·intro w'
          go_simp
          with_reducible rfl
         rotate_left
         ·simp only [Act.put, Hand.z1, Hand.z2, Hand.z3, i64_w, i32_w]
          rfl
         refine pure_ (i := 8) (N := some 64) (v := ?_) (a' := ?_) #[true, true, true, true, true, true, true, true, true, false, false, false, false, false, false, false, false] rfl rfl (any_of HT_.out (by kernel_rfl)) (fun _ _ _ h => h) (Or.inl ⟨by rfl, ?_⟩) ?_ ?_
         rotate_left
         ·intro w'
          go_simp
          with_reducible rfl
         rotate_left
         ·simp only [Act.put, Hand.z1, Hand.z2, Hand.z3, i64_w, i32_w]
          rfl
         refine pure_ (i := 9) (N := some 65) (v := ?_) (a' := ?_) #[true, true, true, true, true, true, true, true, true, true, false, false, false, false, false, false, false] rfl rfl (any_of HT_.out (by kernel_rfl)) (fun _ _ _ h => h) (Or.inl ⟨by rfl, ?_⟩) ?_ ?_
         rotate_left
         ·intro w'
          go_simp
          with_reducible rfl
         rotate_left
         ·simp only [Act.put, Hand.z1, Hand.z2, Hand.z3, i64_w, i32_w]
          rfl
         refine pure_ (i := 12) (N := some 68) (v := ?_) (a' := ?_) #[true, true, true, true, true, true, true, true, true, true, false, false, true, false, false, false, false] rfl rfl (any_of HT_.out (by kernel_rfl)) (fun _ _ _ h => h) (Or.inl ⟨by rfl, ?_⟩) ?_ ?_
         rotate_left
         ·intro w'
          go_simp
          with_reducible rfl
         rotate_left
         ·simp only [Act.put, Hand.z1, Hand.z2, Hand.z3, i64_w, i32_w]
          rfl
         refine take_ (i := 10) (N := some 66) (v := ?_) (a' := ?_) #[true, true, true, true, true, true, true, true, true, true, true, false, true, false, false, false, false] rfl rfl (take_ofW HT_.out HW_.out (by kernel_rfl)) (fun _ _ _ h => h) (Or.inl ⟨by rfl, ?_⟩) hHeld ?_ ?_
         rotate_left
         ·rintro w' ⟨s0, s1, s2⟩
          go_simp
          with_reducible rfl
         rotate_left
         ·simp only [Act.put, Hand.z1, Hand.z2, Hand.z3, i64_w, i32_w]
          rfl
         refine take_ (i := 13) (N := some 69) (v := ?_) (a' := ?_) #[true, true, true, true, true, true, true, true, true, true, true, false, true, true, false, false, false] rfl rfl (take_ofW HT_.out HW_.out (by kernel_rfl)) (fun _ _ _ h => h) (Or.inl ⟨by rfl, ?_⟩) hHeld ?_ ?_
         rotate_left
         ·rintro w' ⟨s0, s1, s2⟩
          go_simp
          with_reducible rfl
         rotate_left
         ·simp only [Act.put, Hand.z1, Hand.z2, Hand.z3, i64_w, i32_w]
          rfl
         refine one_ (i := 11) (N := some 67) #[true, true, true, true, true, true, true, true, true, true, true, true, true, true, false, false, false] rfl rfl (one_of HT_.out (by kernel_rfl)) (by decide) (fun K hK => ?_)
         refine goes_ Try.func14 (by kernel_rfl) rfl #[.int .i64 (rd y211 x40_1), .agg #[.int .i64 a0_0, .int .i64 a0_1, .string a0_2]] (by rfl) rfl rfl (by (try simp only [List.map_toArray, List.map_cons, List.map_nil]); first | done | rfl | (simp only [List.length_drop, List.length_take]; rfl)) ?_
         with_reducible refine (frame_Right.calls (rd y211 x40_1) a0_0 a0_1 a0_2 t219 _ A26.out).mono ?_
         rintro e w29 ⟨rfl, hb⟩
         refine ⟨_, rfl, ?_⟩
         have n0_ := Aside0.mk (Kd.R_below (by (with_reducible repeat (first | apply Kd.R_alloc | apply Kd.R_drewN | apply Kd.R_drew)); exact HO_38.out) hb)
         have n1_ := Aside0.mk (blk_below (g := gb209) (o := .cells #[.int .i64 a0_0, .int .i64 a0_1, .string a0_2] 23 (0, 0)) (by (with_reducible repeat (first | refine blk_drewN ?_ _ | refine blk_drew ?_ | refine blk_alloc ?_ _)); exact BK209.out) hb)
         have n2_ := Aside0.mk (below_step (by repeat (first | (with_reducible first | exact HB.out | apply below_alloc | apply pw_below_drewN | apply below_drew1 | refine below_set ?_ GE209.out) | exact HB.out)) hb)
         clear HO_38
         clear BK209
         clear HB
         have HO_38 := n0_
         have BK209 := n1_
         have HB := n2_
         clear n0_ n1_ n2_
         (try clear hb)
         (try clear hb2)
         (try clear hk)
         (try clear hi)
         refine hK.out _ _ ⟨(blk_cell BK209.out 0).trans rfl, (blk_cell BK209.out 1).trans rfl, (blk_cell BK209.out 2).trans rfl⟩ (fun hHeld => ?_)
         clear hK K
         refine norm_ (a' := ?_) ?_ ?_
         rotate_left
         ·show Act.put _ (some 67) _ = _
          simp only [Act.put, Hand.z1, Hand.z2, Hand.z3, i64_w, i32_w]
          rfl
         refine one_ (i := 14) (N := some 70) #[true, true, true, true, true, true, true, true, true, true, true, true, true, true, true, false, false] rfl rfl (one_of HT_.out (by kernel_rfl)) (by decide) (fun K hK => ?_)
         refine goes_ Try.func15 (by kernel_rfl) rfl #[.int .i64 (rd y211 x40_1), .agg #[.int .i64 a0_0, .int .i64 a0_1, .string a0_2]] (by rfl) rfl rfl (by (try simp only [List.map_toArray, List.map_cons, List.map_nil]); first | done | rfl | (simp only [List.length_drop, List.length_take]; rfl)) ?_
         with_reducible refine (careenref06_Right.calls (rd y211 x40_1) a0_0 a0_1 a0_2 t220 _ A27.out).mono ?_
         rintro e w30 ⟨rfl, hb⟩
         refine ⟨_, rfl, ?_⟩
         have n0_ := Aside0.mk (Kd.R_below (by (with_reducible repeat (first | apply Kd.R_alloc | apply Kd.R_drewN | apply Kd.R_drew)); exact HO_38.out) hb)
         have n1_ := Aside0.mk (blk_below (g := gb209) (o := .cells #[.int .i64 a0_0, .int .i64 a0_1, .string a0_2] 23 (0, 0)) (by (with_reducible repeat (first | refine blk_drewN ?_ _ | refine blk_drew ?_ | refine blk_alloc ?_ _)); exact BK209.out) hb)
         have n2_ := Aside0.mk (below_step (by repeat (first | (with_reducible first | exact HB.out | apply below_alloc | apply pw_below_drewN | apply below_drew1 | refine below_set ?_ GE209.out) | exact HB.out)) hb)
         clear HO_38
         clear BK209
         clear HB
         have HO_38 := n0_
         have BK209 := n1_
         have HB := n2_
         clear n0_ n1_ n2_
         (try clear hb)
         (try clear hb2)
         (try clear hk)
         (try clear hi)
         refine hK.out _ _ ⟨(blk_cell BK209.out 0).trans rfl, (blk_cell BK209.out 1).trans rfl, (blk_cell BK209.out 2).trans rfl⟩ (fun hHeld => ?_)
         clear hK K
         refine norm_ (a' := ?_) ?_ ?_
         rotate_left
         ·show Act.put _ (some 70) _ = _
          simp only [Act.put, Hand.z1, Hand.z2, Hand.z3, i64_w, i32_w]
          rfl
         refine pure_ (i := 15) (N := some 71) (v := ?_) (a' := ?_) #[true, true, true, true, true, true, true, true, true, true, true, true, true, true, true, true, false] rfl rfl (any_of HT_.out (by kernel_rfl)) (fun _ _ _ h => h) (Or.inl ⟨by rfl, ?_⟩) ?_ ?_
         rotate_left
         ·intro w'
          go_simp
          with_reducible rfl
         rotate_left
         ·simp only [Act.put, Hand.z1, Hand.z2, Hand.z3, i64_w, i32_w]
          rfl
         refine pure_ (i := 16) (N := some 72) (v := ?_) (a' := ?_) #[true, true, true, true, true, true, true, true, true, true, true, true, true, true, true, true, true] rfl rfl (any_of HT_.out (by kernel_rfl)) (fun _ _ _ h => h) (Or.inl ⟨by rfl, ?_⟩) ?_ ?_
         rotate_left
         ·intro w'
          go_simp
          with_reducible rfl
         rotate_left
         ·simp only [Act.put, Hand.z1, Hand.z2, Hand.z3, i64_w, i32_w]
          rfl
         refine done_ (done_of HT_.out (by kernel_rfl)) ?_
         try go_wp2
         go_meet
         case rel => exact ⟨_, ((t219 != t220)), (by first | rfl | (simp; done) | (simp [*]; done)), H', ⟨by have := HK1.out; first | omega | exact Nat.le_refl _⟩, ⟨by (with_reducible repeat (first | apply Kd.R_alloc | apply Kd.R_drewN | apply Kd.R_drew)); exact HO_38.out⟩, ⟨by (with_reducible repeat (first | refine blk_drewN ?_ _ | refine blk_drew ?_ | refine blk_alloc ?_ _)); exact BK209.out⟩, ⟨by repeat (first | (with_reducible first | exact HB.out | apply below_alloc | apply pw_below_drewN | apply below_drew1 | refine below_set ?_ GE209.out) | exact HB.out)⟩⟩
        ·rw [if_neg c25] at H
         have c25b0 : (t216 == t218) = false := beq_eq_false_iff_ne.mpr c25
         have c25b1 : (t216 != t218) = true := bne_iff_ne.mpr c25
         have H' := Aside0.mk H
         clear H
         try go_wp2
         have n0_ := Aside0.mk (Kd.R_drew HO_38.out)
         have n1_ := Aside0.mk (blk_drew BK209.out)
         have n2_ := Aside0.mk (below_drew1 HB.out)
         clear HO_38
         clear BK209
         clear HB
         have HO_38 := n0_
         have BK209 := n1_
         have HB := n2_
         clear n0_ n1_ n2_
         refine start_ (n := 17) (S := fun w' => True) (ds := []) #[false, false, false, false, false, false, false, false, false, false, false, false, false, false, false, false, false] (by kernel_rfl) rfl rfl trivial (fun hHeld => ?_); refine with_tabW careenlaw06_FrameTells.tab7 careenlaw06_FrameTells.bits7 (fun HT_ HW_ => ?_)
         generalize w23.drew = w31 at HO_38 BK209 HB hHeld ⊢
         refine pure_ (i := 0) (N := some 56) (v := ?_) (a' := ?_) #[true, false, false, false, false, false, false, false, false, false, false, false, false, false, false, false, false] rfl rfl (any_of HT_.out (by kernel_rfl)) (fun _ _ _ h => h) (Or.inl ⟨by rfl, ?_⟩) ?_ ?_
         rotate_left
         ·intro w'
          go_simp
          with_reducible rfl
         rotate_left
         ·simp only [Act.put, Hand.z1, Hand.z2, Hand.z3, i64_w, i32_w]
          rfl
         refine pure_ (i := 1) (N := some 57) (v := ?_) (a' := ?_) #[true, true, false, false, false, false, false, false, false, false, false, false, false, false, false, false, false] rfl rfl (any_of HT_.out (by kernel_rfl)) (fun _ _ _ h => h) (Or.inl ⟨by rfl, ?_⟩) ?_ ?_
         rotate_left
         ·intro w'
          go_simp
          with_reducible rfl
         rotate_left
         ·simp only [Act.put, Hand.z1, Hand.z2, Hand.z3, i64_w, i32_w]
          rfl
         refine pure_ (i := 2) (N := some 58) (v := ?_) (a' := ?_) #[true, true, true, false, false, false, false, false, false, false, false, false, false, false, false, false, false] rfl rfl (any_of HT_.out (by kernel_rfl)) (fun _ _ _ h => h) (Or.inl ⟨by rfl, ?_⟩) ?_ ?_
         rotate_left
         ·intro w'
          go_simp
          with_reducible rfl
         rotate_left
         ·simp only [Act.put, Hand.z1, Hand.z2, Hand.z3, i64_w, i32_w]
          rfl
         refine pure_ (i := 3) (N := some 59) (v := ?_) (a' := ?_) #[true, true, true, true, false, false, false, false, false, false, false, false, false, false, false, false, false] rfl rfl (any_of HT_.out (by kernel_rfl)) (fun _ _ _ h => h) (Or.inl ⟨by rfl, ?_⟩) ?_ ?_
         rotate_left
         ·intro w'
          go_simp
          with_reducible rfl
         rotate_left
         ·simp only [Act.put, Hand.z1, Hand.z2, Hand.z3, i64_w, i32_w]
          rfl
         refine pure_ (i := 4) (N := some 60) (v := ?_) (a' := ?_) #[true, true, true, true, true, false, false, false, false, false, false, false, false, false, false, false, false] rfl rfl (any_of HT_.out (by kernel_rfl)) (fun _ _ _ h => h) (Or.inl ⟨by rfl, ?_⟩) ?_ ?_
         rotate_left
         ·intro w'
          go_simp
          with_reducible rfl
         rotate_left
         ·simp only [Act.put, Hand.z1, Hand.z2, Hand.z3, i64_w, i32_w]
          rfl
         refine pure_ (i := 5) (N := some 61) (v := ?_) (a' := ?_) #[true, true, true, true, true, true, false, false, false, false, false, false, false, false, false, false, false] rfl rfl (any_of HT_.out (by kernel_rfl)) (fun _ _ _ h => h) (Or.inl ⟨by rfl, ?_⟩) ?_ ?_
         rotate_left
         ·intro w'
          go_simp
          with_reducible rfl
         rotate_left
         ·simp only [Act.put, Hand.z1, Hand.z2, Hand.z3, i64_w, i32_w]
          rfl
         refine pure_ (i := 6) (N := some 62) (v := ?_) (a' := ?_) #[true, true, true, true, true, true, true, false, false, false, false, false, false, false, false, false, false] rfl rfl (any_of HT_.out (by kernel_rfl)) (fun _ _ _ h => h) (Or.inl ⟨by rfl, ?_⟩) ?_ ?_
         rotate_left
         ·intro w'
          go_simp
          with_reducible rfl
         rotate_left
         ·simp only [Act.put, Hand.z1, Hand.z2, Hand.z3, i64_w, i32_w]
          rfl
         refine pure_ (i := 7) (N := some 63) (v := ?_) (a' := ?_) #[true, true, true, true, true, true, true, true, false, false, false, false, false, false, false, false, false] rfl rfl (any_of HT_.out (by kernel_rfl)) (fun _ _ _ h => h) (Or.inl ⟨by rfl, ?_⟩) ?_ ?_
         rotate_left
         ·intro w'
          go_simp
          with_reducible rfl
         rotate_left
         ·simp only [Act.put, Hand.z1, Hand.z2, Hand.z3, i64_w, i32_w]
          rfl
         refine pure_ (i := 8) (N := some 64) (v := ?_) (a' := ?_) #[true, true, true, true, true, true, true, true, true, false, false, false, false, false, false, false, false] rfl rfl (any_of HT_.out (by kernel_rfl)) (fun _ _ _ h => h) (Or.inl ⟨by rfl, ?_⟩) ?_ ?_
         rotate_left
         ·intro w'
          go_simp
          with_reducible rfl
         rotate_left
         ·simp only [Act.put, Hand.z1, Hand.z2, Hand.z3, i64_w, i32_w]
          rfl
         refine pure_ (i := 9) (N := some 65) (v := undef) (a' := ?_) #[true, true, true, true, true, true, true, true, true, true, false, false, false, false, false, false, false] rfl rfl (any_of HT_.out (by kernel_rfl)) (fun _ _ _ h => h) (Or.inr ⟨by rfl, rfl⟩) ?_ ?_
         rotate_left
         ·simp only [Act.put, Hand.z1, Hand.z2, Hand.z3, i64_w, i32_w]
          rfl
         refine pure_ (i := 10) (N := some 66) (v := undef) (a' := ?_) #[true, true, true, true, true, true, true, true, true, true, true, false, false, false, false, false, false] rfl rfl (any_of HT_.out (by kernel_rfl)) (fun _ _ _ h => h) (Or.inr ⟨by rfl, rfl⟩) ?_ ?_
         rotate_left
         ·simp only [Act.put, Hand.z1, Hand.z2, Hand.z3, i64_w, i32_w]
          rfl
         refine pure_ (i := 11) (N := some 67) (v := undef) (a' := ?_) #[true, true, true, true, true, true, true, true, true, true, true, true, false, false, false, false, false] rfl rfl (any_of HT_.out (by kernel_rfl)) (fun _ _ _ h => h) (Or.inr ⟨by rfl, rfl⟩) ?_ ?_
         rotate_left
         ·simp only [Act.put, Hand.z1, Hand.z2, Hand.z3, i64_w, i32_w]
          rfl
         refine pure_ (i := 12) (N := some 68) (v := undef) (a' := ?_) #[true, true, true, true, true, true, true, true, true, true, true, true, true, false, false, false, false] rfl rfl (any_of HT_.out (by kernel_rfl)) (fun _ _ _ h => h) (Or.inr ⟨by rfl, rfl⟩) ?_ ?_
         rotate_left
         ·simp only [Act.put, Hand.z1, Hand.z2, Hand.z3, i64_w, i32_w]
          rfl
         refine pure_ (i := 13) (N := some 69) (v := undef) (a' := ?_) #[true, true, true, true, true, true, true, true, true, true, true, true, true, true, false, false, false] rfl rfl (any_of HT_.out (by kernel_rfl)) (fun _ _ _ h => h) (Or.inr ⟨by rfl, rfl⟩) ?_ ?_
         rotate_left
         ·simp only [Act.put, Hand.z1, Hand.z2, Hand.z3, i64_w, i32_w]
          rfl
         refine pure_ (i := 14) (N := some 70) (v := undef) (a' := ?_) #[true, true, true, true, true, true, true, true, true, true, true, true, true, true, true, false, false] rfl rfl (any_of HT_.out (by kernel_rfl)) (fun _ _ _ h => h) (Or.inr ⟨by rfl, rfl⟩) ?_ ?_
         rotate_left
         ·simp only [Act.put, Hand.z1, Hand.z2, Hand.z3, i64_w, i32_w]
          rfl
         refine pure_ (i := 15) (N := some 71) (v := undef) (a' := ?_) #[true, true, true, true, true, true, true, true, true, true, true, true, true, true, true, true, false] rfl rfl (any_of HT_.out (by kernel_rfl)) (fun _ _ _ h => h) (Or.inr ⟨by rfl, rfl⟩) ?_ ?_
         rotate_left
         ·simp only [Act.put, Hand.z1, Hand.z2, Hand.z3, i64_w, i32_w]
          rfl
         refine pure_ (i := 16) (N := some 72) (v := ?_) (a' := ?_) #[true, true, true, true, true, true, true, true, true, true, true, true, true, true, true, true, true] rfl rfl (any_of HT_.out (by kernel_rfl)) (fun _ _ _ h => h) (Or.inl ⟨by rfl, ?_⟩) ?_ ?_
         rotate_left
         ·intro w'
          go_simp
          with_reducible rfl
         rotate_left
         ·simp only [Act.put, Hand.z1, Hand.z2, Hand.z3, i64_w, i32_w]
          rfl
         refine done_ (done_of HT_.out (by kernel_rfl)) ?_
         try go_wp2
         go_meet
         case rel => exact ⟨_, (true), (by first | rfl | (simp; done) | (simp [*]; done)), H', ⟨by have := HK1.out; first | omega | exact Nat.le_refl _⟩, ⟨by (with_reducible repeat (first | apply Kd.R_alloc | apply Kd.R_drewN | apply Kd.R_drew)); exact HO_38.out⟩, ⟨by (with_reducible repeat (first | refine blk_drewN ?_ _ | refine blk_drew ?_ | refine blk_alloc ?_ _)); exact BK209.out⟩, ⟨by repeat (first | (with_reducible first | exact HB.out | apply below_alloc | apply pw_below_drewN | apply below_drew1 | refine below_set ?_ GE209.out) | exact HB.out)⟩⟩
       ·rw [if_neg c24] at H
        have c24b0 : (t215.toList == t217.toList) = false := beq_eq_false_iff_ne.mpr c24
        have c24b1 : (t215.toList != t217.toList) = true := bne_iff_ne.mpr c24
        (first | rw [c24b0] | (simp only [i64_w, i32_w]; rw [c24b0]) | skip)
        have H' := Aside0.mk H
        clear H
        try go_wp2
        have n0_ := Aside0.mk (Kd.R_drew HO_38.out)
        have n1_ := Aside0.mk (blk_drew BK209.out)
        have n2_ := Aside0.mk (below_drew1 HB.out)
        clear HO_38
        clear BK209
        clear HB
        have HO_38 := n0_
        have BK209 := n1_
        have HB := n2_
        clear n0_ n1_ n2_
        refine start_ (n := 17) (S := fun w' => True) (ds := []) #[false, false, false, false, false, false, false, false, false, false, false, false, false, false, false, false, false] (by kernel_rfl) rfl rfl trivial (fun hHeld => ?_); refine with_tabW careenlaw06_FrameTells.tab7 careenlaw06_FrameTells.bits7 (fun HT_ HW_ => ?_)
        generalize w23.drew = w32 at HO_38 BK209 HB hHeld ⊢
        refine pure_ (i := 0) (N := some 56) (v := ?_) (a' := ?_) #[true, false, false, false, false, false, false, false, false, false, false, false, false, false, false, false, false] rfl rfl (any_of HT_.out (by kernel_rfl)) (fun _ _ _ h => h) (Or.inl ⟨by rfl, ?_⟩) ?_ ?_
        rotate_left
        ·intro w'
         go_simp
         with_reducible rfl
        rotate_left
        ·simp only [Act.put, Hand.z1, Hand.z2, Hand.z3, i64_w, i32_w]
         rfl
        refine pure_ (i := 1) (N := some 57) (v := ?_) (a' := ?_) #[true, true, false, false, false, false, false, false, false, false, false, false, false, false, false, false, false] rfl rfl (any_of HT_.out (by kernel_rfl)) (fun _ _ _ h => h) (Or.inl ⟨by rfl, ?_⟩) ?_ ?_
        rotate_left
        ·intro w'
         go_simp
         with_reducible rfl
        rotate_left
        ·simp only [Act.put, Hand.z1, Hand.z2, Hand.z3, i64_w, i32_w]
         rfl
        refine pure_ (i := 2) (N := some 58) (v := ?_) (a' := ?_) #[true, true, true, false, false, false, false, false, false, false, false, false, false, false, false, false, false] rfl rfl (any_of HT_.out (by kernel_rfl)) (fun _ _ _ h => h) (Or.inl ⟨by rfl, ?_⟩) ?_ ?_
        rotate_left
        ·intro w'
         go_simp
         with_reducible rfl
        rotate_left
        ·simp only [Act.put, Hand.z1, Hand.z2, Hand.z3, i64_w, i32_w]
         rfl
        refine pure_ (i := 3) (N := some 59) (v := ?_) (a' := ?_) #[true, true, true, true, false, false, false, false, false, false, false, false, false, false, false, false, false] rfl rfl (any_of HT_.out (by kernel_rfl)) (fun _ _ _ h => h) (Or.inl ⟨by rfl, ?_⟩) ?_ ?_
        rotate_left
        ·intro w'
         go_simp
         with_reducible rfl
        rotate_left
        ·simp only [Act.put, Hand.z1, Hand.z2, Hand.z3, i64_w, i32_w]
         rfl
        refine pure_ (i := 4) (N := some 60) (v := undef) (a' := ?_) #[true, true, true, true, true, false, false, false, false, false, false, false, false, false, false, false, false] rfl rfl (any_of HT_.out (by kernel_rfl)) (fun _ _ _ h => h) (Or.inr ⟨by rfl, rfl⟩) ?_ ?_
        rotate_left
        ·simp only [Act.put, Hand.z1, Hand.z2, Hand.z3, i64_w, i32_w]
         rfl
        refine pure_ (i := 5) (N := some 61) (v := undef) (a' := ?_) #[true, true, true, true, true, true, false, false, false, false, false, false, false, false, false, false, false] rfl rfl (any_of HT_.out (by kernel_rfl)) (fun _ _ _ h => h) (Or.inr ⟨by rfl, rfl⟩) ?_ ?_
        rotate_left
        ·simp only [Act.put, Hand.z1, Hand.z2, Hand.z3, i64_w, i32_w]
         rfl
        refine pure_ (i := 6) (N := some 62) (v := undef) (a' := ?_) #[true, true, true, true, true, true, true, false, false, false, false, false, false, false, false, false, false] rfl rfl (any_of HT_.out (by kernel_rfl)) (fun _ _ _ h => h) (Or.inr ⟨by rfl, rfl⟩) ?_ ?_
        rotate_left
        ·simp only [Act.put, Hand.z1, Hand.z2, Hand.z3, i64_w, i32_w]
         rfl
        refine pure_ (i := 7) (N := some 63) (v := ?_) (a' := ?_) #[true, true, true, true, true, true, true, true, false, false, false, false, false, false, false, false, false] rfl rfl (any_of HT_.out (by kernel_rfl)) (fun _ _ _ h => h) (Or.inl ⟨by rfl, ?_⟩) ?_ ?_
        rotate_left
        ·intro w'
         go_simp
         with_reducible rfl
        rotate_left
        ·simp only [Act.put, Hand.z1, Hand.z2, Hand.z3, i64_w, i32_w]
         rfl
        refine pure_ (i := 8) (N := some 64) (v := ?_) (a' := ?_) #[true, true, true, true, true, true, true, true, true, false, false, false, false, false, false, false, false] rfl rfl (any_of HT_.out (by kernel_rfl)) (fun _ _ _ h => h) (Or.inl ⟨by rfl, ?_⟩) ?_ ?_
        rotate_left
        ·intro w'
         go_simp
         with_reducible rfl
        rotate_left
        ·simp only [Act.put, Hand.z1, Hand.z2, Hand.z3, i64_w, i32_w]
         rfl
        refine pure_ (i := 9) (N := some 65) (v := undef) (a' := ?_) #[true, true, true, true, true, true, true, true, true, true, false, false, false, false, false, false, false] rfl rfl (any_of HT_.out (by kernel_rfl)) (fun _ _ _ h => h) (Or.inr ⟨by rfl, rfl⟩) ?_ ?_
        rotate_left
        ·simp only [Act.put, Hand.z1, Hand.z2, Hand.z3, i64_w, i32_w]
         rfl
        refine pure_ (i := 10) (N := some 66) (v := undef) (a' := ?_) #[true, true, true, true, true, true, true, true, true, true, true, false, false, false, false, false, false] rfl rfl (any_of HT_.out (by kernel_rfl)) (fun _ _ _ h => h) (Or.inr ⟨by rfl, rfl⟩) ?_ ?_
        rotate_left
        ·simp only [Act.put, Hand.z1, Hand.z2, Hand.z3, i64_w, i32_w]
         rfl
        refine pure_ (i := 11) (N := some 67) (v := undef) (a' := ?_) #[true, true, true, true, true, true, true, true, true, true, true, true, false, false, false, false, false] rfl rfl (any_of HT_.out (by kernel_rfl)) (fun _ _ _ h => h) (Or.inr ⟨by rfl, rfl⟩) ?_ ?_
        rotate_left
        ·simp only [Act.put, Hand.z1, Hand.z2, Hand.z3, i64_w, i32_w]
         rfl
        refine pure_ (i := 12) (N := some 68) (v := undef) (a' := ?_) #[true, true, true, true, true, true, true, true, true, true, true, true, true, false, false, false, false] rfl rfl (any_of HT_.out (by kernel_rfl)) (fun _ _ _ h => h) (Or.inr ⟨by rfl, rfl⟩) ?_ ?_
        rotate_left
        ·simp only [Act.put, Hand.z1, Hand.z2, Hand.z3, i64_w, i32_w]
         rfl
        refine pure_ (i := 13) (N := some 69) (v := undef) (a' := ?_) #[true, true, true, true, true, true, true, true, true, true, true, true, true, true, false, false, false] rfl rfl (any_of HT_.out (by kernel_rfl)) (fun _ _ _ h => h) (Or.inr ⟨by rfl, rfl⟩) ?_ ?_
        rotate_left
        ·simp only [Act.put, Hand.z1, Hand.z2, Hand.z3, i64_w, i32_w]
         rfl
        refine pure_ (i := 14) (N := some 70) (v := undef) (a' := ?_) #[true, true, true, true, true, true, true, true, true, true, true, true, true, true, true, false, false] rfl rfl (any_of HT_.out (by kernel_rfl)) (fun _ _ _ h => h) (Or.inr ⟨by rfl, rfl⟩) ?_ ?_
        rotate_left
        ·simp only [Act.put, Hand.z1, Hand.z2, Hand.z3, i64_w, i32_w]
         rfl
        refine pure_ (i := 15) (N := some 71) (v := undef) (a' := ?_) #[true, true, true, true, true, true, true, true, true, true, true, true, true, true, true, true, false] rfl rfl (any_of HT_.out (by kernel_rfl)) (fun _ _ _ h => h) (Or.inr ⟨by rfl, rfl⟩) ?_ ?_
        rotate_left
        ·simp only [Act.put, Hand.z1, Hand.z2, Hand.z3, i64_w, i32_w]
         rfl
        refine pure_ (i := 16) (N := some 72) (v := ?_) (a' := ?_) #[true, true, true, true, true, true, true, true, true, true, true, true, true, true, true, true, true] rfl rfl (any_of HT_.out (by kernel_rfl)) (fun _ _ _ h => h) (Or.inl ⟨by rfl, ?_⟩) ?_ ?_
        rotate_left
        ·intro w'
         go_simp
         with_reducible rfl
        rotate_left
        ·simp only [Act.put, Hand.z1, Hand.z2, Hand.z3, i64_w, i32_w]
         rfl
        refine done_ (done_of HT_.out (by kernel_rfl)) ?_
        try go_wp2
        go_meet
        case rel => exact ⟨_, (true), (by first | rfl | (simp; done) | (simp [*]; done)), H', ⟨by have := HK1.out; first | omega | exact Nat.le_refl _⟩, ⟨by (with_reducible repeat (first | apply Kd.R_alloc | apply Kd.R_drewN | apply Kd.R_drew)); exact HO_38.out⟩, ⟨by (with_reducible repeat (first | refine blk_drewN ?_ _ | refine blk_drew ?_ | refine blk_alloc ?_ _)); exact BK209.out⟩, ⟨by repeat (first | (with_reducible first | exact HB.out | apply below_alloc | apply pw_below_drewN | apply below_drew1 | refine below_set ?_ GE209.out) | exact HB.out)⟩⟩
      case rest =>
       clear HC19
       try clear c1
       try clear c2
       try clear p2
       try clear q2
       try clear hx2
       try clear c3
       try clear c11
       try clear c12
       try clear c13
       try clear c14
       try clear c14b0
       try clear c15
       try clear c15b0
       try clear c16
       try clear c16b0
       try clear p21
       try clear q21
       try clear hx21
       try clear c24
       try clear c24b0
       try clear c24b1
       try clear c25
       try clear c25b0
       try clear c25b1
       try clear hcz20_0
       try clear hcz20_1
       try clear hcz20_2
       try clear hcz22_0
       try clear hcz22_1
       try clear hcz22_2
       try clear hfz20_0
       try clear hfz20_1
       try clear hfz20_2
       try clear hfz22_0
       try clear hfz22_1
       try clear hfz22_2
       try clear hx214_0
       try clear p2
       try clear p214
       try clear q214
       obtain ⟨kq, x72_18, rfl, HA, HJ18, HO_38, BK209, HB⟩ := hcut
       cases kq with
       | zero => cases (show (none : Option _) = some _ from HA.out)
       | succ kj18 =>
        have H := HA.out
        clear HA
        simp only [careenlaw06_FrameTells.j1] at H
        by_cases c33 : x72_18 = true
        ·subst c33
         have H1 : (some false) = some true := by rw [if_pos rfl] at H; exact H
         clear H
         have H := H1
         clear H1
         exact absurd H (by simp)
        ·replace c33 := Bool.eq_false_iff.mpr c33
         subst c33
         have H1 : ((careenlaw06_pick.f (rd y211 x40_1) 2).bind fun t221 => ((careenlaw06_Frames.f kj18 (wrap64 (1 + t221)) l2 l3).bind fun t222 => (careenlaw06_FrameTells.l1 kj18 l2 l3 a4 a5 a6 t210 (rd y211 x40_1) t217 y211 (y211.length : Int) x40_1 t222 (t222.length : Int) 0 a0_0 a0_1 a0_2))) = some true := by rw [if_neg (show ¬ (false = true) by decide)] at H; exact H
         clear H
         have H := H1
         clear H1
         replace H := Option.bind_eq_some_iff.mp H
         obtain ⟨t221, A340, H⟩ := H
         replace H : ((careenlaw06_Frames.f kj18 (wrap64 (1 + t221)) l2 l3).bind fun t222 => (careenlaw06_FrameTells.l1 kj18 l2 l3 a4 a5 a6 t210 (rd y211 x40_1) t217 y211 (y211.length : Int) x40_1 t222 (t222.length : Int) 0 a0_0 a0_1 a0_2)) = some true := H
         have A34 := Aside0.mk A340
         clear A340
         replace H := Option.bind_eq_some_iff.mp H
         obtain ⟨t222, A350, H⟩ := H
         replace H : (careenlaw06_FrameTells.l1 kj18 l2 l3 a4 a5 a6 t210 (rd y211 x40_1) t217 y211 (y211.length : Int) x40_1 t222 (t222.length : Int) 0 a0_0 a0_1 a0_2) = some true := H
         have A35 := Aside0.mk A350
         clear A350
         have H' := Aside0.mk H
         clear H
         go_wp2_with (first | ((with_reducible refine gate_callee (f := 17) rfl ?_); refine goesL_ (some 75) rfl rfl Try.func17 (by kernel_rfl) rfl #[.int .i64 (rd y211 x40_1), .int .i64 2] rfl (by (try simp only [List.map_toArray, List.map_cons, List.map_nil]); first | done | rfl | (simp only [List.length_drop, List.length_take]; rfl)) ?_; (with_reducible refine (careenlaw06_pick.calls (rd y211 x40_1) 2 t221 _ A34.out).mono ?_); rintro e w' ⟨rfl, ⟨nd, rfl⟩⟩; refine ⟨_, rfl, ?_⟩) | ((with_reducible refine gate_callee (f := 16) rfl ?_); refine goesL_ (some 79) rfl rfl Try.func16 (by kernel_rfl) rfl #[.int .i64 (wrap64 (1 + t221)), .slice A2 l2.length c2, .slice A3 l3.length c3] rfl (by (try simp only [List.map_toArray, List.map_cons, List.map_nil]); first | done | rfl | (simp only [List.length_drop, List.length_take]; rfl)) ?_; (with_reducible refine (careenlaw06_Frames.calls kj18 (wrap64 (1 + t221)) _ _ l2 _ _ l3 t222 _ ?side1 ?side2 ?side3 ?side4 A35.out).mono ?_); (case side1 => repeat (first | exact (Kd.C_below HR2.out (by repeat (first | (with_reducible first | exact HB.out | apply below_alloc | apply pw_below_drewN | apply below_drew1 | refine below_set ?_ GE209.out) | exact HB.out))) | (with_reducible refine Kd.C_alloc ?_ _) | (with_reducible refine Kd.C_drewN ?_ _) | (with_reducible refine Kd.C_drew ?_))); (case side2 => exact HC2.out); (case side3 => repeat (first | exact (Kd.C_below HR3.out (by repeat (first | (with_reducible first | exact HB.out | apply below_alloc | apply pw_below_drewN | apply below_drew1 | refine below_set ?_ GE209.out) | exact HB.out))) | (with_reducible refine Kd.C_alloc ?_ _) | (with_reducible refine Kd.C_drewN ?_ _) | (with_reducible refine Kd.C_drew ?_))); (case side4 => exact HC3.out); rintro e w36 ⟨v223, rfl, ho0, hb⟩; refine ⟨_, rfl, ?_⟩; have n0_ := Aside0.mk (Kd.R_below (by (with_reducible repeat (first | apply Kd.R_alloc | apply Kd.R_drewN | apply Kd.R_drew)); exact HO_38.out) hb); have n1_ := Aside0.mk (Kd.R_lower (Kd.R_newB ho0 (g := gb209) (o := .cells #[.int .i64 a0_0, .int .i64 a0_1, .string a0_2] 23 (0, 0)) (by (with_reducible repeat (first | refine blk_drewN ?_ _ | refine blk_drew ?_ | refine blk_alloc ?_ _)); exact BK209.out)) (below_size (by repeat (first | (with_reducible first | exact HB.out | apply below_alloc | apply pw_below_drewN | apply below_drew1 | refine below_set ?_ GE209.out) | exact HB.out)))); have n2_ := Aside0.mk (blk_below (g := gb209) (o := .cells #[.int .i64 a0_0, .int .i64 a0_1, .string a0_2] 23 (0, 0)) (by (with_reducible repeat (first | refine blk_drewN ?_ _ | refine blk_drew ?_ | refine blk_alloc ?_ _)); exact BK209.out) hb); have n3_ := Aside0.mk (below_step (by repeat (first | (with_reducible first | exact HB.out | apply below_alloc | apply pw_below_drewN | apply below_drew1 | refine below_set ?_ GE209.out) | exact HB.out)) hb); clear HO_38; clear BK209; clear HB; have HO_38 := n0_; have HO224 := n1_; have BK209 := n2_; have HB := n3_; clear n0_ n1_ n2_ n3_; (try clear hb); (try clear hb2); (try clear hk); (try clear hi); (try clear ho0); obtain ⟨Ao37, co37, eo37⟩ := Kd.R_slice HO224.out; subst eo37))
         go_loopg [22, 81] kj18 (fun kq v22 v81 w' => ∃ (x22_3 : ByteArray) (x81_3 : Int), v22 = .string x22_3 ∧ v81 = .int .i64 x81_3 ∧ Aside0 (careenlaw06_FrameTells.l1 kq l2 l3 a4 a5 a6 t210 (rd y211 x40_1) x22_3 y211 (y211.length : Int) x40_1 t222 (t222.length : Int) x81_3 a0_0 a0_1 a0_2 = some true) ∧ Aside0 (kq ≤ kj18) ∧ Aside0 (Kd.R (Kd.int .i64) 3 w' w.heap.size (fun _ => True) (.slice (some ad214) y211.length co13) y211) ∧ Aside0 (Kd.R k23 23 w' w.heap.size (fun k_ => k_ ≠ gb209) (.slice Ao37 t222.length co37) t222) ∧ Aside0 (w'.heap[gb209]? = some (.cells #[.int .i64 a0_0, .int .i64 a0_1, .string a0_2] 23 (0, 0))) ∧ Aside0 (Below w.heap.size w w'))
         case atStart => exact ⟨(t217), (0), (by first | rfl | (simp; done) | (simp [*]; done)), (by first | rfl | (simp; done) | (simp [*]; done)), H', ⟨Nat.le_refl _⟩, ⟨by (with_reducible repeat (first | apply Kd.R_alloc | apply Kd.R_drewN | apply Kd.R_drew)); exact HO_38.out⟩, ⟨by (with_reducible repeat (first | apply Kd.R_alloc | apply Kd.R_drewN | apply Kd.R_drew)); exact Kd.R_mono HO224.out (fun _ hk => hk.2)⟩, ⟨by (with_reducible repeat (first | refine blk_drewN ?_ _ | refine blk_drew ?_ | refine blk_alloc ?_ _)); exact BK209.out⟩, ⟨by repeat (first | (with_reducible first | exact HB.out | apply below_alloc | apply pw_below_drewN | apply below_drew1 | refine below_set ?_ GE209.out) | exact HB.out)⟩⟩
         case round =>
          clear H'
          try clear c1
          try clear c2
          try clear p2
          try clear q2
          try clear hx2
          try clear c3
          try clear p6
          try clear c11
          try clear c12
          try clear c13
          try clear c14
          try clear c14b0
          try clear c15
          try clear c15b0
          try clear c16
          try clear c16b0
          try clear c17
          try clear p21
          try clear q21
          try clear hx21
          try clear c24
          try clear c24b0
          try clear c24b1
          try clear c25
          try clear c25b0
          try clear c25b1
          try clear c33
          try clear hcz20_0
          try clear hcz20_1
          try clear hcz20_2
          try clear hcz22_0
          try clear hcz22_1
          try clear hcz22_2
          try clear hfz20_0
          try clear hfz20_1
          try clear hfz20_2
          try clear hfz22_0
          try clear hfz22_1
          try clear hfz22_2
          try clear hx214_0
          try clear p2
          try clear p21
          try clear p214
          try clear q2
          try clear q21
          try clear q214
          obtain ⟨x22_3, x81_3, rfl, rfl, HA, HK3, HO_38, HO_79, BK209, HB⟩ := hrel
          cases gk with
          | zero => cases (show (none : Option _) = some _ from HA.out)
          | succ k3 =>
           have H := HA.out
           clear HA
           simp only [careenlaw06_FrameTells.l1] at H
           by_cases c38 : x81_3 < (t222.length : Int)
           ·rw [if_pos c38] at H
            have c38b0 : decide (x81_3 < (t222.length : Int)) = true := decide_eq_true c38
            clear c38
            by_cases c39 : 0 ≤ x81_3
            ·rw [if_pos c39] at H
             have c39b0 : decide (0 ≤ x81_3) = true := decide_eq_true c39
             clear c39
             by_cases c40 : x81_3 < (t222.length : Int)
             ·rw [if_pos c40] at H
              have c40b0 : decide (x81_3 < (t222.length : Int)) = true := decide_eq_true c40
              clear c40
              replace H := Option.bind_eq_some_iff.mp H
              obtain ⟨t227, A410, H⟩ := H
              replace H : ((careenref06_Encode.f k3 (wrap64 (1 + t227)) ((rd_T23 t222 x81_3).f0) ((rd_T23 t222 x81_3).f1) ((rd_T23 t222 x81_3).f2)).bind fun bt228 => (if x22_3.size + bt228.1.size ≤ 9223372036854775807 then (careenlaw06_FrameTells.l1 k3 l2 l3 a4 a5 a6 t210 (rd y211 x40_1) (x22_3 ++ bt228.1) y211 (y211.length : Int) x40_1 t222 (t222.length : Int) (wrap64 (x81_3 + 1)) a0_0 a0_1 a0_2) else (none))) = some true := H
              have A41 := Aside0.mk A410
              clear A410
              replace H := Option.bind_eq_some_iff.mp H
              obtain ⟨⟨t228, t229⟩, A420, H⟩ := H
              replace H : (if x22_3.size + t228.size ≤ 9223372036854775807 then (careenlaw06_FrameTells.l1 k3 l2 l3 a4 a5 a6 t210 (rd y211 x40_1) (x22_3 ++ t228) y211 (y211.length : Int) x40_1 t222 (t222.length : Int) (wrap64 (x81_3 + 1)) a0_0 a0_1 a0_2) else (none)) = some true := H
              have A42 := Aside0.mk A420
              clear A420
              by_cases c43 : x22_3.size + t228.size ≤ 9223372036854775807
              ·rw [if_pos c43] at H
               have c43b0 := eq_true c43
               have c43b1 : decide (x22_3.size + t228.size ≤ 9223372036854775807) = true := decide_eq_true c43
               try have c43b2 : (9223372036854775807 < x22_3.size + t228.size) = False := eq_false (Nat.not_lt.2 c43)
               have H' := Aside0.mk H
               clear H
               have p225 : 0 ≤ (x81_3 : Int) := of_decide_eq_true (by first | (with_reducible assumption) | assumption)
               have q225 : x81_3 < (t222.length : Int) := of_decide_eq_true (by first | (with_reducible assumption) | assumption)
               obtain ⟨ad225, e225, hx225_0, hx225_1, hx225_2⟩ := at_T23 (Kd.R_reads' HO_79.out).2.2 x81_3 p225 q225
               cases e225
               replace p225 := eq_true p225
               replace q225 := eq_true q225
               try go_wp2_with (first | ((with_reducible refine gate_dst (N := 24) rfl ?_); refine box_event ?hg (N := 24) ?hd (cs := #[.int .i64 0, .int .i64 0, .string (⟨#[]⟩ : ByteArray)]) (t := 23) ?hr ?_; (case hd => rfl); (case hg => rfl); (case hr => first | (go_simp; done) | (go_simp; rfl)); intro gb226 hg w44 hbox hb; have n0_ := Aside0.mk (Kd.R_below (by (with_reducible repeat (first | apply Kd.R_alloc | apply Kd.R_drewN | apply Kd.R_drew)); exact HO_38.out) hb); have n1_ := Aside0.mk (Kd.R_below (Kd.R_elderB (by (with_reducible repeat (first | apply Kd.R_alloc | apply Kd.R_drewN | apply Kd.R_drew)); exact HO_79.out) gb226 (Nat.le_of_eq hg.symm)) hb); have n2_ := Aside0.mk (blk_below (g := gb209) (o := .cells #[.int .i64 a0_0, .int .i64 a0_1, .string a0_2] 23 (0, 0)) (by (with_reducible repeat (first | refine blk_drewN ?_ _ | refine blk_drew ?_ | refine blk_alloc ?_ _)); exact BK209.out) hb); have n3_ := Aside0.mk (below_step (by repeat (first | (with_reducible first | exact HB.out | apply below_alloc | apply pw_below_drewN | apply below_drew1 | refine below_set ?_ GE209.out) | exact HB.out)) hb); have n4_ := Aside0.mk (hbox); have n5_ := Aside0.mk ((by rw [hg]; exact (below_size (by repeat (first | (with_reducible first | exact HB.out | apply below_alloc | apply pw_below_drewN | apply below_drew1 | refine below_set ?_ GE209.out) | exact HB.out))) : w.heap.size ≤ gb226)); have n6_ := Aside0.mk ((by rw [hg]; exact (below_size (by repeat (first | (with_reducible first | exact HB.out | apply below_alloc | apply pw_below_drewN | apply below_drew1 | refine below_set ?_ GE209.out) | exact HB.out))) : w.heap.size ≤ gb226)); have n7_ := Aside0.mk ((by rw [hg]; exact Nat.ne_of_lt (blk_lt (g := gb209) (o := .cells #[.int .i64 a0_0, .int .i64 a0_1, .string a0_2] 23 (0, 0)) (by (with_reducible repeat (first | refine blk_drewN ?_ _ | refine blk_drew ?_ | refine blk_alloc ?_ _)); exact BK209.out)) : gb209 ≠ gb226)); have n8_ := Aside0.mk ((by rw [hg]; exact Nat.ne_of_gt (blk_lt (g := gb209) (o := .cells #[.int .i64 a0_0, .int .i64 a0_1, .string a0_2] 23 (0, 0)) (by (with_reducible repeat (first | refine blk_drewN ?_ _ | refine blk_drew ?_ | refine blk_alloc ?_ _)); exact BK209.out)) : gb226 ≠ gb209)); clear HO_38; clear HO_79; clear BK209; clear HB; have HO_38 := n0_; have HO_79 := n1_; have BK209 := n2_; have HB := n3_; have BK226 := n4_; have GW226 := n5_; have GE226 := n6_; have NB209_226 := n7_; have NB226_209 := n8_; clear n0_ n1_ n2_ n3_ n4_ n5_ n6_ n7_ n8_; clear hb hbox hg; have hnb45 := NB226_209.out; have hnc45 := NB209_226.out; have hcz46_0 : w44.cell? ⟨gb226, 0, none⟩ = some (.int .i64 0) := (blk_cell BK226.out 0).trans rfl; have hcz46_1 : w44.cell? ⟨gb226, 1, none⟩ = some (.int .i64 0) := (blk_cell BK226.out 1).trans rfl; have hcz46_2 : w44.cell? ⟨gb226, 2, none⟩ = some (.string (⟨#[]⟩ : ByteArray)) := (blk_cell BK226.out 2).trans rfl; have hfz46_0 := blk_frozen BK226.out 0; have hfz46_1 := blk_frozen BK226.out 1; have hfz46_2 := blk_frozen BK226.out 2))
               have n0_ : Aside0 (Kd.R (Kd.int .i64) 3 (((w44.setCell ⟨gb226, 0, none⟩ (.int .i64 ((rd_T23 t222 x81_3).f0))).setCell ⟨gb226, 1, none⟩ (.int .i64 ((rd_T23 t222 x81_3).f1))).setCell ⟨gb226, 2, none⟩ (.string ((rd_T23 t222 x81_3).f2))) w.heap.size (fun _ => True) (.slice (some ad214) y211.length co13) y211) := ⟨by (with_reducible repeat (first | apply Kd.R_alloc | apply Kd.R_drewN | apply Kd.R_drew)); exact Kd.R_mono (Kd.R_far (p := ⟨gb226, 2, none⟩) (Kd.R_far (p := ⟨gb226, 1, none⟩) (Kd.R_far (p := ⟨gb226, 0, none⟩) (Kd.R_types HO_38.out BK226.out (by decide)) (fun _ hk => hk.2) (.int .i64 ((rd_T23 t222 x81_3).f0))) (fun _ hk => hk.2) (.int .i64 ((rd_T23 t222 x81_3).f1))) (fun _ hk => hk.2) (.string ((rd_T23 t222 x81_3).f2))) (fun _ hk => trivial)⟩
               have n1_ : Aside0 (Kd.R k23 23 (((w44.setCell ⟨gb226, 0, none⟩ (.int .i64 ((rd_T23 t222 x81_3).f0))).setCell ⟨gb226, 1, none⟩ (.int .i64 ((rd_T23 t222 x81_3).f1))).setCell ⟨gb226, 2, none⟩ (.string ((rd_T23 t222 x81_3).f2))) w.heap.size (fun k_ => k_ ≠ gb209 ∧ k_ ≠ gb226) (.slice (some ad225) t222.length co37) t222) := ⟨by (with_reducible repeat (first | apply Kd.R_alloc | apply Kd.R_drewN | apply Kd.R_drew)); exact Kd.R_mono (Kd.R_far (p := ⟨gb226, 2, none⟩) (Kd.R_far (p := ⟨gb226, 1, none⟩) (Kd.R_far (p := ⟨gb226, 0, none⟩) (Kd.R_mono HO_79.out (fun k_ hk => (⟨hk, hk.2⟩ : _ ∧ k_ ≠ gb226))) (fun _ hk => hk.2) (.int .i64 ((rd_T23 t222 x81_3).f0))) (fun _ hk => hk.2) (.int .i64 ((rd_T23 t222 x81_3).f1))) (fun _ hk => hk.2) (.string ((rd_T23 t222 x81_3).f2))) (fun _ hk => ⟨hk.1.1, hk.1.2⟩)⟩
               have n2_ : Aside0 ((((w44.setCell ⟨gb226, 0, none⟩ (.int .i64 ((rd_T23 t222 x81_3).f0))).setCell ⟨gb226, 1, none⟩ (.int .i64 ((rd_T23 t222 x81_3).f1))).setCell ⟨gb226, 2, none⟩ (.string ((rd_T23 t222 x81_3).f2))).heap[gb209]? = some (.cells #[.int .i64 a0_0, .int .i64 a0_1, .string a0_2] 23 (0, 0))) := ⟨by (with_reducible repeat (first | refine blk_drewN ?_ _ | refine blk_drew ?_ | refine blk_alloc ?_ _)); refine blk_far ?_ NB209_226.out _; (with_reducible repeat (first | refine blk_drewN ?_ _ | refine blk_drew ?_ | refine blk_alloc ?_ _)); refine blk_far ?_ NB209_226.out _; (with_reducible repeat (first | refine blk_drewN ?_ _ | refine blk_drew ?_ | refine blk_alloc ?_ _)); refine blk_far ?_ NB209_226.out _; (with_reducible repeat (first | refine blk_drewN ?_ _ | refine blk_drew ?_ | refine blk_alloc ?_ _)); exact BK209.out⟩
               have n3_ : Aside0 ((((w44.setCell ⟨gb226, 0, none⟩ (.int .i64 ((rd_T23 t222 x81_3).f0))).setCell ⟨gb226, 1, none⟩ (.int .i64 ((rd_T23 t222 x81_3).f1))).setCell ⟨gb226, 2, none⟩ (.string ((rd_T23 t222 x81_3).f2))).heap[gb226]? = some (.cells #[.int .i64 ((rd_T23 t222 x81_3).f0), .int .i64 ((rd_T23 t222 x81_3).f1), .string ((rd_T23 t222 x81_3).f2)] 23 (0, 0))) := ⟨by (with_reducible repeat (first | refine blk_drewN ?_ _ | refine blk_drew ?_ | refine blk_alloc ?_ _)); refine blk_put (cs := #[.int .i64 ((rd_T23 t222 x81_3).f0), .int .i64 ((rd_T23 t222 x81_3).f1), .string (⟨#[]⟩ : ByteArray)]) ?_ 2 _ rfl; (with_reducible repeat (first | refine blk_drewN ?_ _ | refine blk_drew ?_ | refine blk_alloc ?_ _)); refine blk_put (cs := #[.int .i64 ((rd_T23 t222 x81_3).f0), .int .i64 0, .string (⟨#[]⟩ : ByteArray)]) ?_ 1 _ rfl; (with_reducible repeat (first | refine blk_drewN ?_ _ | refine blk_drew ?_ | refine blk_alloc ?_ _)); refine blk_put (cs := #[.int .i64 0, .int .i64 0, .string (⟨#[]⟩ : ByteArray)]) ?_ 0 _ rfl; (with_reducible repeat (first | refine blk_drewN ?_ _ | refine blk_drew ?_ | refine blk_alloc ?_ _)); exact BK226.out⟩
               have n4_ : Aside0 (Below w.heap.size w (((w44.setCell ⟨gb226, 0, none⟩ (.int .i64 ((rd_T23 t222 x81_3).f0))).setCell ⟨gb226, 1, none⟩ (.int .i64 ((rd_T23 t222 x81_3).f1))).setCell ⟨gb226, 2, none⟩ (.string ((rd_T23 t222 x81_3).f2)))) := ⟨by repeat (first | (with_reducible first | exact HB.out | apply below_alloc | apply pw_below_drewN | apply below_drew1 | refine below_set ?_ GE209.out | refine below_set ?_ GE226.out) | exact HB.out)⟩
               (try clear HO_38)
               (try clear HO_79)
               (try clear BK209)
               (try clear BK226)
               (try clear HB)
               generalize (((w44.setCell ⟨gb226, 0, none⟩ (.int .i64 ((rd_T23 t222 x81_3).f0))).setCell ⟨gb226, 1, none⟩ (.int .i64 ((rd_T23 t222 x81_3).f1))).setCell ⟨gb226, 2, none⟩ (.string ((rd_T23 t222 x81_3).f2))) = w47 at n0_ n1_ n2_ n3_ n4_ ⊢
               have HO_38 := n0_
               have HO_79 := n1_
               have BK209 := n2_
               have BK226 := n3_
               have HB := n4_
               clear n0_ n1_ n2_ n3_ n4_
               have n0_ := Aside0.mk (Kd.R_drew HO_38.out)
               have n1_ := Aside0.mk (Kd.R_drew HO_79.out)
               have n2_ := Aside0.mk (blk_drew BK209.out)
               have n3_ := Aside0.mk (blk_drew BK226.out)
               have n4_ := Aside0.mk (below_drew1 HB.out)
               clear HO_38
               clear HO_79
               clear BK209
               clear BK226
               clear HB
               have HO_38 := n0_
               have HO_79 := n1_
               have BK209 := n2_
               have BK226 := n3_
               have HB := n4_
               clear n0_ n1_ n2_ n3_ n4_
               refine start_ (n := 10) (S := fun w' => w'.cell? ⟨gb226, 0, none⟩ = some (.int .i64 ((rd_T23 t222 x81_3).f0)) ∧ w'.cell? ⟨gb226, 1, none⟩ = some (.int .i64 ((rd_T23 t222 x81_3).f1)) ∧ w'.cell? ⟨gb226, 2, none⟩ = some (.string ((rd_T23 t222 x81_3).f2))) (ds := []) #[false, false, false, false, false, false, false, false, false, false] (by kernel_rfl) rfl rfl ⟨(blk_cell BK226.out 0).trans rfl, (blk_cell BK226.out 1).trans rfl, (blk_cell BK226.out 2).trans rfl⟩ (fun hHeld => ?_); refine with_tabW careenlaw06_FrameTells.tab13 careenlaw06_FrameTells.bits13 (fun HT_ HW_ => ?_)
               generalize w47.drew = w48 at HO_38 HO_79 BK209 BK226 HB hHeld ⊢
               refine pure_ (i := 0) (N := some 86) (v := ?_) (a' := ?_) #[true, false, false, false, false, false, false, false, false, false] rfl rfl (any_of HT_.out (by kernel_rfl)) (fun _ _ _ h => h) (Or.inl ⟨by rfl, ?_⟩) ?_ ?_
               rotate_left
               ·intro w'
                go_simp
                with_reducible rfl
               rotate_left
               ·simp only [Act.put, Hand.z1, Hand.z2, Hand.z3, i64_w, i32_w]
                rfl
               refine take_ (i := 3) (N := some 89) (v := ?_) (a' := ?_) #[true, false, false, true, false, false, false, false, false, false] rfl rfl (take_ofW HT_.out HW_.out (by kernel_rfl)) (fun _ _ _ h => h) (Or.inl ⟨by rfl, ?_⟩) hHeld ?_ ?_
               rotate_left
               ·rintro w' ⟨s0, s1, s2⟩
                go_simp
                with_reducible rfl
               rotate_left
               ·simp only [Act.put, Hand.z1, Hand.z2, Hand.z3, i64_w, i32_w]
                rfl
               refine one_ (i := 1) (N := some 87) #[true, true, false, true, false, false, false, false, false, false] rfl rfl (one_of HT_.out (by kernel_rfl)) (by decide) (fun K hK => ?_)
               refine goes_ Try.func17 (by kernel_rfl) rfl #[.int .i64 (rd y211 x40_1), .int .i64 2] (by rfl) rfl rfl (by (try simp only [List.map_toArray, List.map_cons, List.map_nil]); first | done | rfl | (simp only [List.length_drop, List.length_take]; rfl)) ?_
               with_reducible refine (careenlaw06_pick.calls (rd y211 x40_1) 2 t227 _ A41.out).mono ?_
               rintro e w' ⟨rfl, ⟨nd, rfl⟩⟩
               refine ⟨_, rfl, ?_⟩
               refine hK.out _ _ ⟨(blk_cell BK226.out 0).trans rfl, (blk_cell BK226.out 1).trans rfl, (blk_cell BK226.out 2).trans rfl⟩ (fun hHeld => ?_)
               clear hK K
               refine norm_ (a' := ?_) ?_ ?_
               rotate_left
               ·show Act.put _ (some 87) _ = _
                simp only [Act.put, Hand.z1, Hand.z2, Hand.z3, i64_w, i32_w]
                rfl
               refine pure_ (i := 2) (N := some 88) (v := ?_) (a' := ?_) #[true, true, true, true, false, false, false, false, false, false] rfl rfl (any_of HT_.out (by kernel_rfl)) (fun _ _ _ h => h) (Or.inl ⟨by rfl, ?_⟩) ?_ ?_
               rotate_left
               ·intro w'
                go_simp
                with_reducible rfl
               rotate_left
               ·simp only [Act.put, Hand.z1, Hand.z2, Hand.z3, i64_w, i32_w]
                rfl
               refine one_ (i := 4) (N := some 90) #[true, true, true, true, true, false, false, false, false, false] rfl rfl (one_of HT_.out (by kernel_rfl)) (by decide) (fun K hK => ?_)
               refine goes_ Try.func13 (by kernel_rfl) rfl #[.int .i64 (wrap64 (1 + t227)), .agg #[.int .i64 ((rd_T23 t222 x81_3).f0), .int .i64 ((rd_T23 t222 x81_3).f1), .string ((rd_T23 t222 x81_3).f2)]] (by rfl) rfl rfl (by (try simp only [List.map_toArray, List.map_cons, List.map_nil]); first | done | rfl | (simp only [List.length_drop, List.length_take]; rfl)) ?_
               with_reducible refine (careenref06_Encode.calls k3 (wrap64 (1 + t227)) ((rd_T23 t222 x81_3).f0) ((rd_T23 t222 x81_3).f1) ((rd_T23 t222 x81_3).f2) t228 t229 _ A42.out).mono ?_
               rintro e w49 ⟨rfl, hb⟩
               refine ⟨_, rfl, ?_⟩
               have n0_ := Aside0.mk (Kd.R_below (by (with_reducible repeat (first | apply Kd.R_alloc | apply Kd.R_drewN | apply Kd.R_drew)); exact HO_38.out) hb)
               have n1_ := Aside0.mk (Kd.R_below (by (with_reducible repeat (first | apply Kd.R_alloc | apply Kd.R_drewN | apply Kd.R_drew)); exact HO_79.out) hb)
               have n2_ := Aside0.mk (blk_below (g := gb209) (o := .cells #[.int .i64 a0_0, .int .i64 a0_1, .string a0_2] 23 (0, 0)) (by (with_reducible repeat (first | refine blk_drewN ?_ _ | refine blk_drew ?_ | refine blk_alloc ?_ _)); exact BK209.out) hb)
               have n3_ := Aside0.mk (blk_below (g := gb226) (o := .cells #[.int .i64 ((rd_T23 t222 x81_3).f0), .int .i64 ((rd_T23 t222 x81_3).f1), .string ((rd_T23 t222 x81_3).f2)] 23 (0, 0)) (by (with_reducible repeat (first | refine blk_drewN ?_ _ | refine blk_drew ?_ | refine blk_alloc ?_ _)); exact BK226.out) hb)
               have n4_ := Aside0.mk (below_step (by repeat (first | (with_reducible first | exact HB.out | apply below_alloc | apply pw_below_drewN | apply below_drew1 | refine below_set ?_ GE209.out | refine below_set ?_ GE226.out) | exact HB.out)) hb)
               clear HO_38
               clear HO_79
               clear BK209
               clear BK226
               clear HB
               have HO_38 := n0_
               have HO_79 := n1_
               have BK209 := n2_
               have BK226 := n3_
               have HB := n4_
               clear n0_ n1_ n2_ n3_ n4_
               (try clear hb)
               (try clear hb2)
               (try clear hk)
               (try clear hi)
               refine hK.out _ _ ⟨(blk_cell BK226.out 0).trans rfl, (blk_cell BK226.out 1).trans rfl, (blk_cell BK226.out 2).trans rfl⟩ (fun hHeld => ?_)
               clear hK K
               refine norm_ (a' := ?_) ?_ ?_
               rotate_left
               ·show Act.put _ (some 90) _ = _
                simp only [Act.put, Hand.z1, Hand.z2, Hand.z3, i64_w, i32_w]
                rfl
               refine pure_ (i := 5) (N := some 85) (v := ?_) (a' := ?_) #[true, true, true, true, true, true, false, false, false, false] rfl rfl (any_of HT_.out (by kernel_rfl)) (fun _ _ _ h => h) (Or.inl ⟨by rfl, ?_⟩) ?_ ?_
               rotate_left
               ·intro w'
                go_simp
                with_reducible rfl
               rotate_left
               ·simp only [Act.put, Hand.z1, Hand.z2, Hand.z3, i64_w, i32_w]
                rfl
               refine pure_ (i := 6) (N := some 91) (v := ?_) (a' := ?_) #[true, true, true, true, true, true, true, false, false, false] rfl rfl (any_of HT_.out (by kernel_rfl)) (fun _ _ _ h => h) (Or.inl ⟨by rfl, ?_⟩) ?_ ?_
               rotate_left
               ·intro w'
                go_simp
                with_reducible rfl
               rotate_left
               ·simp only [Act.put, Hand.z1, Hand.z2, Hand.z3, i64_w, i32_w]
                rfl
               refine pure_ (i := 7) (N := some 92) (v := ?_) (a' := ?_) #[true, true, true, true, true, true, true, true, false, false] rfl rfl (any_of HT_.out (by kernel_rfl)) (fun _ _ _ h => h) (Or.inl ⟨by rfl, ?_⟩) ?_ ?_
               rotate_left
               ·intro w'
                go_simp
                with_reducible rfl
               rotate_left
               ·simp only [Act.put, Hand.z1, Hand.z2, Hand.z3, i64_w, i32_w]
                rfl
               refine pure_ (i := 8) (N := some 25) (v := ?_) (a' := ?_) #[true, true, true, true, true, true, true, true, true, false] rfl rfl (any_of HT_.out (by kernel_rfl)) (fun _ _ _ h => h) (Or.inl ⟨by rfl, ?_⟩) ?_ ?_
               rotate_left
               ·intro w'
                go_simp
                with_reducible rfl
               rotate_left
               ·simp only [Act.put, Hand.z1, Hand.z2, Hand.z3, i64_w, i32_w]
                rfl
               refine pure_ (i := 9) (N := some 26) (v := ?_) (a' := ?_) #[true, true, true, true, true, true, true, true, true, true] rfl rfl (any_of HT_.out (by kernel_rfl)) (fun _ _ _ h => h) (Or.inl ⟨by rfl, ?_⟩) ?_ ?_
               rotate_left
               ·intro w'
                go_simp
                with_reducible rfl
               rotate_left
               ·simp only [Act.put, Hand.z1, Hand.z2, Hand.z3, i64_w, i32_w]
                rfl
               refine done_ (done_of HT_.out (by kernel_rfl)) ?_
               try go_wp2
               go_roundg k3
               case measure => have := HK1.out; have := HJ18.out; have := HK3.out; omega
               case rel => exact ⟨(x22_3 ++ t228), (wrap64 (x81_3 + 1)), (by first | rfl | (simp; done) | (simp [*]; done)), (by first | rfl | (simp; done) | (simp [*]; done)), H', ⟨by have := HK1.out; have := HJ18.out; have := HK3.out; omega⟩, ⟨by (with_reducible repeat (first | apply Kd.R_alloc | apply Kd.R_drewN | apply Kd.R_drew)); exact HO_38.out⟩, ⟨by (with_reducible repeat (first | apply Kd.R_alloc | apply Kd.R_drewN | apply Kd.R_drew)); exact Kd.R_mono HO_79.out (fun _ hk => hk.1)⟩, ⟨by (with_reducible repeat (first | refine blk_drewN ?_ _ | refine blk_drew ?_ | refine blk_alloc ?_ _)); exact BK209.out⟩, ⟨by repeat (first | (with_reducible first | exact HB.out | apply below_alloc | apply pw_below_drewN | apply below_drew1 | refine below_set ?_ GE209.out | refine below_set ?_ GE226.out) | exact HB.out)⟩⟩
              ·rw [if_neg c43] at H
               exact absurd H (by simp)
             ·rw [if_neg c40] at H
              exact absurd H (by simp)
            ·rw [if_neg c39] at H
             exact absurd H (by simp)
           ·rw [if_neg c38] at H
            have c38b0 : decide (x81_3 < (t222.length : Int)) = false := decide_eq_false c38
            clear c38
            replace H := Option.bind_eq_some_iff.mp H
            obtain ⟨t230, A500, H⟩ := H
            replace H : (if 0 ≤ t230 then (if t230 ≤ (x22_3.size : Int) then (if (x22_3.extract 0 (t230 : Int).toNat).size + a6.size ≤ 9223372036854775807 then (if 0 ≤ (mn (wrap64 (t230 + (a6.size : Int))) (x22_3.size : Int)) then (if (mn (wrap64 (t230 + (a6.size : Int))) (x22_3.size : Int)) ≤ (x22_3.size : Int) then (if ((x22_3.extract 0 (t230 : Int).toNat) ++ a6).size + (x22_3.extract ((mn (wrap64 (t230 + (a6.size : Int))) (x22_3.size : Int)) : Int).toNat x22_3.size).size ≤ 9223372036854775807 then (if ((x22_3.extract 0 (t230 : Int).toNat) ++ a6).size + (x22_3.extract (t230 : Int).toNat x22_3.size).size ≤ 9223372036854775807 then ((some (([a4, x22_3, x22_3.extract 0 (t230 : Int).toNat, ((x22_3.extract 0 (t230 : Int).toNat) ++ a6) ++ (x22_3.extract ((mn (wrap64 (t230 + (a6.size : Int))) (x22_3.size : Int)) : Int).toNat x22_3.size), ((x22_3.extract 0 (t230 : Int).toNat) ++ a6) ++ (x22_3.extract (t230 : Int).toNat x22_3.size)] : List ByteArray) : List ByteArray)).bind fun y231 => (careenlaw06_FrameTells.l2 k3 l2 l3 a4 a5 a6 t210 (rd y211 x40_1) y211 (y211.length : Int) x40_1 y231 (y231.length : Int) 0 a0_0 a0_1 a0_2)) else (none)) else (none)) else (none)) else (none)) else (none)) else (none)) else (none)) = some true := H
            have A50 := Aside0.mk A500
            clear A500
            by_cases c51 : 0 ≤ t230
            ·rw [if_pos c51] at H
             have c51b0 := eq_true c51
             have c51b1 : decide (0 ≤ t230) = true := decide_eq_true c51
             clear c51
             by_cases c52 : t230 ≤ (x22_3.size : Int)
             ·rw [if_pos c52] at H
              have c52b0 := eq_true c52
              have c52b1 : decide (t230 ≤ (x22_3.size : Int)) = true := decide_eq_true c52
              clear c52
              have c53b0 := eq_true (of_decide_eq_true (by first | (with_reducible assumption) | assumption) : 0 ≤ t230)
              have c54b0 := eq_true (of_decide_eq_true (by first | (with_reducible assumption) | assumption) : t230 ≤ (x22_3.size : Int))
              by_cases c55 : (x22_3.extract 0 (t230 : Int).toNat).size + a6.size ≤ 9223372036854775807
              ·rw [if_pos c55] at H
               have c55b0 := eq_true c55
               have c55b1 : decide ((x22_3.extract 0 (t230 : Int).toNat).size + a6.size ≤ 9223372036854775807) = true := decide_eq_true c55
               try have c55b2 : (9223372036854775807 < (x22_3.extract 0 (t230 : Int).toNat).size + a6.size) = False := eq_false (Nat.not_lt.2 c55)
               (try have c55b8 : (9223372036854775807 < t230.toNat + a6.size) = False := (by have f0_ : 0 ≤ t230 := of_decide_eq_true (by first | (with_reducible assumption) | assumption); have g0_ : t230 ≤ (x22_3.size : Int) := of_decide_eq_true (by first | (with_reducible assumption) | assumption); have e_ := c55; simp only [ByteArray.size_append, ByteArray.size_extract] at e_; exact eq_false (by omega)))
               obtain ⟨ji56, hji56⟩ : ∃ j_ : Int, (mn (wrap64 (t230 + (a6.size : Int))) (x22_3.size : Int)) = j_ := ⟨_, rfl⟩
               replace H : (if 0 ≤ (ji56) then (if (ji56) ≤ (x22_3.size : Int) then (if ((x22_3.extract 0 (t230 : Int).toNat) ++ a6).size + (x22_3.extract ((ji56) : Int).toNat x22_3.size).size ≤ 9223372036854775807 then (if ((x22_3.extract 0 (t230 : Int).toNat) ++ a6).size + (x22_3.extract (t230 : Int).toNat x22_3.size).size ≤ 9223372036854775807 then ((some (([a4, x22_3, x22_3.extract 0 (t230 : Int).toNat, ((x22_3.extract 0 (t230 : Int).toNat) ++ a6) ++ (x22_3.extract ((ji56) : Int).toNat x22_3.size), ((x22_3.extract 0 (t230 : Int).toNat) ++ a6) ++ (x22_3.extract (t230 : Int).toNat x22_3.size)] : List ByteArray) : List ByteArray)).bind fun y231 => (careenlaw06_FrameTells.l2 k3 l2 l3 a4 a5 a6 t210 (rd y211 x40_1) y211 (y211.length : Int) x40_1 y231 (y231.length : Int) 0 a0_0 a0_1 a0_2)) else (none)) else (none)) else (none)) else (none)) = some true := by first | (rw [hji56] at H; exact H) | (simp only [hji56] at H ⊢; exact H)
               (try rw [hji56] at A50)
               have hji56_ : (if (x22_3.size : Int) < (wrap64 (t230 + (a6.size : Int))) then (x22_3.size : Int) else (wrap64 (t230 + (a6.size : Int)))) = ji56 := hji56
               by_cases c57 : 0 ≤ (ji56)
               ·rw [if_pos c57] at H
                have c57M : max ji56 0 = ji56 := Int.max_eq_left c57
                have c57b0 := eq_true c57
                have c57b1 : decide (0 ≤ (ji56)) = true := decide_eq_true c57
                clear c57
                by_cases c58 : (ji56) ≤ (x22_3.size : Int)
                ·rw [if_pos c58] at H
                 have c58b0 := eq_true c58
                 have c58b1 : decide ((ji56) ≤ (x22_3.size : Int)) = true := decide_eq_true c58
                 clear c58
                 by_cases c59 : ((x22_3.extract 0 (t230 : Int).toNat) ++ a6).size + (x22_3.extract ((ji56) : Int).toNat x22_3.size).size ≤ 9223372036854775807
                 ·rw [if_pos c59] at H
                  have c59b0 := eq_true c59
                  have c59b1 : decide (((x22_3.extract 0 (t230 : Int).toNat) ++ a6).size + (x22_3.extract ((ji56) : Int).toNat x22_3.size).size ≤ 9223372036854775807) = true := decide_eq_true c59
                  try have c59b2 : (9223372036854775807 < ((x22_3.extract 0 (t230 : Int).toNat) ++ a6).size + (x22_3.extract ((ji56) : Int).toNat x22_3.size).size) = False := eq_false (Nat.not_lt.2 c59)
                  (try have c59b8 : (9223372036854775807 < t230.toNat + a6.size + (x22_3.size - ji56.toNat)) = False := (by have f0_ : 0 ≤ t230 := of_decide_eq_true (by first | (with_reducible assumption) | assumption); have g0_ : t230 ≤ (x22_3.size : Int) := of_decide_eq_true (by first | (with_reducible assumption) | assumption); have f1_ : 0 ≤ ji56 := of_decide_eq_true (by first | (with_reducible assumption) | assumption); have g1_ : ji56 ≤ (x22_3.size : Int) := of_decide_eq_true (by first | (with_reducible assumption) | assumption); have e_ := c59; simp only [ByteArray.size_append, ByteArray.size_extract] at e_; exact eq_false (by omega)))
                  have c60b0 := eq_true (of_decide_eq_true (by first | (with_reducible assumption) | assumption) : 0 ≤ t230)
                  have c61b0 := eq_true (of_decide_eq_true (by first | (with_reducible assumption) | assumption) : t230 ≤ (x22_3.size : Int))
                  have c62b0 := eq_true (of_decide_eq_true (by first | (with_reducible assumption) | assumption) : 0 ≤ t230)
                  have c63b0 := eq_true (of_decide_eq_true (by first | (with_reducible assumption) | assumption) : t230 ≤ (x22_3.size : Int))
                  by_cases c64 : ((x22_3.extract 0 (t230 : Int).toNat) ++ a6).size + (x22_3.extract (t230 : Int).toNat x22_3.size).size ≤ 9223372036854775807
                  ·rw [if_pos c64] at H
                   have c64b0 := eq_true c64
                   have c64b1 : decide (((x22_3.extract 0 (t230 : Int).toNat) ++ a6).size + (x22_3.extract (t230 : Int).toNat x22_3.size).size ≤ 9223372036854775807) = true := decide_eq_true c64
                   try have c64b2 : (9223372036854775807 < ((x22_3.extract 0 (t230 : Int).toNat) ++ a6).size + (x22_3.extract (t230 : Int).toNat x22_3.size).size) = False := eq_false (Nat.not_lt.2 c64)
                   (try have c64b8 : (9223372036854775807 < t230.toNat + a6.size + (x22_3.size - t230.toNat)) = False := (by have f0_ : 0 ≤ t230 := of_decide_eq_true (by first | (with_reducible assumption) | assumption); have g0_ : t230 ≤ (x22_3.size : Int) := of_decide_eq_true (by first | (with_reducible assumption) | assumption); have e_ := c64; simp only [ByteArray.size_append, ByteArray.size_extract] at e_; exact eq_false (by omega)))
                   obtain ⟨y231, hy231⟩ : ∃ y_ : List ByteArray, y_ = (([a4, x22_3, x22_3.extract 0 (t230 : Int).toNat, ((x22_3.extract 0 (t230 : Int).toNat) ++ a6) ++ (x22_3.extract ((ji56) : Int).toNat x22_3.size), ((x22_3.extract 0 (t230 : Int).toNat) ++ a6) ++ (x22_3.extract (t230 : Int).toNat x22_3.size)] : List ByteArray)) := ⟨_, rfl⟩
                   replace H : (careenlaw06_FrameTells.l2 k3 l2 l3 a4 a5 a6 t210 (rd y211 x40_1) y211 (y211.length : Int) x40_1 y231 (y231.length : Int) 0 a0_0 a0_1 a0_2) = some true := by first | (rw [hy231]; with_reducible exact H) | (have H2_ := (Option.bind_some _ _).symm.trans H; rw [hy231]; with_reducible exact H2_) | (have H2_ := (Option.bind_some _ _).symm.trans H; with_reducible exact H2_) | with_reducible exact H | (rw [hy231]; exact H) | exact H
                   have Ny231 := Aside0.mk hy231
                   clear hy231
                   have H' := Aside0.mk H
                   clear H
                   try go_wp2_with (first | ((with_reducible refine gate_callee (f := 17) rfl ?_); refine goesL_ (some 101) rfl rfl Try.func17 (by kernel_rfl) rfl #[.int .i64 a5, .int .i64 (wrap64 ((x22_3.size : Int) + 1))] rfl (by (try simp only [List.map_toArray, List.map_cons, List.map_nil]); first | done | rfl | (simp only [List.length_drop, List.length_take]; rfl)) ?_; (with_reducible refine (careenlaw06_pick.calls a5 (wrap64 ((x22_3.size : Int) + 1)) t230 _ A50.out).mono ?_); rintro e w' ⟨rfl, ⟨nd, rfl⟩⟩; refine ⟨_, rfl, ?_⟩))
                   (try (rw [drewN_self wr]; generalize hq_ : World.drewN wr _ = wr; have n0_ : Aside0 (Kd.R (Kd.int .i64) 3 wr w.heap.size (fun _ => True) (.slice (some ad214) y211.length co13) y211) := ⟨by rw [← hq_]; exact (by (with_reducible repeat (first | apply Kd.R_alloc | apply Kd.R_drewN | apply Kd.R_drew)); exact HO_38.out)⟩; have n1_ : Aside0 (Kd.R k23 23 wr w.heap.size (fun k_ => k_ ≠ gb209) (.slice Ao37 t222.length co37) t222) := ⟨by rw [← hq_]; exact (by (with_reducible repeat (first | apply Kd.R_alloc | apply Kd.R_drewN | apply Kd.R_drew)); exact HO_79.out)⟩; have n2_ : Aside0 (wr.heap[gb209]? = some (.cells #[.int .i64 a0_0, .int .i64 a0_1, .string a0_2] 23 (0, 0))) := ⟨by rw [← hq_]; exact (by (with_reducible repeat (first | refine blk_drewN ?_ _ | refine blk_drew ?_ | refine blk_alloc ?_ _)); exact BK209.out)⟩; have n3_ : Aside0 (Below w.heap.size w wr) := ⟨by rw [← hq_]; exact (by repeat (first | (with_reducible first | exact HB.out | apply below_alloc | apply pw_below_drewN | apply below_drew1 | refine below_set ?_ GE209.out) | exact HB.out))⟩; clear HO_38 HO_79 BK209 HB hq_; have HO_38 := n0_; have HO_79 := n1_; have BK209 := n2_; have HB := n3_; clear n0_ n1_ n2_ n3_))
                   have n0_ := Aside0.mk (Kd.R_drew HO_38.out)
                   have n1_ := Aside0.mk (Kd.R_drew HO_79.out)
                   have n2_ := Aside0.mk (blk_drew BK209.out)
                   have n3_ := Aside0.mk (below_drew1 HB.out)
                   clear HO_38
                   clear HO_79
                   clear BK209
                   clear HB
                   have HO_38 := n0_
                   have HO_79 := n1_
                   have BK209 := n2_
                   have HB := n3_
                   clear n0_ n1_ n2_ n3_
                   refine start_ (n := 32) (S := fun w' => True) (ds := []) #[false, false, false, false, false, false, false, false, false, false, false, false, false, false, false, false, false, false, false, false, false, false, false, false, false, false, false, false, false, false, false, false] (by kernel_rfl) rfl rfl trivial (fun hHeld => ?_); refine with_tabW careenlaw06_FrameTells.tab17 careenlaw06_FrameTells.bits17 (fun HT_ HW_ => ?_)
                   generalize wr.drew = w65 at HO_38 HO_79 BK209 HB hHeld ⊢
                   refine pure_ (i := 0) (N := some 102) (v := ?_) (a' := ?_) #[true, false, false, false, false, false, false, false, false, false, false, false, false, false, false, false, false, false, false, false, false, false, false, false, false, false, false, false, false, false, false, false] rfl rfl (any_of HT_.out (by kernel_rfl)) (fun _ _ _ h => h) (Or.inl ⟨by rfl, ?_⟩) ?_ ?_
                   rotate_left
                   ·intro w'
                    go_simp
                    with_reducible rfl
                   rotate_left
                   ·simp only [Act.put, Hand.z1, Hand.z2, Hand.z3, i64_w, i32_w]
                    rfl
                   refine pure_ (i := 1) (N := some 103) (v := ?_) (a' := ?_) #[true, true, false, false, false, false, false, false, false, false, false, false, false, false, false, false, false, false, false, false, false, false, false, false, false, false, false, false, false, false, false, false] rfl rfl (any_of HT_.out (by kernel_rfl)) (fun _ _ _ h => h) (Or.inl ⟨by rfl, ?_⟩) ?_ ?_
                   rotate_left
                   ·intro w'
                    go_simp
                    with_reducible rfl
                   rotate_left
                   ·simp only [Act.put, Hand.z1, Hand.z2, Hand.z3, i64_w, i32_w]
                    rfl
                   refine pure_ (i := 2) (N := some 104) (v := ?_) (a' := ?_) #[true, true, true, false, false, false, false, false, false, false, false, false, false, false, false, false, false, false, false, false, false, false, false, false, false, false, false, false, false, false, false, false] rfl rfl (any_of HT_.out (by kernel_rfl)) (fun _ _ _ h => h) (Or.inl ⟨by rfl, ?_⟩) ?_ ?_
                   rotate_left
                   ·intro w'
                    go_simp
                    with_reducible rfl
                   rotate_left
                   ·simp only [Act.put, Hand.z1, Hand.z2, Hand.z3, i64_w, i32_w]
                    rfl
                   refine pure_ (i := 3) (N := some 105) (v := ?_) (a' := ?_) #[true, true, true, true, false, false, false, false, false, false, false, false, false, false, false, false, false, false, false, false, false, false, false, false, false, false, false, false, false, false, false, false] rfl rfl (any_of HT_.out (by kernel_rfl)) (fun _ _ _ h => h) (Or.inl ⟨by rfl, ?_⟩) ?_ ?_
                   rotate_left
                   ·intro w'
                    go_simp
                    with_reducible rfl
                   rotate_left
                   ·simp only [Act.put, Hand.z1, Hand.z2, Hand.z3, i64_w, i32_w]
                    rfl
                   refine pure_ (i := 4) (N := some 106) (v := ?_) (a' := ?_) #[true, true, true, true, true, false, false, false, false, false, false, false, false, false, false, false, false, false, false, false, false, false, false, false, false, false, false, false, false, false, false, false] rfl rfl (any_of HT_.out (by kernel_rfl)) (fun _ _ _ h => h) (Or.inl ⟨by rfl, ?_⟩) ?_ ?_
                   rotate_left
                   ·intro w'
                    go_simp
                    with_reducible rfl
                   rotate_left
                   ·simp only [Act.put, Hand.z1, Hand.z2, Hand.z3, i64_w, i32_w]
                    rfl
                   refine pure_ (i := 5) (N := some 107) (v := ?_) (a' := ?_) #[true, true, true, true, true, true, false, false, false, false, false, false, false, false, false, false, false, false, false, false, false, false, false, false, false, false, false, false, false, false, false, false] rfl rfl (any_of HT_.out (by kernel_rfl)) (fun _ _ _ h => h) (Or.inl ⟨by rfl, ?_⟩) ?_ ?_
                   rotate_left
                   ·intro w'
                    go_simp
                    with_reducible rfl
                   rotate_left
                   ·simp only [Act.put, Hand.z1, Hand.z2, Hand.z3, i64_w, i32_w]
                    rfl
                   refine pure_ (i := 6) (N := some 108) (v := ?_) (a' := ?_) #[true, true, true, true, true, true, true, false, false, false, false, false, false, false, false, false, false, false, false, false, false, false, false, false, false, false, false, false, false, false, false, false] rfl rfl (any_of HT_.out (by kernel_rfl)) (fun _ _ _ h => h) (Or.inl ⟨by rfl, ?_⟩) ?_ ?_
                   rotate_left
                   ·intro w'
                    go_simp
                    with_reducible rfl
                   rotate_left
                   ·simp only [Act.put, Hand.z1, Hand.z2, Hand.z3, i64_w, i32_w]
                    rfl
                   refine pure_ (i := 7) (N := some 109) (v := ?_) (a' := ?_) #[true, true, true, true, true, true, true, true, false, false, false, false, false, false, false, false, false, false, false, false, false, false, false, false, false, false, false, false, false, false, false, false] rfl rfl (any_of HT_.out (by kernel_rfl)) (fun _ _ _ h => h) (Or.inl ⟨by rfl, ?_⟩) ?_ ?_
                   rotate_left
                   ·intro w'
                    go_simp
                    with_reducible rfl
                   rotate_left
                   ·simp only [Act.put, Hand.z1, Hand.z2, Hand.z3, i64_w, i32_w]
                    rfl
                   refine pure_ (i := 8) (N := some 110) (v := ?_) (a' := ?_) #[true, true, true, true, true, true, true, true, true, false, false, false, false, false, false, false, false, false, false, false, false, false, false, false, false, false, false, false, false, false, false, false] rfl rfl (any_of HT_.out (by kernel_rfl)) (fun _ _ _ h => h) (Or.inl ⟨by rfl, ?_⟩) ?_ ?_
                   rotate_left
                   ·intro w'
                    go_simp
                    with_reducible rfl
                   rotate_left
                   ·simp only [Act.put, Hand.z1, Hand.z2, Hand.z3, i64_w, i32_w]
                    rfl
                   refine pure_ (i := 9) (N := some 111) (v := ?_) (a' := ?_) #[true, true, true, true, true, true, true, true, true, true, false, false, false, false, false, false, false, false, false, false, false, false, false, false, false, false, false, false, false, false, false, false] rfl rfl (any_of HT_.out (by kernel_rfl)) (fun _ _ _ h => h) (Or.inl ⟨by rfl, ?_⟩) ?_ ?_
                   rotate_left
                   ·intro w'
                    go_simp
                    with_reducible rfl
                   rotate_left
                   ·simp only [Act.put, Hand.z1, Hand.z2, Hand.z3, i64_w, i32_w]
                    rfl
                   refine pure_ (i := 10) (N := some 112) (v := ?_) (a' := ?_) #[true, true, true, true, true, true, true, true, true, true, true, false, false, false, false, false, false, false, false, false, false, false, false, false, false, false, false, false, false, false, false, false] rfl rfl (any_of HT_.out (by kernel_rfl)) (fun _ _ _ h => h) (Or.inl ⟨by rfl, ?_⟩) ?_ ?_
                   rotate_left
                   ·intro w'
                    go_simp
                    with_reducible rfl
                   rotate_left
                   ·simp only [Act.put, Hand.z1, Hand.z2, Hand.z3, i64_w, i32_w]
                    rfl
                   refine pure_ (i := 11) (N := some 113) (v := ?_) (a' := ?_) #[true, true, true, true, true, true, true, true, true, true, true, true, false, false, false, false, false, false, false, false, false, false, false, false, false, false, false, false, false, false, false, false] rfl rfl (any_of HT_.out (by kernel_rfl)) (fun _ _ _ h => h) (Or.inl ⟨by rfl, ?_⟩) ?_ ?_
                   rotate_left
                   ·intro w'
                    go_simp
                    with_reducible rfl
                   rotate_left
                   ·simp only [Act.put, Hand.z1, Hand.z2, Hand.z3, i64_w, i32_w]
                    rfl
                   refine pure_ (i := 12) (N := some 114) (v := ?_) (a' := ?_) #[true, true, true, true, true, true, true, true, true, true, true, true, true, false, false, false, false, false, false, false, false, false, false, false, false, false, false, false, false, false, false, false] rfl rfl (any_of HT_.out (by kernel_rfl)) (fun _ _ _ h => h) (Or.inl ⟨by rfl, ?_⟩) ?_ ?_
                   rotate_left
                   ·intro w'
                    go_simp
                    with_reducible rfl
                   rotate_left
                   ·simp only [Act.put, Hand.z1, Hand.z2, Hand.z3, i64_w, i32_w]
                    rfl
                   refine pure_ (i := 13) (N := some 115) (v := ?_) (a' := ?_) #[true, true, true, true, true, true, true, true, true, true, true, true, true, true, false, false, false, false, false, false, false, false, false, false, false, false, false, false, false, false, false, false] rfl rfl (any_of HT_.out (by kernel_rfl)) (fun _ _ _ h => h) (Or.inl ⟨by rfl, ?_⟩) ?_ ?_
                   rotate_left
                   ·intro w'
                    go_simp
                    with_reducible rfl
                   rotate_left
                   ·simp only [Act.put, Hand.z1, Hand.z2, Hand.z3, i64_w, i32_w]
                    rfl
                   refine pure_ (i := 14) (N := some 116) (v := ?_) (a' := ?_) #[true, true, true, true, true, true, true, true, true, true, true, true, true, true, true, false, false, false, false, false, false, false, false, false, false, false, false, false, false, false, false, false] rfl rfl (any_of HT_.out (by kernel_rfl)) (fun _ _ _ h => h) (Or.inl ⟨by rfl, ?_⟩) ?_ ?_
                   rotate_left
                   ·intro w'
                    go_simp
                    with_reducible rfl
                   rotate_left
                   ·simp only [Act.put, Hand.z1, Hand.z2, Hand.z3, i64_w, i32_w]
                    rfl
                   refine pure_ (i := 15) (N := some 117) (v := ?_) (a' := ?_) #[true, true, true, true, true, true, true, true, true, true, true, true, true, true, true, true, false, false, false, false, false, false, false, false, false, false, false, false, false, false, false, false] rfl rfl (any_of HT_.out (by kernel_rfl)) (fun _ _ _ h => h) (Or.inl ⟨by rfl, ?_⟩) ?_ ?_
                   rotate_left
                   ·intro w'
                    go_simp
                    with_reducible rfl
                   rotate_left
                   ·simp only [Act.put, Hand.z1, Hand.z2, Hand.z3, i64_w, i32_w]
                    rfl
                   refine pure_ (i := 16) (N := some 118) (v := ?_) (a' := ?_) #[true, true, true, true, true, true, true, true, true, true, true, true, true, true, true, true, true, false, false, false, false, false, false, false, false, false, false, false, false, false, false, false] rfl rfl (any_of HT_.out (by kernel_rfl)) (fun _ _ _ h => h) (Or.inl ⟨by rfl, ?_⟩) ?_ ?_
                   rotate_left
                   ·intro w'
                    go_simp
                    with_reducible rfl
                   rotate_left
                   ·simp only [Act.put, Hand.z1, Hand.z2, Hand.z3, i64_w, i32_w]
                    rfl
                   refine pure_ (i := 17) (N := some 119) (v := ?_) (a' := ?_) #[true, true, true, true, true, true, true, true, true, true, true, true, true, true, true, true, true, true, false, false, false, false, false, false, false, false, false, false, false, false, false, false] rfl rfl (any_of HT_.out (by kernel_rfl)) (fun _ _ _ h => h) (Or.inl ⟨by rfl, ?_⟩) ?_ ?_
                   rotate_left
                   ·intro w'
                    go_simp
                    with_reducible rfl
                   rotate_left
                   ·simp only [Act.put, Hand.z1, Hand.z2, Hand.z3, i64_w, i32_w]
                    rfl
                   refine pure_ (i := 18) (N := some 120) (v := ?_) (a' := ?_) #[true, true, true, true, true, true, true, true, true, true, true, true, true, true, true, true, true, true, true, false, false, false, false, false, false, false, false, false, false, false, false, false] rfl rfl (any_of HT_.out (by kernel_rfl)) (fun _ _ _ h => h) (Or.inl ⟨by rfl, ?_⟩) ?_ ?_
                   rotate_left
                   ·intro w'
                    go_simp
                    with_reducible rfl
                   rotate_left
                   ·simp only [Act.put, Hand.z1, Hand.z2, Hand.z3, i64_w, i32_w]
                    rfl
                   refine pure_ (i := 19) (N := some 121) (v := ?_) (a' := ?_) #[true, true, true, true, true, true, true, true, true, true, true, true, true, true, true, true, true, true, true, true, false, false, false, false, false, false, false, false, false, false, false, false] rfl rfl (any_of HT_.out (by kernel_rfl)) (fun _ _ _ h => h) (Or.inl ⟨by rfl, ?_⟩) ?_ ?_
                   rotate_left
                   ·intro w'
                    go_simp
                    with_reducible rfl
                   rotate_left
                   ·simp only [Act.put, Hand.z1, Hand.z2, Hand.z3, i64_w, i32_w]
                    rfl
                   refine pure_ (i := 20) (N := some 122) (v := ?_) (a' := ?_) #[true, true, true, true, true, true, true, true, true, true, true, true, true, true, true, true, true, true, true, true, true, false, false, false, false, false, false, false, false, false, false, false] rfl rfl (any_of HT_.out (by kernel_rfl)) (fun _ _ _ h => h) (Or.inl ⟨by rfl, ?_⟩) ?_ ?_
                   rotate_left
                   ·intro w'
                    go_simp
                    with_reducible rfl
                   rotate_left
                   ·simp only [Act.put, Hand.z1, Hand.z2, Hand.z3, i64_w, i32_w]
                    rfl
                   refine pure_ (i := 21) (N := some 123) (v := ?_) (a' := ?_) #[true, true, true, true, true, true, true, true, true, true, true, true, true, true, true, true, true, true, true, true, true, true, false, false, false, false, false, false, false, false, false, false] rfl rfl (any_of HT_.out (by kernel_rfl)) (fun _ _ _ h => h) (Or.inl ⟨by rfl, ?_⟩) ?_ ?_
                   rotate_left
                   ·intro w'
                    go_simp
                    with_reducible rfl
                   rotate_left
                   ·simp only [Act.put, Hand.z1, Hand.z2, Hand.z3, i64_w, i32_w]
                    rfl
                   refine pure_ (i := 22) (N := some 124) (v := ?_) (a' := ?_) #[true, true, true, true, true, true, true, true, true, true, true, true, true, true, true, true, true, true, true, true, true, true, true, false, false, false, false, false, false, false, false, false] rfl rfl (any_of HT_.out (by kernel_rfl)) (fun _ _ _ h => h) (Or.inl ⟨by rfl, ?_⟩) ?_ ?_
                   rotate_left
                   ·intro w'
                    go_simp
                    with_reducible rfl
                   rotate_left
                   ·simp only [Act.put, Hand.z1, Hand.z2, Hand.z3, i64_w, i32_w]
                    rfl
                   refine pure_ (i := 23) (N := some 125) (v := ?_) (a' := ?_) #[true, true, true, true, true, true, true, true, true, true, true, true, true, true, true, true, true, true, true, true, true, true, true, true, false, false, false, false, false, false, false, false] rfl rfl (any_of HT_.out (by kernel_rfl)) (fun _ _ _ h => h) (Or.inl ⟨by rfl, ?_⟩) ?_ ?_
                   rotate_left
                   ·intro w'
                    go_simp
                    with_reducible rfl
                   rotate_left
                   ·simp only [Act.put, Hand.z1, Hand.z2, Hand.z3, i64_w, i32_w]
                    rfl
                   refine pure_ (i := 24) (N := some 126) (v := ?_) (a' := ?_) #[true, true, true, true, true, true, true, true, true, true, true, true, true, true, true, true, true, true, true, true, true, true, true, true, true, false, false, false, false, false, false, false] rfl rfl (any_of HT_.out (by kernel_rfl)) (fun _ _ _ h => h) (Or.inl ⟨by rfl, ?_⟩) ?_ ?_
                   rotate_left
                   ·intro w'
                    go_simp
                    with_reducible rfl
                   rotate_left
                   ·simp only [Act.put, Hand.z1, Hand.z2, Hand.z3, i64_w, i32_w]
                    rfl
                   refine pure_ (i := 25) (N := some 127) (v := ?_) (a' := ?_) #[true, true, true, true, true, true, true, true, true, true, true, true, true, true, true, true, true, true, true, true, true, true, true, true, true, true, false, false, false, false, false, false] rfl rfl (any_of HT_.out (by kernel_rfl)) (fun _ _ _ h => h) (Or.inl ⟨by rfl, ?_⟩) ?_ ?_
                   rotate_left
                   ·intro w'
                    go_simp
                    with_reducible rfl
                   rotate_left
                   ·simp only [Act.put, Hand.z1, Hand.z2, Hand.z3, i64_w, i32_w]
                    rfl
                   refine pure_ (i := 26) (N := some 128) (v := ?_) (a' := ?_) #[true, true, true, true, true, true, true, true, true, true, true, true, true, true, true, true, true, true, true, true, true, true, true, true, true, true, true, false, false, false, false, false] rfl rfl (any_of HT_.out (by kernel_rfl)) (fun _ _ _ h => h) (Or.inl ⟨by rfl, ?_⟩) ?_ ?_
                   rotate_left
                   ·intro w'
                    go_simp
                    with_reducible rfl
                   rotate_left
                   ·simp only [Act.put, Hand.z1, Hand.z2, Hand.z3, i64_w, i32_w]
                    rfl
                   refine pure_ (i := 27) (N := some 129) (v := ?_) (a' := ?_) #[true, true, true, true, true, true, true, true, true, true, true, true, true, true, true, true, true, true, true, true, true, true, true, true, true, true, true, true, false, false, false, false] rfl rfl (any_of HT_.out (by kernel_rfl)) (fun _ _ _ h => h) (Or.inl ⟨by rfl, ?_⟩) ?_ ?_
                   rotate_left
                   ·intro w'
                    go_simp
                    with_reducible rfl
                   rotate_left
                   ·simp only [Act.put, Hand.z1, Hand.z2, Hand.z3, i64_w, i32_w]
                    rfl
                   refine pure_ (i := 28) (N := some 130) (v := ?_) (a' := ?_) #[true, true, true, true, true, true, true, true, true, true, true, true, true, true, true, true, true, true, true, true, true, true, true, true, true, true, true, true, true, false, false, false] rfl rfl (any_of HT_.out (by kernel_rfl)) (fun _ _ _ h => h) (Or.inl ⟨by rfl, ?_⟩) ?_ ?_
                   rotate_left
                   ·intro w'
                    go_simp
                    with_reducible rfl
                   rotate_left
                   ·simp only [Act.put, Hand.z1, Hand.z2, Hand.z3, i64_w, i32_w]
                    rfl
                   refine pure_ (i := 31) (N := some 133) (v := ?_) (a' := ?_) #[true, true, true, true, true, true, true, true, true, true, true, true, true, true, true, true, true, true, true, true, true, true, true, true, true, true, true, true, true, false, false, true] rfl rfl (any_of HT_.out (by kernel_rfl)) (fun _ _ _ h => h) (Or.inl ⟨by rfl, ?_⟩) ?_ ?_
                   rotate_left
                   ·intro w'
                    go_simp
                    with_reducible rfl
                   rotate_left
                   ·simp only [Act.put, Hand.z1, Hand.z2, Hand.z3, i64_w, i32_w]
                    rfl
                   refine one_ (i := 29) (N := some 131) #[true, true, true, true, true, true, true, true, true, true, true, true, true, true, true, true, true, true, true, true, true, true, true, true, true, true, true, true, true, true, false, true] rfl rfl (one_of HT_.out (by kernel_rfl)) (by decide) (fun K hK => ?_)
                   refine Kd.R_lit_step Kd.string _ 9 ?hg (N := 131) ?hd (xs := ([a4, x22_3, x22_3.extract 0 (t230 : Int).toNat, ((x22_3.extract 0 (t230 : Int).toNat) ++ a6) ++ (x22_3.extract ((ji56) : Int).toNat x22_3.size), ((x22_3.extract 0 (t230 : Int).toNat) ++ a6) ++ (x22_3.extract (t230 : Int).toNat x22_3.size)] : List ByteArray)) (inner := [.string a4, .string x22_3, .string (x22_3.extract 0 (t230 : Int).toNat), .string (((x22_3.extract 0 (t230 : Int).toNat) ++ a6) ++ (x22_3.extract ((ji56) : Int).toNat x22_3.size)), .string (((x22_3.extract 0 (t230 : Int).toNat) ++ a6) ++ (x22_3.extract (t230 : Int).toNat x22_3.size))]) (ok := fun _ => True) (okp := fun _ => True) ?hr ?hp (fun _ hk => hk) trivial (Below.refl _ _) (Nat.le_refl _) (by simp) ?_; (case hd => rfl); (case hg => rfl); (case hr => first | (go_simp; done) | (go_simp; rfl)); (case hp => exact (Reps.one (show Kd.M Kd.string _ _ _ a4 [.string a4] from rfl) (Reps.one (show Kd.M Kd.string _ _ _ x22_3 [.string x22_3] from rfl) (Reps.one (show Kd.M Kd.string _ _ _ (x22_3.extract 0 (t230 : Int).toNat) [.string (x22_3.extract 0 (t230 : Int).toNat)] from rfl) (Reps.one (show Kd.M Kd.string _ _ _ (((x22_3.extract 0 (t230 : Int).toNat) ++ a6) ++ (x22_3.extract ((ji56) : Int).toNat x22_3.size)) [.string (((x22_3.extract 0 (t230 : Int).toNat) ++ a6) ++ (x22_3.extract ((ji56) : Int).toNat x22_3.size))] from rfl) (Reps.one (show Kd.M Kd.string _ _ _ (((x22_3.extract 0 (t230 : Int).toNat) ++ a6) ++ (x22_3.extract (t230 : Int).toNat x22_3.size)) [.string (((x22_3.extract 0 (t230 : Int).toNat) ++ a6) ++ (x22_3.extract (t230 : Int).toNat x22_3.size))] from rfl) (Reps.none _ _)))))))
                   intro v232 w66 ho67 hb hg_ hnew_
                   clear hg_ hnew_
                   (first | rw [← Ny231.out] at ho67 | (simp only [Int.reduceToNat] at ho67; rw [← Ny231.out] at ho67))
                   have n0_ := Aside0.mk (Kd.R_below (by (with_reducible repeat (first | apply Kd.R_alloc | apply Kd.R_drewN | apply Kd.R_drew)); exact HO_38.out) hb)
                   have n1_ := Aside0.mk (Kd.R_below (by (with_reducible repeat (first | apply Kd.R_alloc | apply Kd.R_drewN | apply Kd.R_drew)); exact HO_79.out) hb)
                   have n2_ := Aside0.mk (Kd.R_lower ho67 (below_size (by repeat (first | (with_reducible first | exact HB.out | apply below_alloc | apply pw_below_drewN | apply below_drew1 | refine below_set ?_ GE209.out) | exact HB.out))))
                   have n3_ := Aside0.mk (blk_below (g := gb209) (o := .cells #[.int .i64 a0_0, .int .i64 a0_1, .string a0_2] 23 (0, 0)) (by (with_reducible repeat (first | refine blk_drewN ?_ _ | refine blk_drew ?_ | refine blk_alloc ?_ _)); exact BK209.out) hb)
                   have n4_ := Aside0.mk (below_step (by repeat (first | (with_reducible first | exact HB.out | apply below_alloc | apply pw_below_drewN | apply below_drew1 | refine below_set ?_ GE209.out) | exact HB.out)) hb)
                   clear HO_38
                   clear HO_79
                   clear BK209
                   clear HB
                   have HO_38 := n0_
                   have HO_79 := n1_
                   have HO233 := n2_
                   have BK209 := n3_
                   have HB := n4_
                   clear n0_ n1_ n2_ n3_ n4_
                   clear hb ho67
                   obtain ⟨Ao68, co68, eo68⟩ := Kd.R_slice HO233.out
                   (first | subst eo68 | (injection eo68 with f1_ f2_ f3_; have f4_ := f1_.symm; have f5_ := f3_.symm; clear f1_ f2_ f3_; subst f4_; subst f5_))
                   refine hK.out _ _ trivial (fun hHeld => ?_)
                   clear hK K
                   refine norm_ (a' := ?_) ?_ ?_
                   rotate_left
                   ·show Act.put _ (some 131) _ = _
                    simp only [Act.put, Hand.z1, Hand.z2, Hand.z3, i64_w, i32_w]
                    rfl
                   refine pure_ (i := 30) (N := some 132) (v := ?_) (a' := ?_) #[true, true, true, true, true, true, true, true, true, true, true, true, true, true, true, true, true, true, true, true, true, true, true, true, true, true, true, true, true, true, true, true] rfl rfl (any_of HT_.out (by kernel_rfl)) (fun _ _ _ h => h) (Or.inl ⟨by rfl, ?_⟩) ?_ ?_
                   rotate_left
                   ·intro w'
                    go_simp
                    with_reducible rfl
                   rotate_left
                   ·simp only [Act.put, Hand.z1, Hand.z2, Hand.z3, i64_w, i32_w]
                    rfl
                   refine done_ (done_of HT_.out (by kernel_rfl)) ?_
                   try go_wp2
                   go_loopg [133] k3 (fun kq v133 w' => ∃ (x133_4 : Int), v133 = .int .i64 x133_4 ∧ Aside0 (careenlaw06_FrameTells.l2 kq l2 l3 a4 a5 a6 t210 (rd y211 x40_1) y211 (y211.length : Int) x40_1 y231 (y231.length : Int) x133_4 a0_0 a0_1 a0_2 = some true) ∧ Aside0 (kq ≤ k3) ∧ Aside0 (Kd.R (Kd.int .i64) 3 w' w.heap.size (fun _ => True) (.slice (some ad214) y211.length co13) y211) ∧ Aside0 (Kd.R Kd.string 9 w' w.heap.size (fun _ => True) (.slice Ao68 y231.length co68) y231) ∧ Aside0 (w'.heap[gb209]? = some (.cells #[.int .i64 a0_0, .int .i64 a0_1, .string a0_2] 23 (0, 0))) ∧ Aside0 (Below w.heap.size w w'))
                   case atStart => exact ⟨(0), (by first | rfl | (simp; done) | (simp [*]; done)), H', ⟨Nat.le_refl _⟩, ⟨by (with_reducible repeat (first | apply Kd.R_alloc | apply Kd.R_drewN | apply Kd.R_drew)); exact HO_38.out⟩, ⟨by (with_reducible repeat (first | apply Kd.R_alloc | apply Kd.R_drewN | apply Kd.R_drew)); exact HO233.out⟩, ⟨by (with_reducible repeat (first | refine blk_drewN ?_ _ | refine blk_drew ?_ | refine blk_alloc ?_ _)); exact BK209.out⟩, ⟨by repeat (first | (with_reducible first | exact HB.out | apply below_alloc | apply pw_below_drewN | apply below_drew1 | refine below_set ?_ GE209.out) | exact HB.out)⟩⟩
                   case round =>
                    clear H'
                    try clear c1
                    try clear c2
                    try clear p2
                    try clear q2
                    try clear hx2
                    try clear c3
                    try clear c4
                    try clear c5
                    try clear c6
                    try clear p6
                    try clear c11
                    try clear c12
                    try clear c13
                    try clear c14
                    try clear c14b0
                    try clear c15
                    try clear c15b0
                    try clear c16
                    try clear c16b0
                    try clear c17
                    try clear p21
                    try clear q21
                    try clear hx21
                    try clear p22
                    try clear q22
                    try clear hx22
                    try clear c24
                    try clear c24b0
                    try clear c24b1
                    try clear c25
                    try clear c25b0
                    try clear c25b1
                    try clear c33
                    try clear c38
                    try clear c38b0
                    try clear c39
                    try clear c39b0
                    try clear c40
                    try clear c40b0
                    try clear c43
                    try clear c43b0
                    try clear c43b1
                    try clear c43b2
                    try clear c45
                    try clear c51
                    try clear c51b0
                    try clear c51b1
                    try clear c52
                    try clear c52b0
                    try clear c52b1
                    try clear c53
                    try clear c53b0
                    try clear c54
                    try clear c54b0
                    try clear c55
                    try clear c55b0
                    try clear c55b1
                    try clear c55b2
                    try clear c57
                    try clear c57b0
                    try clear c57b1
                    try clear c58
                    try clear c58b0
                    try clear c58b1
                    try clear c59
                    try clear c59b0
                    try clear c59b1
                    try clear c59b2
                    try clear c60
                    try clear c60b0
                    try clear c61
                    try clear c61b0
                    try clear c62
                    try clear c62b0
                    try clear c63
                    try clear c63b0
                    try clear c64
                    try clear c64b0
                    try clear c64b1
                    try clear c64b2
                    try clear p64
                    try clear hcz20_0
                    try clear hcz20_1
                    try clear hcz20_2
                    try clear hcz22_0
                    try clear hcz22_1
                    try clear hcz22_2
                    try clear hcz46_0
                    try clear hcz46_1
                    try clear hcz46_2
                    try clear hfz20_0
                    try clear hfz20_1
                    try clear hfz20_2
                    try clear hfz22_0
                    try clear hfz22_1
                    try clear hfz22_2
                    try clear hfz46_0
                    try clear hfz46_1
                    try clear hfz46_2
                    try clear hx214_0
                    try clear hx225_0
                    try clear hx225_1
                    try clear hx225_2
                    try clear p2
                    try clear p21
                    try clear p214
                    try clear p225
                    try clear q2
                    try clear q21
                    try clear q214
                    try clear q225
                    obtain ⟨x133_4, rfl, HA, HK4, HO_38, HO_131, BK209, HB⟩ := hrel
                    cases gk with
                    | zero => cases (show (none : Option _) = some _ from HA.out)
                    | succ k4 =>
                     have H := HA.out
                     clear HA
                     simp only [careenlaw06_FrameTells.l2] at H
                     by_cases c69 : x133_4 < (y231.length : Int)
                     ·rw [if_pos c69] at H
                      have c69b0 : decide (x133_4 < (y231.length : Int)) = true := decide_eq_true c69
                      clear c69
                      by_cases c70 : 0 ≤ x133_4
                      ·rw [if_pos c70] at H
                       have c70b0 : decide (0 ≤ x133_4) = true := decide_eq_true c70
                       clear c70
                       by_cases c71 : x133_4 < (y231.length : Int)
                       ·rw [if_pos c71] at H
                        have c71b0 : decide (x133_4 < (y231.length : Int)) = true := decide_eq_true c71
                        clear c71
                        replace H := Option.bind_eq_some_iff.mp H
                        obtain ⟨⟨t235, t236, t237⟩, A720, H⟩ := H
                        replace H : ((careenref06_Scan.f k4 (rd y211 x40_1) (rdOf ByteArray.empty y231 x133_4)).bind fun bt240 => ((careenref06_Same.f k4 t235 bt240.1).bind fun t245 => (if t245 = true then (if t236 = bt240.2.1 then (if t237 = bt240.2.2 then (careenlaw06_FrameTells.l2 k4 l2 l3 a4 a5 a6 t210 (rd y211 x40_1) y211 (y211.length : Int) x40_1 y231 (y231.length : Int) (wrap64 (x133_4 + 1)) a0_0 a0_1 a0_2) else (some false)) else (some false)) else (some false)))) = some true := H
                        have A72 := Aside0.mk A720
                        clear A720
                        replace H := Option.bind_eq_some_iff.mp H
                        obtain ⟨⟨t240, t241, t242⟩, A730, H⟩ := H
                        replace H : ((careenref06_Same.f k4 t235 t240).bind fun t245 => (if t245 = true then (if t236 = t241 then (if t237 = t242 then (careenlaw06_FrameTells.l2 k4 l2 l3 a4 a5 a6 t210 (rd y211 x40_1) y211 (y211.length : Int) x40_1 y231 (y231.length : Int) (wrap64 (x133_4 + 1)) a0_0 a0_1 a0_2) else (some false)) else (some false)) else (some false))) = some true := H
                        have A73 := Aside0.mk A730
                        clear A730
                        replace H := Option.bind_eq_some_iff.mp H
                        obtain ⟨t245, A740, H⟩ := H
                        replace H : (if t245 = true then (if t236 = t241 then (if t237 = t242 then (careenlaw06_FrameTells.l2 k4 l2 l3 a4 a5 a6 t210 (rd y211 x40_1) y211 (y211.length : Int) x40_1 y231 (y231.length : Int) (wrap64 (x133_4 + 1)) a0_0 a0_1 a0_2) else (some false)) else (some false)) else (some false)) = some true := H
                        have A74 := Aside0.mk A740
                        clear A740
                        by_cases c75 : t245 = true
                        ·subst c75
                         have H1 : (if t236 = t241 then (if t237 = t242 then (careenlaw06_FrameTells.l2 k4 l2 l3 a4 a5 a6 t210 (rd y211 x40_1) y211 (y211.length : Int) x40_1 y231 (y231.length : Int) (wrap64 (x133_4 + 1)) a0_0 a0_1 a0_2) else (some false)) else (some false)) = some true := by rw [if_pos rfl] at H; exact H
                         clear H
                         have H := H1
                         clear H1
                         by_cases c76 : t236 = t241
                         ·rw [if_pos c76] at H
                          have c76b0 : (t236 == t241) = true := beq_iff_eq.mpr c76
                          have c76b1 : (t236 != t241) = false := bne_eq_false_iff_eq.mpr c76
                          clear c76
                          by_cases c77 : t237 = t242
                          ·rw [if_pos c77] at H
                           have c77b0 : (t237 == t242) = true := beq_iff_eq.mpr c77
                           have c77b1 : (t237 != t242) = false := bne_eq_false_iff_eq.mpr c77
                           clear c77
                           have H' := Aside0.mk H
                           clear H
                           have p234 : 0 ≤ (x133_4 : Int) := of_decide_eq_true (by first | (with_reducible assumption) | assumption)
                           have q234 : x133_4 < (y231.length : Int) := of_decide_eq_true (by first | (with_reducible assumption) | assumption)
                           obtain ⟨ad234, e234, hx234_0⟩ := Kd.at_string (Kd.R_reads' HO_131.out).2.2 x133_4 p234 q234
                           cases e234
                           replace p234 := eq_true p234
                           replace q234 := eq_true q234
                           go_wp2_with (first | ((with_reducible refine gate_callee (f := 18) rfl ?_); refine goesL_ (some 140) rfl rfl Try.func18 (by kernel_rfl) rfl #[.int .i64 (rd y211 x40_1), .string (rdOf ByteArray.empty y231 x133_4)] rfl (by (try simp only [List.map_toArray, List.map_cons, List.map_nil]); first | done | rfl | (simp only [List.length_drop, List.length_take]; rfl)) ?_; (with_reducible refine (frame_Scan.calls k4 (rd y211 x40_1) (rdOf ByteArray.empty y231 x133_4) t235 t236 t237 _ A72.out).mono ?_); rintro e w78 ⟨v238, rfl, ho0, hb⟩; refine ⟨_, rfl, ?_⟩; have n0_ := Aside0.mk (Kd.R_below (by (with_reducible repeat (first | apply Kd.R_alloc | apply Kd.R_drewN | apply Kd.R_drew)); exact HO_38.out) hb); have n1_ := Aside0.mk (Kd.R_below (by (with_reducible repeat (first | apply Kd.R_alloc | apply Kd.R_drewN | apply Kd.R_drew)); exact HO_131.out) hb); have n2_ := Aside0.mk (Kd.R_lower (Kd.R_newB ho0 (g := gb209) (o := .cells #[.int .i64 a0_0, .int .i64 a0_1, .string a0_2] 23 (0, 0)) (by (with_reducible repeat (first | refine blk_drewN ?_ _ | refine blk_drew ?_ | refine blk_alloc ?_ _)); exact BK209.out)) (below_size (by repeat (first | (with_reducible first | exact HB.out | apply below_alloc | apply pw_below_drewN | apply below_drew1 | refine below_set ?_ GE209.out) | exact HB.out)))); have n3_ := Aside0.mk (blk_below (g := gb209) (o := .cells #[.int .i64 a0_0, .int .i64 a0_1, .string a0_2] 23 (0, 0)) (by (with_reducible repeat (first | refine blk_drewN ?_ _ | refine blk_drew ?_ | refine blk_alloc ?_ _)); exact BK209.out) hb); have n4_ := Aside0.mk (below_step (by repeat (first | (with_reducible first | exact HB.out | apply below_alloc | apply pw_below_drewN | apply below_drew1 | refine below_set ?_ GE209.out) | exact HB.out)) hb); clear HO_38; clear HO_131; clear BK209; clear HB; have HO_38 := n0_; have HO_131 := n1_; have HO239 := n2_; have BK209 := n3_; have HB := n4_; clear n0_ n1_ n2_ n3_ n4_; (try clear hb); (try clear hb2); (try clear hk); (try clear hi); (try clear ho0)) | ((with_reducible refine gate_callee (f := 19) rfl ?_); refine goesL_ (some 147) rfl rfl Try.func19 (by kernel_rfl) rfl #[.int .i64 (rd y211 x40_1), .string (rdOf ByteArray.empty y231 x133_4)] rfl (by (try simp only [List.map_toArray, List.map_cons, List.map_nil]); first | done | rfl | (simp only [List.length_drop, List.length_take]; rfl)) ?_; (with_reducible refine (careenref06_Scan.calls k4 (rd y211 x40_1) (rdOf ByteArray.empty y231 x133_4) t240 t241 t242 _ A73.out).mono ?_); rintro e w79 ⟨v243, rfl, ho0, hb⟩; refine ⟨_, rfl, ?_⟩; have n0_ := Aside0.mk (Kd.R_below (by (with_reducible repeat (first | apply Kd.R_alloc | apply Kd.R_drewN | apply Kd.R_drew)); exact HO_38.out) hb); have n1_ := Aside0.mk (Kd.R_below (by (with_reducible repeat (first | apply Kd.R_alloc | apply Kd.R_drewN | apply Kd.R_drew)); exact HO_131.out) hb); have n2_ := Aside0.mk (Kd.R_elder' (by (with_reducible repeat (first | apply Kd.R_alloc | apply Kd.R_drewN | apply Kd.R_drew)); exact HO239.out) (Kd.R_base ho0) hb); have n3_ := Aside0.mk (Kd.R_lower (Kd.R_newB (Kd.R_new' ho0 (Kd.R_lt (by (with_reducible repeat (first | apply Kd.R_alloc | apply Kd.R_drewN | apply Kd.R_drew)); exact HO239.out))) (g := gb209) (o := .cells #[.int .i64 a0_0, .int .i64 a0_1, .string a0_2] 23 (0, 0)) (by (with_reducible repeat (first | refine blk_drewN ?_ _ | refine blk_drew ?_ | refine blk_alloc ?_ _)); exact BK209.out)) (below_size (by repeat (first | (with_reducible first | exact HB.out | apply below_alloc | apply pw_below_drewN | apply below_drew1 | refine below_set ?_ GE209.out) | exact HB.out)))); have n4_ := Aside0.mk (blk_below (g := gb209) (o := .cells #[.int .i64 a0_0, .int .i64 a0_1, .string a0_2] 23 (0, 0)) (by (with_reducible repeat (first | refine blk_drewN ?_ _ | refine blk_drew ?_ | refine blk_alloc ?_ _)); exact BK209.out) hb); have n5_ := Aside0.mk (below_step (by repeat (first | (with_reducible first | exact HB.out | apply below_alloc | apply pw_below_drewN | apply below_drew1 | refine below_set ?_ GE209.out) | exact HB.out)) hb); clear HO_38; clear HO_131; clear HO239; clear BK209; clear HB; have HO_38 := n0_; have HO_131 := n1_; have HO239 := n2_; have HO244 := n3_; have BK209 := n4_; have HB := n5_; clear n0_ n1_ n2_ n3_ n4_ n5_; (try clear hb); (try clear hb2); (try clear hk); (try clear hi); (try clear ho0); obtain ⟨Ao80, co80, eo80⟩ := Kd.R_slice HO239.out; subst eo80; obtain ⟨Ao81, co81, eo81⟩ := Kd.R_slice HO244.out; subst eo81) | ((with_reducible refine gate_callee (f := 20) rfl ?_); refine goesL_ (some 153) rfl rfl Try.func20 (by kernel_rfl) rfl #[.slice Ao80 t235.length co80, .slice Ao81 t240.length co81] rfl (by (try simp only [List.map_toArray, List.map_cons, List.map_nil]); first | done | rfl | (simp only [List.length_drop, List.length_take]; rfl)) ?_; (with_reducible refine (careenref06_Same.calls k4 _ _ t235 _ _ t240 true _ ?side1 ?side2 ?side3 ?side4 A74.out).mono ?_); (case side1 => repeat (first | exact (Kd.R_reads' HO239.out).2.2 | (with_reducible refine Kd.C_alloc ?_ _) | (with_reducible refine Kd.C_drewN ?_ _) | (with_reducible refine Kd.C_drew ?_))); (case side2 => exact (Kd.R_reads' HO239.out).2.1); (case side3 => repeat (first | exact (Kd.R_reads' HO244.out).2.2 | (with_reducible refine Kd.C_alloc ?_ _) | (with_reducible refine Kd.C_drewN ?_ _) | (with_reducible refine Kd.C_drew ?_))); (case side4 => exact (Kd.R_reads' HO244.out).2.1); rintro e w' ⟨rfl, ⟨nd, rfl⟩⟩; refine ⟨_, rfl, ?_⟩))
                           go_roundg k4
                           case measure => have := HK1.out; have := HJ18.out; have := HK3.out; have := HK4.out; omega
                           case rel => exact ⟨(wrap64 (x133_4 + 1)), (by first | rfl | (simp; done) | (simp [*]; done)), H', ⟨by have := HK1.out; have := HJ18.out; have := HK3.out; have := HK4.out; omega⟩, ⟨by (with_reducible repeat (first | apply Kd.R_alloc | apply Kd.R_drewN | apply Kd.R_drew)); exact HO_38.out⟩, ⟨by (with_reducible repeat (first | apply Kd.R_alloc | apply Kd.R_drewN | apply Kd.R_drew)); exact HO_131.out⟩, ⟨by (with_reducible repeat (first | refine blk_drewN ?_ _ | refine blk_drew ?_ | refine blk_alloc ?_ _)); exact BK209.out⟩, ⟨by repeat (first | (with_reducible first | exact HB.out | apply below_alloc | apply pw_below_drewN | apply below_drew1 | refine below_set ?_ GE209.out) | exact HB.out)⟩⟩
                          ·rw [if_neg c77] at H
                           have c77b0 : (t237 == t242) = false := beq_eq_false_iff_ne.mpr c77
                           have c77b1 : (t237 != t242) = true := bne_iff_ne.mpr c77
                           exact absurd H (by simp)
                         ·rw [if_neg c76] at H
                          have c76b0 : (t236 == t241) = false := beq_eq_false_iff_ne.mpr c76
                          have c76b1 : (t236 != t241) = true := bne_iff_ne.mpr c76
                          exact absurd H (by simp)
                        ·replace c75 := Bool.eq_false_iff.mpr c75
                         subst c75
                         have H1 : (some false) = some true := by rw [if_neg (show ¬ (false = true) by decide)] at H; exact H
                         clear H
                         have H := H1
                         clear H1
                         exact absurd H (by simp)
                       ·rw [if_neg c71] at H
                        exact absurd H (by simp)
                      ·rw [if_neg c70] at H
                       exact absurd H (by simp)
                     ·rw [if_neg c69] at H
                      have c69b0 : decide (x133_4 < (y231.length : Int)) = false := decide_eq_false c69
                      clear c69
                      have H' := Aside0.mk H
                      clear H
                      go_wp2
                      go_roundg k4
                      case measure => have := HK1.out; have := HJ18.out; have := HK3.out; have := HK4.out; omega
                      case rel => exact ⟨(wrap64 (x40_1 + 1)), (by first | rfl | (simp; done) | (simp [*]; done)), H', ⟨by have := HK1.out; have := HJ18.out; have := HK3.out; have := HK4.out; omega⟩, ⟨by (with_reducible repeat (first | apply Kd.R_alloc | apply Kd.R_drewN | apply Kd.R_drew)); exact HO_38.out⟩, ⟨by (with_reducible repeat (first | refine blk_drewN ?_ _ | refine blk_drew ?_ | refine blk_alloc ?_ _)); exact BK209.out⟩, ⟨by repeat (first | (with_reducible first | exact HB.out | apply below_alloc | apply pw_below_drewN | apply below_drew1 | refine below_set ?_ GE209.out) | exact HB.out)⟩⟩
                  ·rw [if_neg c64] at H
                   exact absurd H (by simp)
                 ·rw [if_neg c59] at H
                  exact absurd H (by simp)
                ·rw [if_neg c58] at H
                 exact absurd H (by simp)
               ·rw [if_neg c57] at H
                exact absurd H (by simp)
              ·rw [if_neg c55] at H
               exact absurd H (by simp)
             ·rw [if_neg c52] at H
              exact absurd H (by simp)
            ·rw [if_neg c51] at H
             exact absurd H (by simp)
     ·rw [if_neg c16] at H
      exact absurd H (by simp)
    ·rw [if_neg c15] at H
     exact absurd H (by simp)
   ·rw [if_neg c14] at H
    have c14b0 : decide (x40_1 < (y211.length : Int)) = false := decide_eq_false c14
    clear c14
    have HV_ := Aside0.mk (Option.some.inj H)
    clear H
    go_wp2
    go_ret
    exact ⟨by first | exact congrArg (fun b_ => Ending.returned (Value.bool b_)) HV_.out | (have hv_ := HV_.out; simp only [Bool.and_eq_true, beq_iff_eq] at hv_; simp [hv_]; done) | (have hv_ := HV_.out; simp at hv_; simp [*]; done) | rfl | (simp [errW_none, errW_some] <;> rfl) | (simp [*, errW_none, errW_some] <;> rfl), by repeat (first | (with_reducible first | exact HB.out | apply below_alloc | apply pw_below_drewN | apply below_drew1 | refine below_set ?_ GE209.out) | exact HB.out)⟩

/-- THE ONE PURE STATEMENT of careenlaw06_FrameTells. -/
def careenlaw06_FrameTells.Pure : Prop := ∀ (a0_0 : Int) (a0_1 : Int) (a0_2 : ByteArray) (a1 : Int) (l2 : List (S57)) (l3 : List ByteArray) (a4 : ByteArray) (a5 : Int) (a6 : ByteArray), (Lit.int .i64 a0_0).wf = true → (Lit.int .i64 a0_1).wf = true → a0_2.size ≤ 9223372036854775807 → (Lit.int .i64 a1).wf = true → l2.length * 24 ≤ 140737488351232 → (∀ x ∈ l2, (Lit.int .i64 x.f0).wf = true ∧ (Lit.int .i64 x.f1).wf = true ∧ (Lit.int .i64 x.f2).wf = true) → l3.length * 16 ≤ 140737488351232 → (∀ x ∈ l3, x.size ≤ 9223372036854775807) → a4.size ≤ 140737488351232 → (Lit.int .i64 a5).wf = true → a6.size ≤ 140737488351232 → ∃ k, careenlaw06_FrameTells.f k a0_0 a0_1 a0_2 a1 l2 l3 a4 a5 a6 = some true

end Go.Proofs.Ytmicfaeloanffaa.PAll
