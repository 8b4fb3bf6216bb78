-- Written by a program of this session (wip/xpatch.py, wip/xprint.sh) for seat Ytlhkcbcfhmjamaa.
import Derived.Test.YtlhkcbcfhmjamaaPAllx0
import Derived.Test.YtlhkcbcfhmjamaaPAllx1
import Derived.Test.YtlhkcbcfhmjamaaPAllx2
namespace Go.Proofs.Ytlhkcbcfhmjamaa.PAll
open Go.RowKit Go.Proofs.YtlhkcbcfhmjamaaW.PrintWords Go.Proofs.YtlhkcbcfhmjamaaW.PrintLast Go.Proofs.YtlhkcbcfhmjamaaW.PrintMore
attribute [local go_sem] max2_int min2_int max_two min_two max_three min_three max_four min_four   -- for this text's walks alone
set_option linter.unusedVariables false
set_option linter.unusedSimpArgs false

attribute [local go_sem high] eqA23
/-! ### careenlaw07_DiskSteps: function 6 -/
def careenlaw07_DiskSteps.f (a0 : ByteArray) (a1 : ByteArray) (a2 : ByteArray) (a3 : Int) : Option (Bool) := (careenlaw07_awake.f).bind fun t259 => (if 0 ≤ (mn (a0.size : Int) 500) then (if (mn (a0.size : Int) 500) ≤ (a0.size : Int) then (if 0 ≤ (mn (a1.size : Int) 500) then (if (mn (a1.size : Int) 500) ≤ (a1.size : Int) then (if 0 ≤ (mn (a2.size : Int) 500) then (if (mn (a2.size : Int) 500) ≤ (a2.size : Int) then ((disk_Append.f (⟨#[]⟩ : ByteArray) (⟨#[]⟩ : ByteArray) (⟨#[]⟩ : ByteArray) (a0.extract 0 ((mn (a0.size : Int) 500) : Int).toNat)).bind fun bt260 => ((disk_Append.f bt260.1 bt260.2.1 bt260.2.2.1 (a1.extract 0 ((mn (a1.size : Int) 500) : Int).toNat)).bind fun bt265 => ((disk_Sync.f bt265.1 bt265.2.1 bt265.2.2.1).bind fun bt270 => ((disk_Append.f bt270.1 bt270.2.1 bt270.2.2 (a2.extract 0 ((mn (a2.size : Int) 500) : Int).toNat)).bind fun bt273 => (if (a0.extract 0 ((mn (a0.size : Int) 500) : Int).toNat).size + (a1.extract 0 ((mn (a1.size : Int) 500) : Int).toNat).size ≤ 9223372036854775807 then ((disk_Append.f (⟨#[]⟩ : ByteArray) (⟨#[]⟩ : ByteArray) (⟨#[]⟩ : ByteArray) ((a0.extract 0 ((mn (a0.size : Int) 500) : Int).toNat) ++ (a1.extract 0 ((mn (a1.size : Int) 500) : Int).toNat))).bind fun bt278 => ((careenlaw07_pick.f a3 600).bind fun t283 => (if t259 = true then (if bt260.2.2.2 = 0 then (if bt265.2.2.2 = 0 then (if bt273.2.2.2 = 0 then (if bt278.2.2.2 = 0 then (if (bt265.1.toList == bt278.1.toList && (bt265.2.1.toList == bt278.2.1.toList && (bt265.2.2.1.toList == bt278.2.2.1.toList))) = true then ((disk_Log.f bt273.1 bt273.2.1 bt273.2.2.1).bind fun t284 => (if ((a0.extract 0 ((mn (a0.size : Int) 500) : Int).toNat) ++ (a1.extract 0 ((mn (a1.size : Int) 500) : Int).toNat)).size + (a2.extract 0 ((mn (a2.size : Int) 500) : Int).toNat).size ≤ 9223372036854775807 then (if t284.toList = (((a0.extract 0 ((mn (a0.size : Int) 500) : Int).toNat) ++ (a1.extract 0 ((mn (a1.size : Int) 500) : Int).toNat)) ++ (a2.extract 0 ((mn (a2.size : Int) 500) : Int).toNat)).toList then ((disk_Crash.f bt273.1 bt273.2.1 bt273.2.2.1 t283).bind fun bt285 => ((disk_Log.f bt285.1 bt285.2.1 bt285.2.2).bind fun t288 => (if 0 ≤ (mn t283 (mn (a2.size : Int) 500)) then (if (mn t283 (mn (a2.size : Int) 500)) ≤ (mn (a2.size : Int) 500) then (if ((a0.extract 0 ((mn (a0.size : Int) 500) : Int).toNat) ++ (a1.extract 0 ((mn (a1.size : Int) 500) : Int).toNat)).size + ((a2.extract 0 ((mn (a2.size : Int) 500) : Int).toNat).extract 0 ((mn t283 (mn (a2.size : Int) 500)) : Int).toNat).size ≤ 9223372036854775807 then (if t288.toList = (((a0.extract 0 ((mn (a0.size : Int) 500) : Int).toNat) ++ (a1.extract 0 ((mn (a1.size : Int) 500) : Int).toNat)) ++ ((a2.extract 0 ((mn (a2.size : Int) 500) : Int).toNat).extract 0 ((mn t283 (mn (a2.size : Int) 500)) : Int).toNat)).toList then ((disk_Crash.f bt265.1 bt265.2.1 bt265.2.2.1 t283).bind fun bt289 => ((disk_Log.f bt289.1 bt289.2.1 bt289.2.2).bind fun t292 => (if 0 ≤ (mn t283 ((mn (a0.size : Int) 500) + (mn (a1.size : Int) 500))) then (if (mn t283 ((mn (a0.size : Int) 500) + (mn (a1.size : Int) 500))) ≤ ((mn (a0.size : Int) 500) + (mn (a1.size : Int) 500)) then (some (t292.toList == (((a0.extract 0 ((mn (a0.size : Int) 500) : Int).toNat) ++ (a1.extract 0 ((mn (a1.size : Int) 500) : Int).toNat)).extract 0 ((mn t283 ((mn (a0.size : Int) 500) + (mn (a1.size : Int) 500))) : Int).toNat).toList)) else (none)) else (none)))) else (some false)) else (none)) else (none)) else (none)))) else (some false)) else (none))) else (some false)) else (some false)) else (some false)) else (some false)) else (some false)) else (some false)))) else (none)))))) else (none)) else (none)) else (none)) else (none)) else (none)) else (none))
def careenlaw07_DiskSteps.T10 : Bool × List (List Nat × List Nat) := (true, [([], []), ([0], [0]), ([1], [1]), ([2, 1], [1, 2]), ([1, 3], [1, 3]), ([4, 1], [4]), ([5], [5]), ([6, 5], [5, 6]), ([5, 7], [5, 7]), ([8, 5], [8]), ([9], [9]), ([10, 9], [9, 10]), ([9, 11], [9, 11]), ([12, 9], [12]), ([13], [13]), ([14, 13], [13, 14]), ([13, 15], [13, 15]), ([16, 13], [16]), ([17], [17]), ([17], [17]), ([18, 19, 17], [17, 18, 19]), ([17, 20], [17, 20]), ([21, 17], [21]), ([22], [22]), ([23, 22, 22], [22, 23]), ([22], [22]), ([22], [22]), ([25, 26, 22], [22, 25, 26]), ([22], [22]), ([27, 28, 22], [22, 27, 28]), ([24, 29, 22], [22, 24, 29]), ([22, 30], [22, 30]), ([31, 24], [31]), ([32], [32]), ([32], [32]), ([33, 34, 32, 32], [32, 33, 34]), ([35, 35, 32], [32, 35]), ([32], [32]), ([32], [32]), ([37, 38, 32], [32, 37, 38]), ([32], [32]), ([32], [32]), ([32], [32]), ([42, 32], [32, 42]), ([41, 43, 32], [32, 41, 43]), ([40, 44, 32], [32, 40, 44]), ([39, 45, 32], [32, 39, 45]), ([36, 46, 32], [32, 36, 46]), ([32, 47], [32, 47]), ([48, 36], [48]), ([49], [49]), ([49], [49]), ([50, 51, 49, 49], [49, 50, 51]), ([52, 52, 49], [49, 52]), ([49], [49]), ([49], [49]), ([54, 55, 49], [49, 54, 55]), ([49], [49]), ([49], [49]), ([49], [49]), ([58, 59, 49], [49, 58, 59]), ([60, 49], [49, 60]), ([57, 61, 49], [49, 57, 61]), ([56, 62, 49], [49, 56, 62]), ([53, 63, 49], [49, 53, 63]), ([49, 64], [49, 64]), ([65, 53, 0, 1, 2, 3, 4, 5, 6, 7, 8, 9, 10, 11, 12, 13, 14, 15, 16, 17, 18, 19, 20, 21, 22, 23, 24, 25, 26, 27, 28, 29, 30, 31, 32, 33, 34, 35, 36, 37, 38, 39, 40, 41, 42, 43, 44, 45, 46, 47, 48, 49, 50, 51, 52, 53, 54, 55, 56, 57, 58, 59, 60, 61, 62, 63, 64, 65], [65])])
def careenlaw07_DiskSteps.B10 : List Nat := [0, 1, 3, 7, 15, 31, 63, 127, 255, 511, 1023, 2047, 4095, 8191, 16383, 32767, 65535, 131071, 262143, 262143, 1048575, 2097151, 4194303, 8388607, 16777215, 8388607, 8388607, 109051903, 8388607, 511705087, 1073741823, 2147483647, 4294967295, 8589934591, 8589934591, 34359738367, 68719476735, 8589934591, 8589934591, 420906795007, 8589934591, 8589934591, 8589934591, 4406636445695, 15401752723455, 34093450395647, 70239895158783, 140737488355327, 281474976710655, 562949953421311, 1125899906842623, 1125899906842623, 4503599627370495, 9007199254740991, 1125899906842623, 1125899906842623, 55169095435288575, 1125899906842623, 1125899906842623, 1125899906842623, 865817028361977855, 2018738532968824831, 4468696730258374655, 9206483538252136447, 18446744073709551615, 36893488147419103231, 73786976294838206463]
theorem careenlaw07_DiskSteps.tab10 : rtab .any (opsOf Try.f6 10) = careenlaw07_DiskSteps.T10 := by kernel_rfl
theorem careenlaw07_DiskSteps.bits10 : waitsOk careenlaw07_DiskSteps.T10.2 careenlaw07_DiskSteps.B10 = true := by kernel_rfl
set_option maxHeartbeats 8000000 in
set_option maxRecDepth 100000 in
theorem careenlaw07_DiskSteps.calls (a0 : ByteArray) (a1 : ByteArray) (a2 : ByteArray) (a3 : Int) (w : World) (h : careenlaw07_DiskSteps.f a0 a1 a2 a3 = some true) :
    Calls Try.prog 6 #[.string a0, .string a1, .string a2, .int .i64 a3] w fun e w' => e = .returned (.bool true) ∧ Below w.heap.size w w' := by
  have hu23 := Try.underlying23
  have HB := Aside0.mk (Below.refl w.heap.size w)
  have H : ((careenlaw07_awake.f).bind fun t259 => (if 0 ≤ (mn (a0.size : Int) 500) then (if (mn (a0.size : Int) 500) ≤ (a0.size : Int) then (if 0 ≤ (mn (a1.size : Int) 500) then (if (mn (a1.size : Int) 500) ≤ (a1.size : Int) then (if 0 ≤ (mn (a2.size : Int) 500) then (if (mn (a2.size : Int) 500) ≤ (a2.size : Int) then ((disk_Append.f (⟨#[]⟩ : ByteArray) (⟨#[]⟩ : ByteArray) (⟨#[]⟩ : ByteArray) (a0.extract 0 ((mn (a0.size : Int) 500) : Int).toNat)).bind fun bt260 => ((disk_Append.f bt260.1 bt260.2.1 bt260.2.2.1 (a1.extract 0 ((mn (a1.size : Int) 500) : Int).toNat)).bind fun bt265 => ((disk_Sync.f bt265.1 bt265.2.1 bt265.2.2.1).bind fun bt270 => ((disk_Append.f bt270.1 bt270.2.1 bt270.2.2 (a2.extract 0 ((mn (a2.size : Int) 500) : Int).toNat)).bind fun bt273 => (if (a0.extract 0 ((mn (a0.size : Int) 500) : Int).toNat).size + (a1.extract 0 ((mn (a1.size : Int) 500) : Int).toNat).size ≤ 9223372036854775807 then ((disk_Append.f (⟨#[]⟩ : ByteArray) (⟨#[]⟩ : ByteArray) (⟨#[]⟩ : ByteArray) ((a0.extract 0 ((mn (a0.size : Int) 500) : Int).toNat) ++ (a1.extract 0 ((mn (a1.size : Int) 500) : Int).toNat))).bind fun bt278 => ((careenlaw07_pick.f a3 600).bind fun t283 => (if t259 = true then (if bt260.2.2.2 = 0 then (if bt265.2.2.2 = 0 then (if bt273.2.2.2 = 0 then (if bt278.2.2.2 = 0 then (if (bt265.1.toList == bt278.1.toList && (bt265.2.1.toList == bt278.2.1.toList && (bt265.2.2.1.toList == bt278.2.2.1.toList))) = true then ((disk_Log.f bt273.1 bt273.2.1 bt273.2.2.1).bind fun t284 => (if ((a0.extract 0 ((mn (a0.size : Int) 500) : Int).toNat) ++ (a1.extract 0 ((mn (a1.size : Int) 500) : Int).toNat)).size + (a2.extract 0 ((mn (a2.size : Int) 500) : Int).toNat).size ≤ 9223372036854775807 then (if t284.toList = (((a0.extract 0 ((mn (a0.size : Int) 500) : Int).toNat) ++ (a1.extract 0 ((mn (a1.size : Int) 500) : Int).toNat)) ++ (a2.extract 0 ((mn (a2.size : Int) 500) : Int).toNat)).toList then ((disk_Crash.f bt273.1 bt273.2.1 bt273.2.2.1 t283).bind fun bt285 => ((disk_Log.f bt285.1 bt285.2.1 bt285.2.2).bind fun t288 => (if 0 ≤ (mn t283 (mn (a2.size : Int) 500)) then (if (mn t283 (mn (a2.size : Int) 500)) ≤ (mn (a2.size : Int) 500) then (if ((a0.extract 0 ((mn (a0.size : Int) 500) : Int).toNat) ++ (a1.extract 0 ((mn (a1.size : Int) 500) : Int).toNat)).size + ((a2.extract 0 ((mn (a2.size : Int) 500) : Int).toNat).extract 0 ((mn t283 (mn (a2.size : Int) 500)) : Int).toNat).size ≤ 9223372036854775807 then (if t288.toList = (((a0.extract 0 ((mn (a0.size : Int) 500) : Int).toNat) ++ (a1.extract 0 ((mn (a1.size : Int) 500) : Int).toNat)) ++ ((a2.extract 0 ((mn (a2.size : Int) 500) : Int).toNat).extract 0 ((mn t283 (mn (a2.size : Int) 500)) : Int).toNat)).toList then ((disk_Crash.f bt265.1 bt265.2.1 bt265.2.2.1 t283).bind fun bt289 => ((disk_Log.f bt289.1 bt289.2.1 bt289.2.2).bind fun t292 => (if 0 ≤ (mn t283 ((mn (a0.size : Int) 500) + (mn (a1.size : Int) 500))) then (if (mn t283 ((mn (a0.size : Int) 500) + (mn (a1.size : Int) 500))) ≤ ((mn (a0.size : Int) 500) + (mn (a1.size : Int) 500)) then (some (t292.toList == (((a0.extract 0 ((mn (a0.size : Int) 500) : Int).toNat) ++ (a1.extract 0 ((mn (a1.size : Int) 500) : Int).toNat)).extract 0 ((mn t283 ((mn (a0.size : Int) 500) + (mn (a1.size : Int) 500))) : Int).toNat).toList)) else (none)) else (none)))) else (some false)) else (none)) else (none)) else (none)))) else (some false)) else (none))) else (some false)) else (some false)) else (some false)) else (some false)) else (some false)) else (some false)))) else (none)))))) else (none)) else (none)) else (none)) else (none)) else (none)) else (none))) = some true := h
  clear h
  replace H := Option.bind_eq_some_iff.mp H
  obtain ⟨t259, A50, H⟩ := H
  replace H : (if 0 ≤ (mn (a0.size : Int) 500) then (if (mn (a0.size : Int) 500) ≤ (a0.size : Int) then (if 0 ≤ (mn (a1.size : Int) 500) then (if (mn (a1.size : Int) 500) ≤ (a1.size : Int) then (if 0 ≤ (mn (a2.size : Int) 500) then (if (mn (a2.size : Int) 500) ≤ (a2.size : Int) then ((disk_Append.f (⟨#[]⟩ : ByteArray) (⟨#[]⟩ : ByteArray) (⟨#[]⟩ : ByteArray) (a0.extract 0 ((mn (a0.size : Int) 500) : Int).toNat)).bind fun bt260 => ((disk_Append.f bt260.1 bt260.2.1 bt260.2.2.1 (a1.extract 0 ((mn (a1.size : Int) 500) : Int).toNat)).bind fun bt265 => ((disk_Sync.f bt265.1 bt265.2.1 bt265.2.2.1).bind fun bt270 => ((disk_Append.f bt270.1 bt270.2.1 bt270.2.2 (a2.extract 0 ((mn (a2.size : Int) 500) : Int).toNat)).bind fun bt273 => (if (a0.extract 0 ((mn (a0.size : Int) 500) : Int).toNat).size + (a1.extract 0 ((mn (a1.size : Int) 500) : Int).toNat).size ≤ 9223372036854775807 then ((disk_Append.f (⟨#[]⟩ : ByteArray) (⟨#[]⟩ : ByteArray) (⟨#[]⟩ : ByteArray) ((a0.extract 0 ((mn (a0.size : Int) 500) : Int).toNat) ++ (a1.extract 0 ((mn (a1.size : Int) 500) : Int).toNat))).bind fun bt278 => ((careenlaw07_pick.f a3 600).bind fun t283 => (if t259 = true then (if bt260.2.2.2 = 0 then (if bt265.2.2.2 = 0 then (if bt273.2.2.2 = 0 then (if bt278.2.2.2 = 0 then (if (bt265.1.toList == bt278.1.toList && (bt265.2.1.toList == bt278.2.1.toList && (bt265.2.2.1.toList == bt278.2.2.1.toList))) = true then ((disk_Log.f bt273.1 bt273.2.1 bt273.2.2.1).bind fun t284 => (if ((a0.extract 0 ((mn (a0.size : Int) 500) : Int).toNat) ++ (a1.extract 0 ((mn (a1.size : Int) 500) : Int).toNat)).size + (a2.extract 0 ((mn (a2.size : Int) 500) : Int).toNat).size ≤ 9223372036854775807 then (if t284.toList = (((a0.extract 0 ((mn (a0.size : Int) 500) : Int).toNat) ++ (a1.extract 0 ((mn (a1.size : Int) 500) : Int).toNat)) ++ (a2.extract 0 ((mn (a2.size : Int) 500) : Int).toNat)).toList then ((disk_Crash.f bt273.1 bt273.2.1 bt273.2.2.1 t283).bind fun bt285 => ((disk_Log.f bt285.1 bt285.2.1 bt285.2.2).bind fun t288 => (if 0 ≤ (mn t283 (mn (a2.size : Int) 500)) then (if (mn t283 (mn (a2.size : Int) 500)) ≤ (mn (a2.size : Int) 500) then (if ((a0.extract 0 ((mn (a0.size : Int) 500) : Int).toNat) ++ (a1.extract 0 ((mn (a1.size : Int) 500) : Int).toNat)).size + ((a2.extract 0 ((mn (a2.size : Int) 500) : Int).toNat).extract 0 ((mn t283 (mn (a2.size : Int) 500)) : Int).toNat).size ≤ 9223372036854775807 then (if t288.toList = (((a0.extract 0 ((mn (a0.size : Int) 500) : Int).toNat) ++ (a1.extract 0 ((mn (a1.size : Int) 500) : Int).toNat)) ++ ((a2.extract 0 ((mn (a2.size : Int) 500) : Int).toNat).extract 0 ((mn t283 (mn (a2.size : Int) 500)) : Int).toNat)).toList then ((disk_Crash.f bt265.1 bt265.2.1 bt265.2.2.1 t283).bind fun bt289 => ((disk_Log.f bt289.1 bt289.2.1 bt289.2.2).bind fun t292 => (if 0 ≤ (mn t283 ((mn (a0.size : Int) 500) + (mn (a1.size : Int) 500))) then (if (mn t283 ((mn (a0.size : Int) 500) + (mn (a1.size : Int) 500))) ≤ ((mn (a0.size : Int) 500) + (mn (a1.size : Int) 500)) then (some (t292.toList == (((a0.extract 0 ((mn (a0.size : Int) 500) : Int).toNat) ++ (a1.extract 0 ((mn (a1.size : Int) 500) : Int).toNat)).extract 0 ((mn t283 ((mn (a0.size : Int) 500) + (mn (a1.size : Int) 500))) : Int).toNat).toList)) else (none)) else (none)))) else (some false)) else (none)) else (none)) else (none)))) else (some false)) else (none))) else (some false)) else (some false)) else (some false)) else (some false)) else (some false)) else (some false)))) else (none)))))) else (none)) else (none)) else (none)) else (none)) else (none)) else (none)) = some true := H
  have A5 := Aside0.mk A50
  clear A50
  obtain ⟨ji6, hji6⟩ : ∃ j_ : Int, (mn (a0.size : Int) 500) = j_ := ⟨_, rfl⟩
  replace H : (if 0 ≤ (ji6) then (if (ji6) ≤ (a0.size : Int) then (if 0 ≤ (mn (a1.size : Int) 500) then (if (mn (a1.size : Int) 500) ≤ (a1.size : Int) then (if 0 ≤ (mn (a2.size : Int) 500) then (if (mn (a2.size : Int) 500) ≤ (a2.size : Int) then ((disk_Append.f (⟨#[]⟩ : ByteArray) (⟨#[]⟩ : ByteArray) (⟨#[]⟩ : ByteArray) (a0.extract 0 ((ji6) : Int).toNat)).bind fun bt260 => ((disk_Append.f bt260.1 bt260.2.1 bt260.2.2.1 (a1.extract 0 ((mn (a1.size : Int) 500) : Int).toNat)).bind fun bt265 => ((disk_Sync.f bt265.1 bt265.2.1 bt265.2.2.1).bind fun bt270 => ((disk_Append.f bt270.1 bt270.2.1 bt270.2.2 (a2.extract 0 ((mn (a2.size : Int) 500) : Int).toNat)).bind fun bt273 => (if (a0.extract 0 ((ji6) : Int).toNat).size + (a1.extract 0 ((mn (a1.size : Int) 500) : Int).toNat).size ≤ 9223372036854775807 then ((disk_Append.f (⟨#[]⟩ : ByteArray) (⟨#[]⟩ : ByteArray) (⟨#[]⟩ : ByteArray) ((a0.extract 0 ((ji6) : Int).toNat) ++ (a1.extract 0 ((mn (a1.size : Int) 500) : Int).toNat))).bind fun bt278 => ((careenlaw07_pick.f a3 600).bind fun t283 => (if t259 = true then (if bt260.2.2.2 = 0 then (if bt265.2.2.2 = 0 then (if bt273.2.2.2 = 0 then (if bt278.2.2.2 = 0 then (if (bt265.1.toList == bt278.1.toList && (bt265.2.1.toList == bt278.2.1.toList && (bt265.2.2.1.toList == bt278.2.2.1.toList))) = true then ((disk_Log.f bt273.1 bt273.2.1 bt273.2.2.1).bind fun t284 => (if ((a0.extract 0 ((ji6) : Int).toNat) ++ (a1.extract 0 ((mn (a1.size : Int) 500) : Int).toNat)).size + (a2.extract 0 ((mn (a2.size : Int) 500) : Int).toNat).size ≤ 9223372036854775807 then (if t284.toList = (((a0.extract 0 ((ji6) : Int).toNat) ++ (a1.extract 0 ((mn (a1.size : Int) 500) : Int).toNat)) ++ (a2.extract 0 ((mn (a2.size : Int) 500) : Int).toNat)).toList then ((disk_Crash.f bt273.1 bt273.2.1 bt273.2.2.1 t283).bind fun bt285 => ((disk_Log.f bt285.1 bt285.2.1 bt285.2.2).bind fun t288 => (if 0 ≤ (mn t283 (mn (a2.size : Int) 500)) then (if (mn t283 (mn (a2.size : Int) 500)) ≤ (mn (a2.size : Int) 500) then (if ((a0.extract 0 ((ji6) : Int).toNat) ++ (a1.extract 0 ((mn (a1.size : Int) 500) : Int).toNat)).size + ((a2.extract 0 ((mn (a2.size : Int) 500) : Int).toNat).extract 0 ((mn t283 (mn (a2.size : Int) 500)) : Int).toNat).size ≤ 9223372036854775807 then (if t288.toList = (((a0.extract 0 ((ji6) : Int).toNat) ++ (a1.extract 0 ((mn (a1.size : Int) 500) : Int).toNat)) ++ ((a2.extract 0 ((mn (a2.size : Int) 500) : Int).toNat).extract 0 ((mn t283 (mn (a2.size : Int) 500)) : Int).toNat)).toList then ((disk_Crash.f bt265.1 bt265.2.1 bt265.2.2.1 t283).bind fun bt289 => ((disk_Log.f bt289.1 bt289.2.1 bt289.2.2).bind fun t292 => (if 0 ≤ (mn t283 ((ji6) + (mn (a1.size : Int) 500))) then (if (mn t283 ((ji6) + (mn (a1.size : Int) 500))) ≤ ((ji6) + (mn (a1.size : Int) 500)) then (some (t292.toList == (((a0.extract 0 ((ji6) : Int).toNat) ++ (a1.extract 0 ((mn (a1.size : Int) 500) : Int).toNat)).extract 0 ((mn t283 ((ji6) + (mn (a1.size : Int) 500))) : Int).toNat).toList)) else (none)) else (none)))) else (some false)) else (none)) else (none)) else (none)))) else (some false)) else (none))) else (some false)) else (some false)) else (some false)) else (some false)) else (some false)) else (some false)))) else (none)))))) else (none)) else (none)) else (none)) else (none)) else (none)) else (none)) = some true := by first | (rw [hji6] at H; exact H) | (simp only [hji6] at H ⊢; exact H)
  (try rw [hji6] at A5)
  (try (have hji6h : ji6 ≤ 500 := by (rw [← hji6]; unfold mn; (repeat' split) <;> omega)))
  (try (have hji6g : ji6 ≤ 64 := by omega))
  (try (have hji6l : 0 ≤ ji6 := by (rw [← hji6]; unfold mn; (repeat' split) <;> omega)))
  (try (have hji6m : 0 ≤ ji6 := by omega))
  have hji6_ : (if 500 < (a0.size : Int) then 500 else (a0.size : Int)) = ji6 := hji6
  by_cases c7 : 0 ≤ (ji6)
  · rw [if_pos c7] at H
    have c7M : max ji6 0 = ji6 := Int.max_eq_left c7
    have c7b0 := eq_true c7
    have c7b1 : decide (0 ≤ (ji6)) = true := decide_eq_true c7
    clear c7
    by_cases c8 : (ji6) ≤ (a0.size : Int)
    · rw [if_pos c8] at H
      have c8b0 := eq_true c8
      have c8b1 : decide ((ji6) ≤ (a0.size : Int)) = true := decide_eq_true c8
      clear c8
      obtain ⟨ji9, hji9⟩ : ∃ j_ : Int, (mn (a1.size : Int) 500) = j_ := ⟨_, rfl⟩
      replace H : (if 0 ≤ (ji9) then (if (ji9) ≤ (a1.size : Int) then (if 0 ≤ (mn (a2.size : Int) 500) then (if (mn (a2.size : Int) 500) ≤ (a2.size : Int) then ((disk_Append.f (⟨#[]⟩ : ByteArray) (⟨#[]⟩ : ByteArray) (⟨#[]⟩ : ByteArray) (a0.extract 0 ((ji6) : Int).toNat)).bind fun bt260 => ((disk_Append.f bt260.1 bt260.2.1 bt260.2.2.1 (a1.extract 0 ((ji9) : Int).toNat)).bind fun bt265 => ((disk_Sync.f bt265.1 bt265.2.1 bt265.2.2.1).bind fun bt270 => ((disk_Append.f bt270.1 bt270.2.1 bt270.2.2 (a2.extract 0 ((mn (a2.size : Int) 500) : Int).toNat)).bind fun bt273 => (if (a0.extract 0 ((ji6) : Int).toNat).size + (a1.extract 0 ((ji9) : Int).toNat).size ≤ 9223372036854775807 then ((disk_Append.f (⟨#[]⟩ : ByteArray) (⟨#[]⟩ : ByteArray) (⟨#[]⟩ : ByteArray) ((a0.extract 0 ((ji6) : Int).toNat) ++ (a1.extract 0 ((ji9) : Int).toNat))).bind fun bt278 => ((careenlaw07_pick.f a3 600).bind fun t283 => (if t259 = true then (if bt260.2.2.2 = 0 then (if bt265.2.2.2 = 0 then (if bt273.2.2.2 = 0 then (if bt278.2.2.2 = 0 then (if (bt265.1.toList == bt278.1.toList && (bt265.2.1.toList == bt278.2.1.toList && (bt265.2.2.1.toList == bt278.2.2.1.toList))) = true then ((disk_Log.f bt273.1 bt273.2.1 bt273.2.2.1).bind fun t284 => (if ((a0.extract 0 ((ji6) : Int).toNat) ++ (a1.extract 0 ((ji9) : Int).toNat)).size + (a2.extract 0 ((mn (a2.size : Int) 500) : Int).toNat).size ≤ 9223372036854775807 then (if t284.toList = (((a0.extract 0 ((ji6) : Int).toNat) ++ (a1.extract 0 ((ji9) : Int).toNat)) ++ (a2.extract 0 ((mn (a2.size : Int) 500) : Int).toNat)).toList then ((disk_Crash.f bt273.1 bt273.2.1 bt273.2.2.1 t283).bind fun bt285 => ((disk_Log.f bt285.1 bt285.2.1 bt285.2.2).bind fun t288 => (if 0 ≤ (mn t283 (mn (a2.size : Int) 500)) then (if (mn t283 (mn (a2.size : Int) 500)) ≤ (mn (a2.size : Int) 500) then (if ((a0.extract 0 ((ji6) : Int).toNat) ++ (a1.extract 0 ((ji9) : Int).toNat)).size + ((a2.extract 0 ((mn (a2.size : Int) 500) : Int).toNat).extract 0 ((mn t283 (mn (a2.size : Int) 500)) : Int).toNat).size ≤ 9223372036854775807 then (if t288.toList = (((a0.extract 0 ((ji6) : Int).toNat) ++ (a1.extract 0 ((ji9) : Int).toNat)) ++ ((a2.extract 0 ((mn (a2.size : Int) 500) : Int).toNat).extract 0 ((mn t283 (mn (a2.size : Int) 500)) : Int).toNat)).toList then ((disk_Crash.f bt265.1 bt265.2.1 bt265.2.2.1 t283).bind fun bt289 => ((disk_Log.f bt289.1 bt289.2.1 bt289.2.2).bind fun t292 => (if 0 ≤ (mn t283 ((ji6) + (ji9))) then (if (mn t283 ((ji6) + (ji9))) ≤ ((ji6) + (ji9)) then (some (t292.toList == (((a0.extract 0 ((ji6) : Int).toNat) ++ (a1.extract 0 ((ji9) : Int).toNat)).extract 0 ((mn t283 ((ji6) + (ji9))) : Int).toNat).toList)) else (none)) else (none)))) else (some false)) else (none)) else (none)) else (none)))) else (some false)) else (none))) else (some false)) else (some false)) else (some false)) else (some false)) else (some false)) else (some false)))) else (none)))))) else (none)) else (none)) else (none)) else (none)) = some true := by first | (rw [hji9] at H; exact H) | (simp only [hji9] at H ⊢; exact H)
      (try rw [hji9] at A5)
      (try (have hji9h : ji9 ≤ 500 := by (rw [← hji9]; unfold mn; (repeat' split) <;> omega)))
      (try (have hji9g : ji9 ≤ 64 := by omega))
      (try (have hji9l : 0 ≤ ji9 := by (rw [← hji9]; unfold mn; (repeat' split) <;> omega)))
      (try (have hji9m : 0 ≤ ji9 := by omega))
      have hji9_ : (if 500 < (a1.size : Int) then 500 else (a1.size : Int)) = ji9 := hji9
      by_cases c10 : 0 ≤ (ji9)
      · rw [if_pos c10] at H
        have c10M : max ji9 0 = ji9 := Int.max_eq_left c10
        have c10b0 := eq_true c10
        have c10b1 : decide (0 ≤ (ji9)) = true := decide_eq_true c10
        clear c10
        by_cases c11 : (ji9) ≤ (a1.size : Int)
        · rw [if_pos c11] at H
          have c11b0 := eq_true c11
          have c11b1 : decide ((ji9) ≤ (a1.size : Int)) = true := decide_eq_true c11
          clear c11
          obtain ⟨ji12, hji12⟩ : ∃ j_ : Int, (mn (a2.size : Int) 500) = j_ := ⟨_, rfl⟩
          replace H : (if 0 ≤ (ji12) then (if (ji12) ≤ (a2.size : Int) then ((disk_Append.f (⟨#[]⟩ : ByteArray) (⟨#[]⟩ : ByteArray) (⟨#[]⟩ : ByteArray) (a0.extract 0 ((ji6) : Int).toNat)).bind fun bt260 => ((disk_Append.f bt260.1 bt260.2.1 bt260.2.2.1 (a1.extract 0 ((ji9) : Int).toNat)).bind fun bt265 => ((disk_Sync.f bt265.1 bt265.2.1 bt265.2.2.1).bind fun bt270 => ((disk_Append.f bt270.1 bt270.2.1 bt270.2.2 (a2.extract 0 ((ji12) : Int).toNat)).bind fun bt273 => (if (a0.extract 0 ((ji6) : Int).toNat).size + (a1.extract 0 ((ji9) : Int).toNat).size ≤ 9223372036854775807 then ((disk_Append.f (⟨#[]⟩ : ByteArray) (⟨#[]⟩ : ByteArray) (⟨#[]⟩ : ByteArray) ((a0.extract 0 ((ji6) : Int).toNat) ++ (a1.extract 0 ((ji9) : Int).toNat))).bind fun bt278 => ((careenlaw07_pick.f a3 600).bind fun t283 => (if t259 = true then (if bt260.2.2.2 = 0 then (if bt265.2.2.2 = 0 then (if bt273.2.2.2 = 0 then (if bt278.2.2.2 = 0 then (if (bt265.1.toList == bt278.1.toList && (bt265.2.1.toList == bt278.2.1.toList && (bt265.2.2.1.toList == bt278.2.2.1.toList))) = true then ((disk_Log.f bt273.1 bt273.2.1 bt273.2.2.1).bind fun t284 => (if ((a0.extract 0 ((ji6) : Int).toNat) ++ (a1.extract 0 ((ji9) : Int).toNat)).size + (a2.extract 0 ((ji12) : Int).toNat).size ≤ 9223372036854775807 then (if t284.toList = (((a0.extract 0 ((ji6) : Int).toNat) ++ (a1.extract 0 ((ji9) : Int).toNat)) ++ (a2.extract 0 ((ji12) : Int).toNat)).toList then ((disk_Crash.f bt273.1 bt273.2.1 bt273.2.2.1 t283).bind fun bt285 => ((disk_Log.f bt285.1 bt285.2.1 bt285.2.2).bind fun t288 => (if 0 ≤ (mn t283 (ji12)) then (if (mn t283 (ji12)) ≤ (ji12) then (if ((a0.extract 0 ((ji6) : Int).toNat) ++ (a1.extract 0 ((ji9) : Int).toNat)).size + ((a2.extract 0 ((ji12) : Int).toNat).extract 0 ((mn t283 (ji12)) : Int).toNat).size ≤ 9223372036854775807 then (if t288.toList = (((a0.extract 0 ((ji6) : Int).toNat) ++ (a1.extract 0 ((ji9) : Int).toNat)) ++ ((a2.extract 0 ((ji12) : Int).toNat).extract 0 ((mn t283 (ji12)) : Int).toNat)).toList then ((disk_Crash.f bt265.1 bt265.2.1 bt265.2.2.1 t283).bind fun bt289 => ((disk_Log.f bt289.1 bt289.2.1 bt289.2.2).bind fun t292 => (if 0 ≤ (mn t283 ((ji6) + (ji9))) then (if (mn t283 ((ji6) + (ji9))) ≤ ((ji6) + (ji9)) then (some (t292.toList == (((a0.extract 0 ((ji6) : Int).toNat) ++ (a1.extract 0 ((ji9) : Int).toNat)).extract 0 ((mn t283 ((ji6) + (ji9))) : Int).toNat).toList)) else (none)) else (none)))) else (some false)) else (none)) else (none)) else (none)))) else (some false)) else (none))) else (some false)) else (some false)) else (some false)) else (some false)) else (some false)) else (some false)))) else (none)))))) else (none)) else (none)) = some true := by first | (rw [hji12] at H; exact H) | (simp only [hji12] at H ⊢; exact H)
          (try rw [hji12] at A5)
          (try (have hji12h : ji12 ≤ 500 := by (rw [← hji12]; unfold mn; (repeat' split) <;> omega)))
          (try (have hji12g : ji12 ≤ 64 := by omega))
          (try (have hji12l : 0 ≤ ji12 := by (rw [← hji12]; unfold mn; (repeat' split) <;> omega)))
          (try (have hji12m : 0 ≤ ji12 := by omega))
          have hji12_ : (if 500 < (a2.size : Int) then 500 else (a2.size : Int)) = ji12 := hji12
          by_cases c13 : 0 ≤ (ji12)
          · rw [if_pos c13] at H
            have c13M : max ji12 0 = ji12 := Int.max_eq_left c13
            have c13b0 := eq_true c13
            have c13b1 : decide (0 ≤ (ji12)) = true := decide_eq_true c13
            clear c13
            by_cases c14 : (ji12) ≤ (a2.size : Int)
            · rw [if_pos c14] at H
              have c14b0 := eq_true c14
              have c14b1 : decide ((ji12) ≤ (a2.size : Int)) = true := decide_eq_true c14
              clear c14
              replace H := Option.bind_eq_some_iff.mp H
              obtain ⟨⟨t260, t261, t262, t263⟩, A150, H⟩ := H
              replace H : ((disk_Append.f t260 t261 t262 (a1.extract 0 ((ji9) : Int).toNat)).bind fun bt265 => ((disk_Sync.f bt265.1 bt265.2.1 bt265.2.2.1).bind fun bt270 => ((disk_Append.f bt270.1 bt270.2.1 bt270.2.2 (a2.extract 0 ((ji12) : Int).toNat)).bind fun bt273 => (if (a0.extract 0 ((ji6) : Int).toNat).size + (a1.extract 0 ((ji9) : Int).toNat).size ≤ 9223372036854775807 then ((disk_Append.f (⟨#[]⟩ : ByteArray) (⟨#[]⟩ : ByteArray) (⟨#[]⟩ : ByteArray) ((a0.extract 0 ((ji6) : Int).toNat) ++ (a1.extract 0 ((ji9) : Int).toNat))).bind fun bt278 => ((careenlaw07_pick.f a3 600).bind fun t283 => (if t259 = true then (if t263 = 0 then (if bt265.2.2.2 = 0 then (if bt273.2.2.2 = 0 then (if bt278.2.2.2 = 0 then (if (bt265.1.toList == bt278.1.toList && (bt265.2.1.toList == bt278.2.1.toList && (bt265.2.2.1.toList == bt278.2.2.1.toList))) = true then ((disk_Log.f bt273.1 bt273.2.1 bt273.2.2.1).bind fun t284 => (if ((a0.extract 0 ((ji6) : Int).toNat) ++ (a1.extract 0 ((ji9) : Int).toNat)).size + (a2.extract 0 ((ji12) : Int).toNat).size ≤ 9223372036854775807 then (if t284.toList = (((a0.extract 0 ((ji6) : Int).toNat) ++ (a1.extract 0 ((ji9) : Int).toNat)) ++ (a2.extract 0 ((ji12) : Int).toNat)).toList then ((disk_Crash.f bt273.1 bt273.2.1 bt273.2.2.1 t283).bind fun bt285 => ((disk_Log.f bt285.1 bt285.2.1 bt285.2.2).bind fun t288 => (if 0 ≤ (mn t283 (ji12)) then (if (mn t283 (ji12)) ≤ (ji12) then (if ((a0.extract 0 ((ji6) : Int).toNat) ++ (a1.extract 0 ((ji9) : Int).toNat)).size + ((a2.extract 0 ((ji12) : Int).toNat).extract 0 ((mn t283 (ji12)) : Int).toNat).size ≤ 9223372036854775807 then (if t288.toList = (((a0.extract 0 ((ji6) : Int).toNat) ++ (a1.extract 0 ((ji9) : Int).toNat)) ++ ((a2.extract 0 ((ji12) : Int).toNat).extract 0 ((mn t283 (ji12)) : Int).toNat)).toList then ((disk_Crash.f bt265.1 bt265.2.1 bt265.2.2.1 t283).bind fun bt289 => ((disk_Log.f bt289.1 bt289.2.1 bt289.2.2).bind fun t292 => (if 0 ≤ (mn t283 ((ji6) + (ji9))) then (if (mn t283 ((ji6) + (ji9))) ≤ ((ji6) + (ji9)) then (some (t292.toList == (((a0.extract 0 ((ji6) : Int).toNat) ++ (a1.extract 0 ((ji9) : Int).toNat)).extract 0 ((mn t283 ((ji6) + (ji9))) : Int).toNat).toList)) else (none)) else (none)))) else (some false)) else (none)) else (none)) else (none)))) else (some false)) else (none))) else (some false)) else (some false)) else (some false)) else (some false)) else (some false)) else (some false)))) else (none))))) = some true := H
              have A15 := Aside0.mk A150
              clear A150
              replace H := Option.bind_eq_some_iff.mp H
              obtain ⟨⟨t265, t266, t267, t268⟩, A160, H⟩ := H
              replace H : ((disk_Sync.f t265 t266 t267).bind fun bt270 => ((disk_Append.f bt270.1 bt270.2.1 bt270.2.2 (a2.extract 0 ((ji12) : Int).toNat)).bind fun bt273 => (if (a0.extract 0 ((ji6) : Int).toNat).size + (a1.extract 0 ((ji9) : Int).toNat).size ≤ 9223372036854775807 then ((disk_Append.f (⟨#[]⟩ : ByteArray) (⟨#[]⟩ : ByteArray) (⟨#[]⟩ : ByteArray) ((a0.extract 0 ((ji6) : Int).toNat) ++ (a1.extract 0 ((ji9) : Int).toNat))).bind fun bt278 => ((careenlaw07_pick.f a3 600).bind fun t283 => (if t259 = true then (if t263 = 0 then (if t268 = 0 then (if bt273.2.2.2 = 0 then (if bt278.2.2.2 = 0 then (if (t265.toList == bt278.1.toList && (t266.toList == bt278.2.1.toList && (t267.toList == bt278.2.2.1.toList))) = true then ((disk_Log.f bt273.1 bt273.2.1 bt273.2.2.1).bind fun t284 => (if ((a0.extract 0 ((ji6) : Int).toNat) ++ (a1.extract 0 ((ji9) : Int).toNat)).size + (a2.extract 0 ((ji12) : Int).toNat).size ≤ 9223372036854775807 then (if t284.toList = (((a0.extract 0 ((ji6) : Int).toNat) ++ (a1.extract 0 ((ji9) : Int).toNat)) ++ (a2.extract 0 ((ji12) : Int).toNat)).toList then ((disk_Crash.f bt273.1 bt273.2.1 bt273.2.2.1 t283).bind fun bt285 => ((disk_Log.f bt285.1 bt285.2.1 bt285.2.2).bind fun t288 => (if 0 ≤ (mn t283 (ji12)) then (if (mn t283 (ji12)) ≤ (ji12) then (if ((a0.extract 0 ((ji6) : Int).toNat) ++ (a1.extract 0 ((ji9) : Int).toNat)).size + ((a2.extract 0 ((ji12) : Int).toNat).extract 0 ((mn t283 (ji12)) : Int).toNat).size ≤ 9223372036854775807 then (if t288.toList = (((a0.extract 0 ((ji6) : Int).toNat) ++ (a1.extract 0 ((ji9) : Int).toNat)) ++ ((a2.extract 0 ((ji12) : Int).toNat).extract 0 ((mn t283 (ji12)) : Int).toNat)).toList then ((disk_Crash.f t265 t266 t267 t283).bind fun bt289 => ((disk_Log.f bt289.1 bt289.2.1 bt289.2.2).bind fun t292 => (if 0 ≤ (mn t283 ((ji6) + (ji9))) then (if (mn t283 ((ji6) + (ji9))) ≤ ((ji6) + (ji9)) then (some (t292.toList == (((a0.extract 0 ((ji6) : Int).toNat) ++ (a1.extract 0 ((ji9) : Int).toNat)).extract 0 ((mn t283 ((ji6) + (ji9))) : Int).toNat).toList)) else (none)) else (none)))) else (some false)) else (none)) else (none)) else (none)))) else (some false)) else (none))) else (some false)) else (some false)) else (some false)) else (some false)) else (some false)) else (some false)))) else (none)))) = some true := H
              have A16 := Aside0.mk A160
              clear A160
              replace H := Option.bind_eq_some_iff.mp H
              obtain ⟨⟨t270, t271, t272⟩, A170, H⟩ := H
              replace H : ((disk_Append.f t270 t271 t272 (a2.extract 0 ((ji12) : Int).toNat)).bind fun bt273 => (if (a0.extract 0 ((ji6) : Int).toNat).size + (a1.extract 0 ((ji9) : Int).toNat).size ≤ 9223372036854775807 then ((disk_Append.f (⟨#[]⟩ : ByteArray) (⟨#[]⟩ : ByteArray) (⟨#[]⟩ : ByteArray) ((a0.extract 0 ((ji6) : Int).toNat) ++ (a1.extract 0 ((ji9) : Int).toNat))).bind fun bt278 => ((careenlaw07_pick.f a3 600).bind fun t283 => (if t259 = true then (if t263 = 0 then (if t268 = 0 then (if bt273.2.2.2 = 0 then (if bt278.2.2.2 = 0 then (if (t265.toList == bt278.1.toList && (t266.toList == bt278.2.1.toList && (t267.toList == bt278.2.2.1.toList))) = true then ((disk_Log.f bt273.1 bt273.2.1 bt273.2.2.1).bind fun t284 => (if ((a0.extract 0 ((ji6) : Int).toNat) ++ (a1.extract 0 ((ji9) : Int).toNat)).size + (a2.extract 0 ((ji12) : Int).toNat).size ≤ 9223372036854775807 then (if t284.toList = (((a0.extract 0 ((ji6) : Int).toNat) ++ (a1.extract 0 ((ji9) : Int).toNat)) ++ (a2.extract 0 ((ji12) : Int).toNat)).toList then ((disk_Crash.f bt273.1 bt273.2.1 bt273.2.2.1 t283).bind fun bt285 => ((disk_Log.f bt285.1 bt285.2.1 bt285.2.2).bind fun t288 => (if 0 ≤ (mn t283 (ji12)) then (if (mn t283 (ji12)) ≤ (ji12) then (if ((a0.extract 0 ((ji6) : Int).toNat) ++ (a1.extract 0 ((ji9) : Int).toNat)).size + ((a2.extract 0 ((ji12) : Int).toNat).extract 0 ((mn t283 (ji12)) : Int).toNat).size ≤ 9223372036854775807 then (if t288.toList = (((a0.extract 0 ((ji6) : Int).toNat) ++ (a1.extract 0 ((ji9) : Int).toNat)) ++ ((a2.extract 0 ((ji12) : Int).toNat).extract 0 ((mn t283 (ji12)) : Int).toNat)).toList then ((disk_Crash.f t265 t266 t267 t283).bind fun bt289 => ((disk_Log.f bt289.1 bt289.2.1 bt289.2.2).bind fun t292 => (if 0 ≤ (mn t283 ((ji6) + (ji9))) then (if (mn t283 ((ji6) + (ji9))) ≤ ((ji6) + (ji9)) then (some (t292.toList == (((a0.extract 0 ((ji6) : Int).toNat) ++ (a1.extract 0 ((ji9) : Int).toNat)).extract 0 ((mn t283 ((ji6) + (ji9))) : Int).toNat).toList)) else (none)) else (none)))) else (some false)) else (none)) else (none)) else (none)))) else (some false)) else (none))) else (some false)) else (some false)) else (some false)) else (some false)) else (some false)) else (some false)))) else (none))) = some true := H
              have A17 := Aside0.mk A170
              clear A170
              replace H := Option.bind_eq_some_iff.mp H
              obtain ⟨⟨t273, t274, t275, t276⟩, A180, H⟩ := H
              replace H : (if (a0.extract 0 ((ji6) : Int).toNat).size + (a1.extract 0 ((ji9) : Int).toNat).size ≤ 9223372036854775807 then ((disk_Append.f (⟨#[]⟩ : ByteArray) (⟨#[]⟩ : ByteArray) (⟨#[]⟩ : ByteArray) ((a0.extract 0 ((ji6) : Int).toNat) ++ (a1.extract 0 ((ji9) : Int).toNat))).bind fun bt278 => ((careenlaw07_pick.f a3 600).bind fun t283 => (if t259 = true then (if t263 = 0 then (if t268 = 0 then (if t276 = 0 then (if bt278.2.2.2 = 0 then (if (t265.toList == bt278.1.toList && (t266.toList == bt278.2.1.toList && (t267.toList == bt278.2.2.1.toList))) = true then ((disk_Log.f t273 t274 t275).bind fun t284 => (if ((a0.extract 0 ((ji6) : Int).toNat) ++ (a1.extract 0 ((ji9) : Int).toNat)).size + (a2.extract 0 ((ji12) : Int).toNat).size ≤ 9223372036854775807 then (if t284.toList = (((a0.extract 0 ((ji6) : Int).toNat) ++ (a1.extract 0 ((ji9) : Int).toNat)) ++ (a2.extract 0 ((ji12) : Int).toNat)).toList then ((disk_Crash.f t273 t274 t275 t283).bind fun bt285 => ((disk_Log.f bt285.1 bt285.2.1 bt285.2.2).bind fun t288 => (if 0 ≤ (mn t283 (ji12)) then (if (mn t283 (ji12)) ≤ (ji12) then (if ((a0.extract 0 ((ji6) : Int).toNat) ++ (a1.extract 0 ((ji9) : Int).toNat)).size + ((a2.extract 0 ((ji12) : Int).toNat).extract 0 ((mn t283 (ji12)) : Int).toNat).size ≤ 9223372036854775807 then (if t288.toList = (((a0.extract 0 ((ji6) : Int).toNat) ++ (a1.extract 0 ((ji9) : Int).toNat)) ++ ((a2.extract 0 ((ji12) : Int).toNat).extract 0 ((mn t283 (ji12)) : Int).toNat)).toList then ((disk_Crash.f t265 t266 t267 t283).bind fun bt289 => ((disk_Log.f bt289.1 bt289.2.1 bt289.2.2).bind fun t292 => (if 0 ≤ (mn t283 ((ji6) + (ji9))) then (if (mn t283 ((ji6) + (ji9))) ≤ ((ji6) + (ji9)) then (some (t292.toList == (((a0.extract 0 ((ji6) : Int).toNat) ++ (a1.extract 0 ((ji9) : Int).toNat)).extract 0 ((mn t283 ((ji6) + (ji9))) : Int).toNat).toList)) else (none)) else (none)))) else (some false)) else (none)) else (none)) else (none)))) else (some false)) else (none))) else (some false)) else (some false)) else (some false)) else (some false)) else (some false)) else (some false)))) else (none)) = some true := H
              have A18 := Aside0.mk A180
              clear A180
              by_cases c19 : (a0.extract 0 ((ji6) : Int).toNat).size + (a1.extract 0 ((ji9) : Int).toNat).size ≤ 9223372036854775807
              · rw [if_pos c19] at H
                have c19b0 := eq_true c19
                have c19b1 : decide ((a0.extract 0 ((ji6) : Int).toNat).size + (a1.extract 0 ((ji9) : Int).toNat).size ≤ 9223372036854775807) = true := decide_eq_true c19
                try have c19b2 : (9223372036854775807 < (a0.extract 0 ((ji6) : Int).toNat).size + (a1.extract 0 ((ji9) : Int).toNat).size) = False := eq_false (Nat.not_lt.2 c19)
                (try have c19b8 : (9223372036854775807 < ji6.toNat + ji9.toNat) = False := (by have f0_ : 0 ≤ ji6 := of_decide_eq_true (by first | (with_reducible assumption) | assumption); have g0_ : ji6 ≤ (a0.size : Int) := of_decide_eq_true (by first | (with_reducible assumption) | assumption); have f1_ : 0 ≤ ji9 := of_decide_eq_true (by first | (with_reducible assumption) | assumption); have g1_ : ji9 ≤ (a1.size : Int) := of_decide_eq_true (by first | (with_reducible assumption) | assumption); have e_ := c19; simp only [ByteArray.size_append, ByteArray.size_extract] at e_; exact eq_false (by omega)))
                replace H := Option.bind_eq_some_iff.mp H
                obtain ⟨⟨t278, t279, t280, t281⟩, A200, H⟩ := H
                replace H : ((careenlaw07_pick.f a3 600).bind fun t283 => (if t259 = true then (if t263 = 0 then (if t268 = 0 then (if t276 = 0 then (if t281 = 0 then (if (t265.toList == t278.toList && (t266.toList == t279.toList && (t267.toList == t280.toList))) = true then ((disk_Log.f t273 t274 t275).bind fun t284 => (if ((a0.extract 0 ((ji6) : Int).toNat) ++ (a1.extract 0 ((ji9) : Int).toNat)).size + (a2.extract 0 ((ji12) : Int).toNat).size ≤ 9223372036854775807 then (if t284.toList = (((a0.extract 0 ((ji6) : Int).toNat) ++ (a1.extract 0 ((ji9) : Int).toNat)) ++ (a2.extract 0 ((ji12) : Int).toNat)).toList then ((disk_Crash.f t273 t274 t275 t283).bind fun bt285 => ((disk_Log.f bt285.1 bt285.2.1 bt285.2.2).bind fun t288 => (if 0 ≤ (mn t283 (ji12)) then (if (mn t283 (ji12)) ≤ (ji12) then (if ((a0.extract 0 ((ji6) : Int).toNat) ++ (a1.extract 0 ((ji9) : Int).toNat)).size + ((a2.extract 0 ((ji12) : Int).toNat).extract 0 ((mn t283 (ji12)) : Int).toNat).size ≤ 9223372036854775807 then (if t288.toList = (((a0.extract 0 ((ji6) : Int).toNat) ++ (a1.extract 0 ((ji9) : Int).toNat)) ++ ((a2.extract 0 ((ji12) : Int).toNat).extract 0 ((mn t283 (ji12)) : Int).toNat)).toList then ((disk_Crash.f t265 t266 t267 t283).bind fun bt289 => ((disk_Log.f bt289.1 bt289.2.1 bt289.2.2).bind fun t292 => (if 0 ≤ (mn t283 ((ji6) + (ji9))) then (if (mn t283 ((ji6) + (ji9))) ≤ ((ji6) + (ji9)) then (some (t292.toList == (((a0.extract 0 ((ji6) : Int).toNat) ++ (a1.extract 0 ((ji9) : Int).toNat)).extract 0 ((mn t283 ((ji6) + (ji9))) : Int).toNat).toList)) else (none)) else (none)))) else (some false)) else (none)) else (none)) else (none)))) else (some false)) else (none))) else (some false)) else (some false)) else (some false)) else (some false)) else (some false)) else (some false))) = some true := H
                have A20 := Aside0.mk A200
                clear A200
                replace H := Option.bind_eq_some_iff.mp H
                obtain ⟨t283, A210, H⟩ := H
                replace H : (if t259 = true then (if t263 = 0 then (if t268 = 0 then (if t276 = 0 then (if t281 = 0 then (if (t265.toList == t278.toList && (t266.toList == t279.toList && (t267.toList == t280.toList))) = true then ((disk_Log.f t273 t274 t275).bind fun t284 => (if ((a0.extract 0 ((ji6) : Int).toNat) ++ (a1.extract 0 ((ji9) : Int).toNat)).size + (a2.extract 0 ((ji12) : Int).toNat).size ≤ 9223372036854775807 then (if t284.toList = (((a0.extract 0 ((ji6) : Int).toNat) ++ (a1.extract 0 ((ji9) : Int).toNat)) ++ (a2.extract 0 ((ji12) : Int).toNat)).toList then ((disk_Crash.f t273 t274 t275 t283).bind fun bt285 => ((disk_Log.f bt285.1 bt285.2.1 bt285.2.2).bind fun t288 => (if 0 ≤ (mn t283 (ji12)) then (if (mn t283 (ji12)) ≤ (ji12) then (if ((a0.extract 0 ((ji6) : Int).toNat) ++ (a1.extract 0 ((ji9) : Int).toNat)).size + ((a2.extract 0 ((ji12) : Int).toNat).extract 0 ((mn t283 (ji12)) : Int).toNat).size ≤ 9223372036854775807 then (if t288.toList = (((a0.extract 0 ((ji6) : Int).toNat) ++ (a1.extract 0 ((ji9) : Int).toNat)) ++ ((a2.extract 0 ((ji12) : Int).toNat).extract 0 ((mn t283 (ji12)) : Int).toNat)).toList then ((disk_Crash.f t265 t266 t267 t283).bind fun bt289 => ((disk_Log.f bt289.1 bt289.2.1 bt289.2.2).bind fun t292 => (if 0 ≤ (mn t283 ((ji6) + (ji9))) then (if (mn t283 ((ji6) + (ji9))) ≤ ((ji6) + (ji9)) then (some (t292.toList == (((a0.extract 0 ((ji6) : Int).toNat) ++ (a1.extract 0 ((ji9) : Int).toNat)).extract 0 ((mn t283 ((ji6) + (ji9))) : Int).toNat).toList)) else (none)) else (none)))) else (some false)) else (none)) else (none)) else (none)))) else (some false)) else (none))) else (some false)) else (some false)) else (some false)) else (some false)) else (some false)) else (some false)) = some true := H
                have A21 := Aside0.mk A210
                clear A210
                by_cases c22 : t259 = true
                · subst c22
                  have H1 : (if t263 = 0 then (if t268 = 0 then (if t276 = 0 then (if t281 = 0 then (if (t265.toList == t278.toList && (t266.toList == t279.toList && (t267.toList == t280.toList))) = true then ((disk_Log.f t273 t274 t275).bind fun t284 => (if ((a0.extract 0 ((ji6) : Int).toNat) ++ (a1.extract 0 ((ji9) : Int).toNat)).size + (a2.extract 0 ((ji12) : Int).toNat).size ≤ 9223372036854775807 then (if t284.toList = (((a0.extract 0 ((ji6) : Int).toNat) ++ (a1.extract 0 ((ji9) : Int).toNat)) ++ (a2.extract 0 ((ji12) : Int).toNat)).toList then ((disk_Crash.f t273 t274 t275 t283).bind fun bt285 => ((disk_Log.f bt285.1 bt285.2.1 bt285.2.2).bind fun t288 => (if 0 ≤ (mn t283 (ji12)) then (if (mn t283 (ji12)) ≤ (ji12) then (if ((a0.extract 0 ((ji6) : Int).toNat) ++ (a1.extract 0 ((ji9) : Int).toNat)).size + ((a2.extract 0 ((ji12) : Int).toNat).extract 0 ((mn t283 (ji12)) : Int).toNat).size ≤ 9223372036854775807 then (if t288.toList = (((a0.extract 0 ((ji6) : Int).toNat) ++ (a1.extract 0 ((ji9) : Int).toNat)) ++ ((a2.extract 0 ((ji12) : Int).toNat).extract 0 ((mn t283 (ji12)) : Int).toNat)).toList then ((disk_Crash.f t265 t266 t267 t283).bind fun bt289 => ((disk_Log.f bt289.1 bt289.2.1 bt289.2.2).bind fun t292 => (if 0 ≤ (mn t283 ((ji6) + (ji9))) then (if (mn t283 ((ji6) + (ji9))) ≤ ((ji6) + (ji9)) then (some (t292.toList == (((a0.extract 0 ((ji6) : Int).toNat) ++ (a1.extract 0 ((ji9) : Int).toNat)).extract 0 ((mn t283 ((ji6) + (ji9))) : Int).toNat).toList)) else (none)) else (none)))) else (some false)) else (none)) else (none)) else (none)))) else (some false)) else (none))) else (some false)) else (some false)) else (some false)) else (some false)) else (some false)) = some true := by rw [if_pos rfl] at H; exact H
                  clear H
                  have H := H1
                  clear H1
                  by_cases c23 : t263 = 0
                  · rw [if_pos c23] at H
                    have c23b0 : (t263 == 0) = true := beq_iff_eq.mpr c23
                    have c23b1 : (t263 != 0) = false := bne_eq_false_iff_eq.mpr c23
                    clear c23
                    by_cases c24 : t268 = 0
                    · rw [if_pos c24] at H
                      have c24b0 : (t268 == 0) = true := beq_iff_eq.mpr c24
                      have c24b1 : (t268 != 0) = false := bne_eq_false_iff_eq.mpr c24
                      clear c24
                      by_cases c25 : t276 = 0
                      · rw [if_pos c25] at H
                        have c25b0 : (t276 == 0) = true := beq_iff_eq.mpr c25
                        have c25b1 : (t276 != 0) = false := bne_eq_false_iff_eq.mpr c25
                        clear c25
                        by_cases c26 : t281 = 0
                        · rw [if_pos c26] at H
                          have c26b0 : (t281 == 0) = true := beq_iff_eq.mpr c26
                          have c26b1 : (t281 != 0) = false := bne_eq_false_iff_eq.mpr c26
                          clear c26
                          by_cases c27 : (t265.toList == t278.toList && (t266.toList == t279.toList && (t267.toList == t280.toList))) = true
                          · rw [if_pos c27] at H
                            have c27b0 : (t265.toList == t278.toList && (t266.toList == t279.toList && (t267.toList == t280.toList))) = true := c27
                            (try (have c27b1 : decide (t265.toList = t278.toList && (t266.toList == t279.toList && (t267.toList == t280.toList))) = true := by simpa using c27))
                            (try (have c27b2 : (t265.toList == t278.toList && (t266.toList == t279.toList && (t267.toList == t280.toList))) = true := by simpa using c27))
                            (try have c27d0 : (t265.toList = t278.toList) = True := eq_true (by (have h_ := c27); simp only [Bool.and_eq_true, beq_iff_eq] at h_; exact h_.1))
                            (try have c27d1 : (t266.toList = t279.toList) = True := eq_true (by (have h_ := c27); simp only [Bool.and_eq_true, beq_iff_eq] at h_; exact h_.2.1))
                            (try have c27d2 : (t267.toList = t280.toList) = True := eq_true (by (have h_ := c27); simp only [Bool.and_eq_true, beq_iff_eq] at h_; exact h_.2.2))
                            clear c27
                            replace H := Option.bind_eq_some_iff.mp H
                            obtain ⟨t284, A280, H⟩ := H
                            replace H : (if ((a0.extract 0 ((ji6) : Int).toNat) ++ (a1.extract 0 ((ji9) : Int).toNat)).size + (a2.extract 0 ((ji12) : Int).toNat).size ≤ 9223372036854775807 then (if t284.toList = (((a0.extract 0 ((ji6) : Int).toNat) ++ (a1.extract 0 ((ji9) : Int).toNat)) ++ (a2.extract 0 ((ji12) : Int).toNat)).toList then ((disk_Crash.f t273 t274 t275 t283).bind fun bt285 => ((disk_Log.f bt285.1 bt285.2.1 bt285.2.2).bind fun t288 => (if 0 ≤ (mn t283 (ji12)) then (if (mn t283 (ji12)) ≤ (ji12) then (if ((a0.extract 0 ((ji6) : Int).toNat) ++ (a1.extract 0 ((ji9) : Int).toNat)).size + ((a2.extract 0 ((ji12) : Int).toNat).extract 0 ((mn t283 (ji12)) : Int).toNat).size ≤ 9223372036854775807 then (if t288.toList = (((a0.extract 0 ((ji6) : Int).toNat) ++ (a1.extract 0 ((ji9) : Int).toNat)) ++ ((a2.extract 0 ((ji12) : Int).toNat).extract 0 ((mn t283 (ji12)) : Int).toNat)).toList then ((disk_Crash.f t265 t266 t267 t283).bind fun bt289 => ((disk_Log.f bt289.1 bt289.2.1 bt289.2.2).bind fun t292 => (if 0 ≤ (mn t283 ((ji6) + (ji9))) then (if (mn t283 ((ji6) + (ji9))) ≤ ((ji6) + (ji9)) then (some (t292.toList == (((a0.extract 0 ((ji6) : Int).toNat) ++ (a1.extract 0 ((ji9) : Int).toNat)).extract 0 ((mn t283 ((ji6) + (ji9))) : Int).toNat).toList)) else (none)) else (none)))) else (some false)) else (none)) else (none)) else (none)))) else (some false)) else (none)) = some true := H
                            have A28 := Aside0.mk A280
                            clear A280
                            by_cases c29 : ((a0.extract 0 ((ji6) : Int).toNat) ++ (a1.extract 0 ((ji9) : Int).toNat)).size + (a2.extract 0 ((ji12) : Int).toNat).size ≤ 9223372036854775807
                            · rw [if_pos c29] at H
                              have c29b0 := eq_true c29
                              have c29b1 : decide (((a0.extract 0 ((ji6) : Int).toNat) ++ (a1.extract 0 ((ji9) : Int).toNat)).size + (a2.extract 0 ((ji12) : Int).toNat).size ≤ 9223372036854775807) = true := decide_eq_true c29
                              try have c29b2 : (9223372036854775807 < ((a0.extract 0 ((ji6) : Int).toNat) ++ (a1.extract 0 ((ji9) : Int).toNat)).size + (a2.extract 0 ((ji12) : Int).toNat).size) = False := eq_false (Nat.not_lt.2 c29)
                              (try have c29b8 : (9223372036854775807 < ji6.toNat + ji9.toNat + ji12.toNat) = False := (by have f0_ : 0 ≤ ji6 := of_decide_eq_true (by first | (with_reducible assumption) | assumption); have g0_ : ji6 ≤ (a0.size : Int) := of_decide_eq_true (by first | (with_reducible assumption) | assumption); have f1_ : 0 ≤ ji9 := of_decide_eq_true (by first | (with_reducible assumption) | assumption); have g1_ : ji9 ≤ (a1.size : Int) := of_decide_eq_true (by first | (with_reducible assumption) | assumption); have f2_ : 0 ≤ ji12 := of_decide_eq_true (by first | (with_reducible assumption) | assumption); have g2_ : ji12 ≤ (a2.size : Int) := of_decide_eq_true (by first | (with_reducible assumption) | assumption); have e_ := c29; simp only [ByteArray.size_append, ByteArray.size_extract] at e_; exact eq_false (by omega)))
                              by_cases c30 : t284.toList = (((a0.extract 0 ((ji6) : Int).toNat) ++ (a1.extract 0 ((ji9) : Int).toNat)) ++ (a2.extract 0 ((ji12) : Int).toNat)).toList
                              · rw [if_pos c30] at H
                                have c30b0 : (t284.toList == (((a0.extract 0 ((ji6) : Int).toNat) ++ (a1.extract 0 ((ji9) : Int).toNat)) ++ (a2.extract 0 ((ji12) : Int).toNat)).toList) = true := beq_iff_eq.mpr c30
                                have c30b1 : (t284.toList != (((a0.extract 0 ((ji6) : Int).toNat) ++ (a1.extract 0 ((ji9) : Int).toNat)) ++ (a2.extract 0 ((ji12) : Int).toNat)).toList) = false := bne_eq_false_iff_eq.mpr c30
                                clear c30
                                replace H := Option.bind_eq_some_iff.mp H
                                obtain ⟨⟨t285, t286, t287⟩, A310, H⟩ := H
                                replace H : ((disk_Log.f t285 t286 t287).bind fun t288 => (if 0 ≤ (mn t283 (ji12)) then (if (mn t283 (ji12)) ≤ (ji12) then (if ((a0.extract 0 ((ji6) : Int).toNat) ++ (a1.extract 0 ((ji9) : Int).toNat)).size + ((a2.extract 0 ((ji12) : Int).toNat).extract 0 ((mn t283 (ji12)) : Int).toNat).size ≤ 9223372036854775807 then (if t288.toList = (((a0.extract 0 ((ji6) : Int).toNat) ++ (a1.extract 0 ((ji9) : Int).toNat)) ++ ((a2.extract 0 ((ji12) : Int).toNat).extract 0 ((mn t283 (ji12)) : Int).toNat)).toList then ((disk_Crash.f t265 t266 t267 t283).bind fun bt289 => ((disk_Log.f bt289.1 bt289.2.1 bt289.2.2).bind fun t292 => (if 0 ≤ (mn t283 ((ji6) + (ji9))) then (if (mn t283 ((ji6) + (ji9))) ≤ ((ji6) + (ji9)) then (some (t292.toList == (((a0.extract 0 ((ji6) : Int).toNat) ++ (a1.extract 0 ((ji9) : Int).toNat)).extract 0 ((mn t283 ((ji6) + (ji9))) : Int).toNat).toList)) else (none)) else (none)))) else (some false)) else (none)) else (none)) else (none))) = some true := H
                                have A31 := Aside0.mk A310
                                clear A310
                                replace H := Option.bind_eq_some_iff.mp H
                                obtain ⟨t288, A320, H⟩ := H
                                replace H : (if 0 ≤ (mn t283 (ji12)) then (if (mn t283 (ji12)) ≤ (ji12) then (if ((a0.extract 0 ((ji6) : Int).toNat) ++ (a1.extract 0 ((ji9) : Int).toNat)).size + ((a2.extract 0 ((ji12) : Int).toNat).extract 0 ((mn t283 (ji12)) : Int).toNat).size ≤ 9223372036854775807 then (if t288.toList = (((a0.extract 0 ((ji6) : Int).toNat) ++ (a1.extract 0 ((ji9) : Int).toNat)) ++ ((a2.extract 0 ((ji12) : Int).toNat).extract 0 ((mn t283 (ji12)) : Int).toNat)).toList then ((disk_Crash.f t265 t266 t267 t283).bind fun bt289 => ((disk_Log.f bt289.1 bt289.2.1 bt289.2.2).bind fun t292 => (if 0 ≤ (mn t283 ((ji6) + (ji9))) then (if (mn t283 ((ji6) + (ji9))) ≤ ((ji6) + (ji9)) then (some (t292.toList == (((a0.extract 0 ((ji6) : Int).toNat) ++ (a1.extract 0 ((ji9) : Int).toNat)).extract 0 ((mn t283 ((ji6) + (ji9))) : Int).toNat).toList)) else (none)) else (none)))) else (some false)) else (none)) else (none)) else (none)) = some true := H
                                have A32 := Aside0.mk A320
                                clear A320
                                obtain ⟨ji33, hji33⟩ : ∃ j_ : Int, (mn t283 (ji12)) = j_ := ⟨_, rfl⟩
                                replace H : (if 0 ≤ (ji33) then (if (ji33) ≤ (ji12) then (if ((a0.extract 0 ((ji6) : Int).toNat) ++ (a1.extract 0 ((ji9) : Int).toNat)).size + ((a2.extract 0 ((ji12) : Int).toNat).extract 0 ((ji33) : Int).toNat).size ≤ 9223372036854775807 then (if t288.toList = (((a0.extract 0 ((ji6) : Int).toNat) ++ (a1.extract 0 ((ji9) : Int).toNat)) ++ ((a2.extract 0 ((ji12) : Int).toNat).extract 0 ((ji33) : Int).toNat)).toList then ((disk_Crash.f t265 t266 t267 t283).bind fun bt289 => ((disk_Log.f bt289.1 bt289.2.1 bt289.2.2).bind fun t292 => (if 0 ≤ (mn t283 ((ji6) + (ji9))) then (if (mn t283 ((ji6) + (ji9))) ≤ ((ji6) + (ji9)) then (some (t292.toList == (((a0.extract 0 ((ji6) : Int).toNat) ++ (a1.extract 0 ((ji9) : Int).toNat)).extract 0 ((mn t283 ((ji6) + (ji9))) : Int).toNat).toList)) else (none)) else (none)))) else (some false)) else (none)) else (none)) else (none)) = some true := by first | (rw [hji33] at H; exact H) | (simp only [hji33] at H ⊢; exact H)
                                (try rw [hji33] at A5)
                                (try rw [hji33] at A15)
                                (try rw [hji33] at A16)
                                (try rw [hji33] at A17)
                                (try rw [hji33] at A18)
                                (try rw [hji33] at A20)
                                (try rw [hji33] at A21)
                                (try rw [hji33] at A28)
                                (try rw [hji33] at A31)
                                (try rw [hji33] at A32)
                                have hji33_ : (if (ji12) < t283 then (ji12) else t283) = ji33 := hji33
                                by_cases c34 : 0 ≤ (ji33)
                                · rw [if_pos c34] at H
                                  have c34M : max ji33 0 = ji33 := Int.max_eq_left c34
                                  have c34b0 := eq_true c34
                                  have c34b1 : decide (0 ≤ (ji33)) = true := decide_eq_true c34
                                  clear c34
                                  by_cases c35 : (ji33) ≤ (ji12)
                                  · rw [if_pos c35] at H
                                    have c35b0 := eq_true c35
                                    have c35b1 : decide ((ji33) ≤ (ji12)) = true := decide_eq_true c35
                                    clear c35
                                    by_cases c36 : ((a0.extract 0 ((ji6) : Int).toNat) ++ (a1.extract 0 ((ji9) : Int).toNat)).size + ((a2.extract 0 ((ji12) : Int).toNat).extract 0 ((ji33) : Int).toNat).size ≤ 9223372036854775807
                                    · rw [if_pos c36] at H
                                      have c36b0 := eq_true c36
                                      have c36b1 : decide (((a0.extract 0 ((ji6) : Int).toNat) ++ (a1.extract 0 ((ji9) : Int).toNat)).size + ((a2.extract 0 ((ji12) : Int).toNat).extract 0 ((ji33) : Int).toNat).size ≤ 9223372036854775807) = true := decide_eq_true c36
                                      try have c36b2 : (9223372036854775807 < ((a0.extract 0 ((ji6) : Int).toNat) ++ (a1.extract 0 ((ji9) : Int).toNat)).size + ((a2.extract 0 ((ji12) : Int).toNat).extract 0 ((ji33) : Int).toNat).size) = False := eq_false (Nat.not_lt.2 c36)
                                      (try have c36b8 : (9223372036854775807 < ji6.toNat + ji9.toNat + ji33.toNat) = False := (by have f0_ : 0 ≤ ji6 := of_decide_eq_true (by first | (with_reducible assumption) | assumption); have g0_ : ji6 ≤ (a0.size : Int) := of_decide_eq_true (by first | (with_reducible assumption) | assumption); have f1_ : 0 ≤ ji9 := of_decide_eq_true (by first | (with_reducible assumption) | assumption); have g1_ : ji9 ≤ (a1.size : Int) := of_decide_eq_true (by first | (with_reducible assumption) | assumption); have f2_ : 0 ≤ ji12 := of_decide_eq_true (by first | (with_reducible assumption) | assumption); have g2_ : ji12 ≤ (a2.size : Int) := of_decide_eq_true (by first | (with_reducible assumption) | assumption); have f3_ : 0 ≤ ji33 := of_decide_eq_true (by first | (with_reducible assumption) | assumption); have g3_ : ji33 ≤ ji12 := of_decide_eq_true (by first | (with_reducible assumption) | assumption); have e_ := c36; simp only [ByteArray.size_append, ByteArray.size_extract] at e_; exact eq_false (by omega)))
                                      by_cases c37 : t288.toList = (((a0.extract 0 ((ji6) : Int).toNat) ++ (a1.extract 0 ((ji9) : Int).toNat)) ++ ((a2.extract 0 ((ji12) : Int).toNat).extract 0 ((ji33) : Int).toNat)).toList
                                      · rw [if_pos c37] at H
                                        have c37b0 : (t288.toList == (((a0.extract 0 ((ji6) : Int).toNat) ++ (a1.extract 0 ((ji9) : Int).toNat)) ++ ((a2.extract 0 ((ji12) : Int).toNat).extract 0 ((ji33) : Int).toNat)).toList) = true := beq_iff_eq.mpr c37
                                        have c37b1 : (t288.toList != (((a0.extract 0 ((ji6) : Int).toNat) ++ (a1.extract 0 ((ji9) : Int).toNat)) ++ ((a2.extract 0 ((ji12) : Int).toNat).extract 0 ((ji33) : Int).toNat)).toList) = false := bne_eq_false_iff_eq.mpr c37
                                        clear c37
                                        replace H := Option.bind_eq_some_iff.mp H
                                        obtain ⟨⟨t289, t290, t291⟩, A380, H⟩ := H
                                        replace H : ((disk_Log.f t289 t290 t291).bind fun t292 => (if 0 ≤ (mn t283 ((ji6) + (ji9))) then (if (mn t283 ((ji6) + (ji9))) ≤ ((ji6) + (ji9)) then (some (t292.toList == (((a0.extract 0 ((ji6) : Int).toNat) ++ (a1.extract 0 ((ji9) : Int).toNat)).extract 0 ((mn t283 ((ji6) + (ji9))) : Int).toNat).toList)) else (none)) else (none))) = some true := H
                                        have A38 := Aside0.mk A380
                                        clear A380
                                        replace H := Option.bind_eq_some_iff.mp H
                                        obtain ⟨t292, A390, H⟩ := H
                                        replace H : (if 0 ≤ (mn t283 ((ji6) + (ji9))) then (if (mn t283 ((ji6) + (ji9))) ≤ ((ji6) + (ji9)) then (some (t292.toList == (((a0.extract 0 ((ji6) : Int).toNat) ++ (a1.extract 0 ((ji9) : Int).toNat)).extract 0 ((mn t283 ((ji6) + (ji9))) : Int).toNat).toList)) else (none)) else (none)) = some true := H
                                        have A39 := Aside0.mk A390
                                        clear A390
                                        obtain ⟨ji40, hji40⟩ : ∃ j_ : Int, (mn t283 ((ji6) + (ji9))) = j_ := ⟨_, rfl⟩
                                        replace H : (if 0 ≤ (ji40) then (if (ji40) ≤ ((ji6) + (ji9)) then (some (t292.toList == (((a0.extract 0 ((ji6) : Int).toNat) ++ (a1.extract 0 ((ji9) : Int).toNat)).extract 0 ((ji40) : Int).toNat).toList)) else (none)) else (none)) = some true := by first | (rw [hji40] at H; exact H) | (simp only [hji40] at H ⊢; exact H)
                                        (try rw [hji40] at A5)
                                        (try rw [hji40] at A15)
                                        (try rw [hji40] at A16)
                                        (try rw [hji40] at A17)
                                        (try rw [hji40] at A18)
                                        (try rw [hji40] at A20)
                                        (try rw [hji40] at A21)
                                        (try rw [hji40] at A28)
                                        (try rw [hji40] at A31)
                                        (try rw [hji40] at A32)
                                        (try rw [hji40] at A38)
                                        (try rw [hji40] at A39)
                                        have hji40_ : (if ((ji6) + (ji9)) < t283 then ((ji6) + (ji9)) else t283) = ji40 := hji40
                                        by_cases c41 : 0 ≤ (ji40)
                                        · rw [if_pos c41] at H
                                          have c41M : max ji40 0 = ji40 := Int.max_eq_left c41
                                          have c41b0 := eq_true c41
                                          have c41b1 : decide (0 ≤ (ji40)) = true := decide_eq_true c41
                                          clear c41
                                          by_cases c42 : (ji40) ≤ ((ji6) + (ji9))
                                          · rw [if_pos c42] at H
                                            have c42b0 := eq_true c42
                                            have c42b1 : decide ((ji40) ≤ ((ji6) + (ji9))) = true := decide_eq_true c42
                                            have HV_ := Aside0.mk (Option.some.inj H)
                                            clear H
                                            go_enter Try.func6, Try.ntmps6
                                            try go_wp2_with (first | ((with_reducible refine gate_callee (f := 8) rfl ?_); refine goesL_ (some 22) rfl rfl Try.func8 (by kernel_rfl) rfl #[] rfl (by (try simp only [List.map_toArray, List.map_cons, List.map_nil]); first | done | rfl | (simp only [List.length_drop, List.length_take]; rfl)) ?_; (with_reducible refine (careenlaw07_awake.calls  true _ A5.out).mono ?_); rintro e w43 ⟨rfl, hb⟩; refine ⟨_, rfl, ?_⟩; have n0_ := Aside0.mk (below_step (by repeat (first | (with_reducible first | exact HB.out | apply below_alloc | apply pw_below_drewN | apply below_drew1) | exact HB.out)) hb); clear HB; have HB := n0_; clear n0_; (try clear hb); (try clear hb2); (try clear hk); (try clear hi)) | ((with_reducible refine gate_callee (f := 13) rfl ?_); refine goesL_ (some 41) rfl rfl Try.func13 (by kernel_rfl) rfl #[.agg #[.string (⟨#[]⟩ : ByteArray), .string (⟨#[]⟩ : ByteArray), .string (⟨#[]⟩ : ByteArray)], .string (a0.extract 0 ((ji6) : Int).toNat)] rfl (by (try simp only [List.map_toArray, List.map_cons, List.map_nil]); first | done | (simp only [hji6]; rfl) | rfl | (simp only [List.length_drop, List.length_take]; rfl)) ?_; (with_reducible refine (disk_Append.calls (⟨#[]⟩ : ByteArray) (⟨#[]⟩ : ByteArray) (⟨#[]⟩ : ByteArray) (a0.extract 0 ((ji6) : Int).toNat) t260 t261 t262 t263 _ A15.out).mono ?_); rintro e w44 ⟨rfl, hb⟩; refine ⟨_, rfl, ?_⟩; have n0_ := Aside0.mk (below_step (by repeat (first | (with_reducible first | exact HB.out | apply below_alloc | apply pw_below_drewN | apply below_drew1) | exact HB.out)) hb); clear HB; have HB := n0_; clear n0_; (try clear hb); (try clear hb2); (try clear hk); (try clear hi)) | ((with_reducible refine gate_dst (N := 13) rfl ?_); (try (refine gate_guard (by rfl) ?_; dsimp only)); refine box_event ?hg (N := 13) ?hd (cs := #[.string (⟨#[]⟩ : ByteArray), .string (⟨#[]⟩ : ByteArray), .string (⟨#[]⟩ : ByteArray)]) (t := 23) ?hr ?_; (case hd => rfl); (case hg => rfl); (case hr => first | (go_simp; done) | (go_simp; rfl)); intro gb264 hg w45 hbox hb; have n0_ := Aside0.mk (below_step (by repeat (first | (with_reducible first | exact HB.out | apply below_alloc | apply pw_below_drewN | apply below_drew1) | exact HB.out)) hb); have n1_ := Aside0.mk (hbox); have n2_ := Aside0.mk ((by rw [hg]; exact (below_size (by repeat (first | (with_reducible first | exact HB.out | apply below_alloc | apply pw_below_drewN | apply below_drew1) | exact HB.out))) : w.heap.size ≤ gb264)); have n3_ := Aside0.mk ((by rw [hg]; exact (below_size (by repeat (first | (with_reducible first | exact HB.out | apply below_alloc | apply pw_below_drewN | apply below_drew1) | exact HB.out))) : w.heap.size ≤ gb264)); clear HB; have HB := n0_; have BK264 := n1_; have GW264 := n2_; have GE264 := n3_; clear n0_ n1_ n2_ n3_; clear hb hbox hg; have hcz46_0 : w45.cell? ⟨gb264, 0, none⟩ = some (.string (⟨#[]⟩ : ByteArray)) := (blk_cell BK264.out 0).trans rfl; have hcz46_1 : w45.cell? ⟨gb264, 1, none⟩ = some (.string (⟨#[]⟩ : ByteArray)) := (blk_cell BK264.out 1).trans rfl; have hcz46_2 : w45.cell? ⟨gb264, 2, none⟩ = some (.string (⟨#[]⟩ : ByteArray)) := (blk_cell BK264.out 2).trans rfl; have hfz46_0 := blk_frozen BK264.out 0; have hfz46_1 := blk_frozen BK264.out 1; have hfz46_2 := blk_frozen BK264.out 2) | ((with_reducible refine gate_callee (f := 13) rfl ?_); refine goesL_ (some 47) rfl rfl Try.func13 (by kernel_rfl) rfl #[.agg #[.string t260, .string t261, .string t262], .string (a1.extract 0 ((ji9) : Int).toNat)] rfl (by (try simp only [List.map_toArray, List.map_cons, List.map_nil]); first | done | (simp only [hji9]; rfl) | rfl | (simp only [List.length_drop, List.length_take]; rfl)) ?_; (with_reducible refine (disk_Append.calls t260 t261 t262 (a1.extract 0 ((ji9) : Int).toNat) t265 t266 t267 t268 _ A16.out).mono ?_); rintro e w47 ⟨rfl, hb⟩; refine ⟨_, rfl, ?_⟩; have n0_ := Aside0.mk (blk_below (g := gb264) (o := .cells #[.string t260, .string t261, .string t262] 23 (0, 0)) (by (with_reducible repeat (first | refine blk_drewN ?_ _ | refine blk_drew ?_ | refine blk_alloc ?_ _)); refine blk_put (cs := #[.string t260, .string t261, .string (⟨#[]⟩ : ByteArray)]) ?_ 2 _ rfl; (with_reducible repeat (first | refine blk_drewN ?_ _ | refine blk_drew ?_ | refine blk_alloc ?_ _)); refine blk_put (cs := #[.string t260, .string (⟨#[]⟩ : ByteArray), .string (⟨#[]⟩ : ByteArray)]) ?_ 1 _ rfl; (with_reducible repeat (first | refine blk_drewN ?_ _ | refine blk_drew ?_ | refine blk_alloc ?_ _)); refine blk_put (cs := #[.string (⟨#[]⟩ : ByteArray), .string (⟨#[]⟩ : ByteArray), .string (⟨#[]⟩ : ByteArray)]) ?_ 0 _ rfl; (with_reducible repeat (first | refine blk_drewN ?_ _ | refine blk_drew ?_ | refine blk_alloc ?_ _)); exact BK264.out) hb); have n1_ := Aside0.mk (below_step (by repeat (first | (with_reducible first | exact HB.out | apply below_alloc | apply pw_below_drewN | apply below_drew1 | refine below_set ?_ GE264.out) | exact HB.out)) hb); clear BK264; clear HB; have BK264 := n0_; have HB := n1_; clear n0_ n1_; (try clear hb); (try clear hb2); (try clear hk); (try clear hi)) | ((with_reducible refine gate_dst (N := 15) rfl ?_); (try (refine gate_guard (by rfl) ?_; dsimp only)); refine box_event ?hg (N := 15) ?hd (cs := #[.string (⟨#[]⟩ : ByteArray), .string (⟨#[]⟩ : ByteArray), .string (⟨#[]⟩ : ByteArray)]) (t := 23) ?hr ?_; (case hd => rfl); (case hg => rfl); (case hr => first | (go_simp; done) | (go_simp; rfl)); intro gb269 hg w48 hbox hb; have n0_ := Aside0.mk (blk_below (g := gb264) (o := .cells #[.string t260, .string t261, .string t262] 23 (0, 0)) (by (with_reducible repeat (first | refine blk_drewN ?_ _ | refine blk_drew ?_ | refine blk_alloc ?_ _)); exact BK264.out) hb); have n1_ := Aside0.mk (below_step (by repeat (first | (with_reducible first | exact HB.out | apply below_alloc | apply pw_below_drewN | apply below_drew1 | refine below_set ?_ GE264.out) | exact HB.out)) hb); have n2_ := Aside0.mk (hbox); have n3_ := Aside0.mk ((by rw [hg]; exact (below_size (by repeat (first | (with_reducible first | exact HB.out | apply below_alloc | apply pw_below_drewN | apply below_drew1 | refine below_set ?_ GE264.out) | exact HB.out))) : w.heap.size ≤ gb269)); have n4_ := Aside0.mk ((by rw [hg]; exact (below_size (by repeat (first | (with_reducible first | exact HB.out | apply below_alloc | apply pw_below_drewN | apply below_drew1 | refine below_set ?_ GE264.out) | exact HB.out))) : w.heap.size ≤ gb269)); have n5_ := Aside0.mk ((by rw [hg]; exact Nat.ne_of_lt (blk_lt (g := gb264) (o := .cells #[.string t260, .string t261, .string t262] 23 (0, 0)) (by (with_reducible repeat (first | refine blk_drewN ?_ _ | refine blk_drew ?_ | refine blk_alloc ?_ _)); exact BK264.out)) : gb264 ≠ gb269)); have n6_ := Aside0.mk ((by rw [hg]; exact Nat.ne_of_gt (blk_lt (g := gb264) (o := .cells #[.string t260, .string t261, .string t262] 23 (0, 0)) (by (with_reducible repeat (first | refine blk_drewN ?_ _ | refine blk_drew ?_ | refine blk_alloc ?_ _)); exact BK264.out)) : gb269 ≠ gb264)); clear BK264; clear HB; have BK264 := n0_; have HB := n1_; have BK269 := n2_; have GW269 := n3_; have GE269 := n4_; have NB264_269 := n5_; have NB269_264 := n6_; clear n0_ n1_ n2_ n3_ n4_ n5_ n6_; clear hb hbox hg; have hnb49 := NB269_264.out; have hnc49 := NB264_269.out; have hcz50_0 : w48.cell? ⟨gb269, 0, none⟩ = some (.string (⟨#[]⟩ : ByteArray)) := (blk_cell BK269.out 0).trans rfl; have hcz50_1 : w48.cell? ⟨gb269, 1, none⟩ = some (.string (⟨#[]⟩ : ByteArray)) := (blk_cell BK269.out 1).trans rfl; have hcz50_2 : w48.cell? ⟨gb269, 2, none⟩ = some (.string (⟨#[]⟩ : ByteArray)) := (blk_cell BK269.out 2).trans rfl; have hfz50_0 := blk_frozen BK269.out 0; have hfz50_1 := blk_frozen BK269.out 1; have hfz50_2 := blk_frozen BK269.out 2) | ((with_reducible refine gate_callee (f := 17) rfl ?_); refine goesL_ (some 52) rfl rfl Try.func17 (by kernel_rfl) rfl #[.agg #[.string t265, .string t266, .string t267]] rfl (by (try simp only [List.map_toArray, List.map_cons, List.map_nil]); first | done | rfl | (simp only [List.length_drop, List.length_take]; rfl)) ?_; (with_reducible refine (disk_Sync.calls t265 t266 t267 t270 t271 t272 _ A17.out).mono ?_); rintro e w51 ⟨rfl, hb⟩; refine ⟨_, rfl, ?_⟩; have n0_ := Aside0.mk (blk_below (g := gb264) (o := .cells #[.string t260, .string t261, .string t262] 23 (0, 0)) (by (with_reducible repeat (first | refine blk_drewN ?_ _ | refine blk_drew ?_ | refine blk_alloc ?_ _)); refine blk_far ?_ NB264_269.out _; (with_reducible repeat (first | refine blk_drewN ?_ _ | refine blk_drew ?_ | refine blk_alloc ?_ _)); refine blk_far ?_ NB264_269.out _; (with_reducible repeat (first | refine blk_drewN ?_ _ | refine blk_drew ?_ | refine blk_alloc ?_ _)); refine blk_far ?_ NB264_269.out _; (with_reducible repeat (first | refine blk_drewN ?_ _ | refine blk_drew ?_ | refine blk_alloc ?_ _)); exact BK264.out) hb); have n1_ := Aside0.mk (blk_below (g := gb269) (o := .cells #[.string t265, .string t266, .string t267] 23 (0, 0)) (by (with_reducible repeat (first | refine blk_drewN ?_ _ | refine blk_drew ?_ | refine blk_alloc ?_ _)); refine blk_put (cs := #[.string t265, .string t266, .string (⟨#[]⟩ : ByteArray)]) ?_ 2 _ rfl; (with_reducible repeat (first | refine blk_drewN ?_ _ | refine blk_drew ?_ | refine blk_alloc ?_ _)); refine blk_put (cs := #[.string t265, .string (⟨#[]⟩ : ByteArray), .string (⟨#[]⟩ : ByteArray)]) ?_ 1 _ rfl; (with_reducible repeat (first | refine blk_drewN ?_ _ | refine blk_drew ?_ | refine blk_alloc ?_ _)); refine blk_put (cs := #[.string (⟨#[]⟩ : ByteArray), .string (⟨#[]⟩ : ByteArray), .string (⟨#[]⟩ : ByteArray)]) ?_ 0 _ rfl; (with_reducible repeat (first | refine blk_drewN ?_ _ | refine blk_drew ?_ | refine blk_alloc ?_ _)); exact BK269.out) hb); have n2_ := Aside0.mk (below_step (by repeat (first | (with_reducible first | exact HB.out | apply below_alloc | apply pw_below_drewN | apply below_drew1 | refine below_set ?_ GE264.out | refine below_set ?_ GE269.out) | exact HB.out)) hb); clear BK264; clear BK269; clear HB; have BK264 := n0_; have BK269 := n1_; have HB := n2_; clear n0_ n1_ n2_; (try clear hb); (try clear hb2); (try clear hk); (try clear hi)) | ((with_reducible refine gate_callee (f := 13) rfl ?_); refine goesL_ (some 54) rfl rfl Try.func13 (by kernel_rfl) rfl #[.agg #[.string t270, .string t271, .string t272], .string (a2.extract 0 ((ji12) : Int).toNat)] rfl (by (try simp only [List.map_toArray, List.map_cons, List.map_nil]); first | done | (simp only [hji12]; rfl) | rfl | (simp only [List.length_drop, List.length_take]; rfl)) ?_; (with_reducible refine (disk_Append.calls t270 t271 t272 (a2.extract 0 ((ji12) : Int).toNat) t273 t274 t275 t276 _ A18.out).mono ?_); rintro e w52 ⟨rfl, hb⟩; refine ⟨_, rfl, ?_⟩; have n0_ := Aside0.mk (blk_below (g := gb264) (o := .cells #[.string t260, .string t261, .string t262] 23 (0, 0)) (by (with_reducible repeat (first | refine blk_drewN ?_ _ | refine blk_drew ?_ | refine blk_alloc ?_ _)); exact BK264.out) hb); have n1_ := Aside0.mk (blk_below (g := gb269) (o := .cells #[.string t265, .string t266, .string t267] 23 (0, 0)) (by (with_reducible repeat (first | refine blk_drewN ?_ _ | refine blk_drew ?_ | refine blk_alloc ?_ _)); exact BK269.out) hb); have n2_ := Aside0.mk (below_step (by repeat (first | (with_reducible first | exact HB.out | apply below_alloc | apply pw_below_drewN | apply below_drew1 | refine below_set ?_ GE264.out | refine below_set ?_ GE269.out) | exact HB.out)) hb); clear BK264; clear BK269; clear HB; have BK264 := n0_; have BK269 := n1_; have HB := n2_; clear n0_ n1_ n2_; (try clear hb); (try clear hb2); (try clear hk); (try clear hi)) | ((with_reducible refine gate_dst (N := 17) rfl ?_); (try (refine gate_guard (by rfl) ?_; dsimp only)); refine box_event ?hg (N := 17) ?hd (cs := #[.string (⟨#[]⟩ : ByteArray), .string (⟨#[]⟩ : ByteArray), .string (⟨#[]⟩ : ByteArray)]) (t := 23) ?hr ?_; (case hd => rfl); (case hg => rfl); (case hr => first | (go_simp; done) | (go_simp; rfl)); intro gb277 hg w53 hbox hb; have n0_ := Aside0.mk (blk_below (g := gb264) (o := .cells #[.string t260, .string t261, .string t262] 23 (0, 0)) (by (with_reducible repeat (first | refine blk_drewN ?_ _ | refine blk_drew ?_ | refine blk_alloc ?_ _)); exact BK264.out) hb); have n1_ := Aside0.mk (blk_below (g := gb269) (o := .cells #[.string t265, .string t266, .string t267] 23 (0, 0)) (by (with_reducible repeat (first | refine blk_drewN ?_ _ | refine blk_drew ?_ | refine blk_alloc ?_ _)); exact BK269.out) hb); have n2_ := Aside0.mk (below_step (by repeat (first | (with_reducible first | exact HB.out | apply below_alloc | apply pw_below_drewN | apply below_drew1 | refine below_set ?_ GE264.out | refine below_set ?_ GE269.out) | exact HB.out)) hb); have n3_ := Aside0.mk (hbox); have n4_ := Aside0.mk ((by rw [hg]; exact (below_size (by repeat (first | (with_reducible first | exact HB.out | apply below_alloc | apply pw_below_drewN | apply below_drew1 | refine below_set ?_ GE264.out | refine below_set ?_ GE269.out) | exact HB.out))) : w.heap.size ≤ gb277)); have n5_ := Aside0.mk ((by rw [hg]; exact (below_size (by repeat (first | (with_reducible first | exact HB.out | apply below_alloc | apply pw_below_drewN | apply below_drew1 | refine below_set ?_ GE264.out | refine below_set ?_ GE269.out) | exact HB.out))) : w.heap.size ≤ gb277)); have n6_ := Aside0.mk ((by rw [hg]; exact Nat.ne_of_lt (blk_lt (g := gb264) (o := .cells #[.string t260, .string t261, .string t262] 23 (0, 0)) (by (with_reducible repeat (first | refine blk_drewN ?_ _ | refine blk_drew ?_ | refine blk_alloc ?_ _)); exact BK264.out)) : gb264 ≠ gb277)); have n7_ := Aside0.mk ((by rw [hg]; exact Nat.ne_of_gt (blk_lt (g := gb264) (o := .cells #[.string t260, .string t261, .string t262] 23 (0, 0)) (by (with_reducible repeat (first | refine blk_drewN ?_ _ | refine blk_drew ?_ | refine blk_alloc ?_ _)); exact BK264.out)) : gb277 ≠ gb264)); have n8_ := Aside0.mk ((by rw [hg]; exact Nat.ne_of_lt (blk_lt (g := gb269) (o := .cells #[.string t265, .string t266, .string t267] 23 (0, 0)) (by (with_reducible repeat (first | refine blk_drewN ?_ _ | refine blk_drew ?_ | refine blk_alloc ?_ _)); exact BK269.out)) : gb269 ≠ gb277)); have n9_ := Aside0.mk ((by rw [hg]; exact Nat.ne_of_gt (blk_lt (g := gb269) (o := .cells #[.string t265, .string t266, .string t267] 23 (0, 0)) (by (with_reducible repeat (first | refine blk_drewN ?_ _ | refine blk_drew ?_ | refine blk_alloc ?_ _)); exact BK269.out)) : gb277 ≠ gb269)); clear BK264; clear BK269; clear HB; have BK264 := n0_; have BK269 := n1_; have HB := n2_; have BK277 := n3_; have GW277 := n4_; have GE277 := n5_; have NB264_277 := n6_; have NB277_264 := n7_; have NB269_277 := n8_; have NB277_269 := n9_; clear n0_ n1_ n2_ n3_ n4_ n5_ n6_ n7_ n8_ n9_; clear hb hbox hg; have hnb54 := NB277_264.out; have hnc54 := NB264_277.out; have hnb55 := NB277_269.out; have hnc55 := NB269_277.out; have hcz56_0 : w53.cell? ⟨gb277, 0, none⟩ = some (.string (⟨#[]⟩ : ByteArray)) := (blk_cell BK277.out 0).trans rfl; have hcz56_1 : w53.cell? ⟨gb277, 1, none⟩ = some (.string (⟨#[]⟩ : ByteArray)) := (blk_cell BK277.out 1).trans rfl; have hcz56_2 : w53.cell? ⟨gb277, 2, none⟩ = some (.string (⟨#[]⟩ : ByteArray)) := (blk_cell BK277.out 2).trans rfl; have hfz56_0 := blk_frozen BK277.out 0; have hfz56_1 := blk_frozen BK277.out 1; have hfz56_2 := blk_frozen BK277.out 2) | ((with_reducible refine gate_callee (f := 13) rfl ?_); refine goesL_ (some 62) rfl rfl Try.func13 (by kernel_rfl) rfl #[.agg #[.string (⟨#[]⟩ : ByteArray), .string (⟨#[]⟩ : ByteArray), .string (⟨#[]⟩ : ByteArray)], .string ((a0.extract 0 ((ji6) : Int).toNat) ++ (a1.extract 0 ((ji9) : Int).toNat))] rfl (by (try simp only [List.map_toArray, List.map_cons, List.map_nil]); first | done | (simp only [hji6, hji9]; rfl) | rfl | (simp only [List.length_drop, List.length_take]; rfl)) ?_; (with_reducible refine (disk_Append.calls (⟨#[]⟩ : ByteArray) (⟨#[]⟩ : ByteArray) (⟨#[]⟩ : ByteArray) ((a0.extract 0 ((ji6) : Int).toNat) ++ (a1.extract 0 ((ji9) : Int).toNat)) t278 t279 t280 t281 _ A20.out).mono ?_); rintro e w57 ⟨rfl, hb⟩; refine ⟨_, rfl, ?_⟩; have n0_ := Aside0.mk (blk_below (g := gb264) (o := .cells #[.string t260, .string t261, .string t262] 23 (0, 0)) (by (with_reducible repeat (first | refine blk_drewN ?_ _ | refine blk_drew ?_ | refine blk_alloc ?_ _)); refine blk_far ?_ NB264_277.out _; (with_reducible repeat (first | refine blk_drewN ?_ _ | refine blk_drew ?_ | refine blk_alloc ?_ _)); refine blk_far ?_ NB264_277.out _; (with_reducible repeat (first | refine blk_drewN ?_ _ | refine blk_drew ?_ | refine blk_alloc ?_ _)); refine blk_far ?_ NB264_277.out _; (with_reducible repeat (first | refine blk_drewN ?_ _ | refine blk_drew ?_ | refine blk_alloc ?_ _)); exact BK264.out) hb); have n1_ := Aside0.mk (blk_below (g := gb269) (o := .cells #[.string t265, .string t266, .string t267] 23 (0, 0)) (by (with_reducible repeat (first | refine blk_drewN ?_ _ | refine blk_drew ?_ | refine blk_alloc ?_ _)); refine blk_far ?_ NB269_277.out _; (with_reducible repeat (first | refine blk_drewN ?_ _ | refine blk_drew ?_ | refine blk_alloc ?_ _)); refine blk_far ?_ NB269_277.out _; (with_reducible repeat (first | refine blk_drewN ?_ _ | refine blk_drew ?_ | refine blk_alloc ?_ _)); refine blk_far ?_ NB269_277.out _; (with_reducible repeat (first | refine blk_drewN ?_ _ | refine blk_drew ?_ | refine blk_alloc ?_ _)); exact BK269.out) hb); have n2_ := Aside0.mk (blk_below (g := gb277) (o := .cells #[.string t273, .string t274, .string t275] 23 (0, 0)) (by (with_reducible repeat (first | refine blk_drewN ?_ _ | refine blk_drew ?_ | refine blk_alloc ?_ _)); refine blk_put (cs := #[.string t273, .string t274, .string (⟨#[]⟩ : ByteArray)]) ?_ 2 _ rfl; (with_reducible repeat (first | refine blk_drewN ?_ _ | refine blk_drew ?_ | refine blk_alloc ?_ _)); refine blk_put (cs := #[.string t273, .string (⟨#[]⟩ : ByteArray), .string (⟨#[]⟩ : ByteArray)]) ?_ 1 _ rfl; (with_reducible repeat (first | refine blk_drewN ?_ _ | refine blk_drew ?_ | refine blk_alloc ?_ _)); refine blk_put (cs := #[.string (⟨#[]⟩ : ByteArray), .string (⟨#[]⟩ : ByteArray), .string (⟨#[]⟩ : ByteArray)]) ?_ 0 _ rfl; (with_reducible repeat (first | refine blk_drewN ?_ _ | refine blk_drew ?_ | refine blk_alloc ?_ _)); exact BK277.out) hb); have n3_ := Aside0.mk (below_step (by repeat (first | (with_reducible first | exact HB.out | apply below_alloc | apply pw_below_drewN | apply below_drew1 | refine below_set ?_ GE264.out | refine below_set ?_ GE269.out | refine below_set ?_ GE277.out) | exact HB.out)) hb); clear BK264; clear BK269; clear BK277; clear HB; have BK264 := n0_; have BK269 := n1_; have BK277 := n2_; have HB := n3_; clear n0_ n1_ n2_ n3_; (try clear hb); (try clear hb2); (try clear hk); (try clear hi)) | ((with_reducible refine gate_dst (N := 19) rfl ?_); (try (refine gate_guard (by rfl) ?_; dsimp only)); refine box_event ?hg (N := 19) ?hd (cs := #[.string (⟨#[]⟩ : ByteArray), .string (⟨#[]⟩ : ByteArray), .string (⟨#[]⟩ : ByteArray)]) (t := 23) ?hr ?_; (case hd => rfl); (case hg => rfl); (case hr => first | (go_simp; done) | (go_simp; rfl)); intro gb282 hg w58 hbox hb; have n0_ := Aside0.mk (blk_below (g := gb264) (o := .cells #[.string t260, .string t261, .string t262] 23 (0, 0)) (by (with_reducible repeat (first | refine blk_drewN ?_ _ | refine blk_drew ?_ | refine blk_alloc ?_ _)); exact BK264.out) hb); have n1_ := Aside0.mk (blk_below (g := gb269) (o := .cells #[.string t265, .string t266, .string t267] 23 (0, 0)) (by (with_reducible repeat (first | refine blk_drewN ?_ _ | refine blk_drew ?_ | refine blk_alloc ?_ _)); exact BK269.out) hb); have n2_ := Aside0.mk (blk_below (g := gb277) (o := .cells #[.string t273, .string t274, .string t275] 23 (0, 0)) (by (with_reducible repeat (first | refine blk_drewN ?_ _ | refine blk_drew ?_ | refine blk_alloc ?_ _)); exact BK277.out) hb); have n3_ := Aside0.mk (below_step (by repeat (first | (with_reducible first | exact HB.out | apply below_alloc | apply pw_below_drewN | apply below_drew1 | refine below_set ?_ GE264.out | refine below_set ?_ GE269.out | refine below_set ?_ GE277.out) | exact HB.out)) hb); have n4_ := Aside0.mk (hbox); have n5_ := Aside0.mk ((by rw [hg]; exact (below_size (by repeat (first | (with_reducible first | exact HB.out | apply below_alloc | apply pw_below_drewN | apply below_drew1 | refine below_set ?_ GE264.out | refine below_set ?_ GE269.out | refine below_set ?_ GE277.out) | exact HB.out))) : w.heap.size ≤ gb282)); have n6_ := Aside0.mk ((by rw [hg]; exact (below_size (by repeat (first | (with_reducible first | exact HB.out | apply below_alloc | apply pw_below_drewN | apply below_drew1 | refine below_set ?_ GE264.out | refine below_set ?_ GE269.out | refine below_set ?_ GE277.out) | exact HB.out))) : w.heap.size ≤ gb282)); have n7_ := Aside0.mk ((by rw [hg]; exact Nat.ne_of_lt (blk_lt (g := gb264) (o := .cells #[.string t260, .string t261, .string t262] 23 (0, 0)) (by (with_reducible repeat (first | refine blk_drewN ?_ _ | refine blk_drew ?_ | refine blk_alloc ?_ _)); exact BK264.out)) : gb264 ≠ gb282)); have n8_ := Aside0.mk ((by rw [hg]; exact Nat.ne_of_gt (blk_lt (g := gb264) (o := .cells #[.string t260, .string t261, .string t262] 23 (0, 0)) (by (with_reducible repeat (first | refine blk_drewN ?_ _ | refine blk_drew ?_ | refine blk_alloc ?_ _)); exact BK264.out)) : gb282 ≠ gb264)); have n9_ := Aside0.mk ((by rw [hg]; exact Nat.ne_of_lt (blk_lt (g := gb269) (o := .cells #[.string t265, .string t266, .string t267] 23 (0, 0)) (by (with_reducible repeat (first | refine blk_drewN ?_ _ | refine blk_drew ?_ | refine blk_alloc ?_ _)); exact BK269.out)) : gb269 ≠ gb282)); have n10_ := Aside0.mk ((by rw [hg]; exact Nat.ne_of_gt (blk_lt (g := gb269) (o := .cells #[.string t265, .string t266, .string t267] 23 (0, 0)) (by (with_reducible repeat (first | refine blk_drewN ?_ _ | refine blk_drew ?_ | refine blk_alloc ?_ _)); exact BK269.out)) : gb282 ≠ gb269)); have n11_ := Aside0.mk ((by rw [hg]; exact Nat.ne_of_lt (blk_lt (g := gb277) (o := .cells #[.string t273, .string t274, .string t275] 23 (0, 0)) (by (with_reducible repeat (first | refine blk_drewN ?_ _ | refine blk_drew ?_ | refine blk_alloc ?_ _)); exact BK277.out)) : gb277 ≠ gb282)); have n12_ := Aside0.mk ((by rw [hg]; exact Nat.ne_of_gt (blk_lt (g := gb277) (o := .cells #[.string t273, .string t274, .string t275] 23 (0, 0)) (by (with_reducible repeat (first | refine blk_drewN ?_ _ | refine blk_drew ?_ | refine blk_alloc ?_ _)); exact BK277.out)) : gb282 ≠ gb277)); clear BK264; clear BK269; clear BK277; clear HB; have BK264 := n0_; have BK269 := n1_; have BK277 := n2_; have HB := n3_; have BK282 := n4_; have GW282 := n5_; have GE282 := n6_; have NB264_282 := n7_; have NB282_264 := n8_; have NB269_282 := n9_; have NB282_269 := n10_; have NB277_282 := n11_; have NB282_277 := n12_; clear n0_ n1_ n2_ n3_ n4_ n5_ n6_ n7_ n8_ n9_ n10_ n11_ n12_; clear hb hbox hg; have hnb59 := NB282_264.out; have hnc59 := NB264_282.out; have hnb60 := NB282_269.out; have hnc60 := NB269_282.out; have hnb61 := NB282_277.out; have hnc61 := NB277_282.out; have hcz62_0 : w58.cell? ⟨gb282, 0, none⟩ = some (.string (⟨#[]⟩ : ByteArray)) := (blk_cell BK282.out 0).trans rfl; have hcz62_1 : w58.cell? ⟨gb282, 1, none⟩ = some (.string (⟨#[]⟩ : ByteArray)) := (blk_cell BK282.out 1).trans rfl; have hcz62_2 : w58.cell? ⟨gb282, 2, none⟩ = some (.string (⟨#[]⟩ : ByteArray)) := (blk_cell BK282.out 2).trans rfl; have hfz62_0 := blk_frozen BK282.out 0; have hfz62_1 := blk_frozen BK282.out 1; have hfz62_2 := blk_frozen BK282.out 2) | ((with_reducible refine gate_callee (f := 10) rfl ?_); refine goesL_ (some 66) rfl rfl Try.func10 (by kernel_rfl) rfl #[.int .i64 a3, .int .i64 600] rfl (by (try simp only [List.map_toArray, List.map_cons, List.map_nil]); first | done | rfl | (simp only [List.length_drop, List.length_take]; rfl)) ?_; (with_reducible refine (careenlaw07_pick.calls a3 600 t283 _ A21.out).mono ?_); rintro e w' ⟨rfl, ⟨nd, rfl⟩⟩; refine ⟨_, rfl, ?_⟩))
                                            have n0_ : Aside0 ((((w58.setCell ⟨gb282, 0, none⟩ (.string t278)).setCell ⟨gb282, 1, none⟩ (.string t279)).setCell ⟨gb282, 2, none⟩ (.string t280)).heap[gb264]? = some (.cells #[.string t260, .string t261, .string t262] 23 (0, 0))) := ⟨by (with_reducible repeat (first | refine blk_drewN ?_ _ | refine blk_drew ?_ | refine blk_alloc ?_ _)); refine blk_far ?_ NB264_282.out _; (with_reducible repeat (first | refine blk_drewN ?_ _ | refine blk_drew ?_ | refine blk_alloc ?_ _)); refine blk_far ?_ NB264_282.out _; (with_reducible repeat (first | refine blk_drewN ?_ _ | refine blk_drew ?_ | refine blk_alloc ?_ _)); refine blk_far ?_ NB264_282.out _; (with_reducible repeat (first | refine blk_drewN ?_ _ | refine blk_drew ?_ | refine blk_alloc ?_ _)); exact BK264.out⟩
                                            have n1_ : Aside0 ((((w58.setCell ⟨gb282, 0, none⟩ (.string t278)).setCell ⟨gb282, 1, none⟩ (.string t279)).setCell ⟨gb282, 2, none⟩ (.string t280)).heap[gb269]? = some (.cells #[.string t265, .string t266, .string t267] 23 (0, 0))) := ⟨by (with_reducible repeat (first | refine blk_drewN ?_ _ | refine blk_drew ?_ | refine blk_alloc ?_ _)); refine blk_far ?_ NB269_282.out _; (with_reducible repeat (first | refine blk_drewN ?_ _ | refine blk_drew ?_ | refine blk_alloc ?_ _)); refine blk_far ?_ NB269_282.out _; (with_reducible repeat (first | refine blk_drewN ?_ _ | refine blk_drew ?_ | refine blk_alloc ?_ _)); refine blk_far ?_ NB269_282.out _; (with_reducible repeat (first | refine blk_drewN ?_ _ | refine blk_drew ?_ | refine blk_alloc ?_ _)); exact BK269.out⟩
                                            have n2_ : Aside0 ((((w58.setCell ⟨gb282, 0, none⟩ (.string t278)).setCell ⟨gb282, 1, none⟩ (.string t279)).setCell ⟨gb282, 2, none⟩ (.string t280)).heap[gb277]? = some (.cells #[.string t273, .string t274, .string t275] 23 (0, 0))) := ⟨by (with_reducible repeat (first | refine blk_drewN ?_ _ | refine blk_drew ?_ | refine blk_alloc ?_ _)); refine blk_far ?_ NB277_282.out _; (with_reducible repeat (first | refine blk_drewN ?_ _ | refine blk_drew ?_ | refine blk_alloc ?_ _)); refine blk_far ?_ NB277_282.out _; (with_reducible repeat (first | refine blk_drewN ?_ _ | refine blk_drew ?_ | refine blk_alloc ?_ _)); refine blk_far ?_ NB277_282.out _; (with_reducible repeat (first | refine blk_drewN ?_ _ | refine blk_drew ?_ | refine blk_alloc ?_ _)); exact BK277.out⟩
                                            have n3_ : Aside0 ((((w58.setCell ⟨gb282, 0, none⟩ (.string t278)).setCell ⟨gb282, 1, none⟩ (.string t279)).setCell ⟨gb282, 2, none⟩ (.string t280)).heap[gb282]? = some (.cells #[.string t278, .string t279, .string t280] 23 (0, 0))) := ⟨by (with_reducible repeat (first | refine blk_drewN ?_ _ | refine blk_drew ?_ | refine blk_alloc ?_ _)); refine blk_put (cs := #[.string t278, .string t279, .string (⟨#[]⟩ : ByteArray)]) ?_ 2 _ rfl; (with_reducible repeat (first | refine blk_drewN ?_ _ | refine blk_drew ?_ | refine blk_alloc ?_ _)); refine blk_put (cs := #[.string t278, .string (⟨#[]⟩ : ByteArray), .string (⟨#[]⟩ : ByteArray)]) ?_ 1 _ rfl; (with_reducible repeat (first | refine blk_drewN ?_ _ | refine blk_drew ?_ | refine blk_alloc ?_ _)); refine blk_put (cs := #[.string (⟨#[]⟩ : ByteArray), .string (⟨#[]⟩ : ByteArray), .string (⟨#[]⟩ : ByteArray)]) ?_ 0 _ rfl; (with_reducible repeat (first | refine blk_drewN ?_ _ | refine blk_drew ?_ | refine blk_alloc ?_ _)); exact BK282.out⟩
                                            have n4_ : Aside0 (Below w.heap.size w (((w58.setCell ⟨gb282, 0, none⟩ (.string t278)).setCell ⟨gb282, 1, none⟩ (.string t279)).setCell ⟨gb282, 2, none⟩ (.string t280))) := ⟨by repeat (first | (with_reducible first | exact HB.out | apply below_alloc | apply pw_below_drewN | apply below_drew1 | refine below_set ?_ GE264.out | refine below_set ?_ GE269.out | refine below_set ?_ GE277.out | refine below_set ?_ GE282.out) | exact HB.out)⟩
                                            (try clear BK264)
                                            (try clear BK269)
                                            (try clear BK277)
                                            (try clear BK282)
                                            (try clear HB)
                                            generalize (((w58.setCell ⟨gb282, 0, none⟩ (.string t278)).setCell ⟨gb282, 1, none⟩ (.string t279)).setCell ⟨gb282, 2, none⟩ (.string t280)) = w63 at n0_ n1_ n2_ n3_ n4_ ⊢
                                            have BK264 := n0_
                                            have BK269 := n1_
                                            have BK277 := n2_
                                            have BK282 := n3_
                                            have HB := n4_
                                            clear n0_ n1_ n2_ n3_ n4_
                                            (try (rw [drewN_self w63]; generalize hq_ : World.drewN w63 _ = w63; have n0_ : Aside0 (w63.heap[gb264]? = some (.cells #[.string t260, .string t261, .string t262] 23 (0, 0))) := ⟨by rw [← hq_]; exact (by (with_reducible repeat (first | refine blk_drewN ?_ _ | refine blk_drew ?_ | refine blk_alloc ?_ _)); exact BK264.out)⟩; have n1_ : Aside0 (w63.heap[gb269]? = some (.cells #[.string t265, .string t266, .string t267] 23 (0, 0))) := ⟨by rw [← hq_]; exact (by (with_reducible repeat (first | refine blk_drewN ?_ _ | refine blk_drew ?_ | refine blk_alloc ?_ _)); exact BK269.out)⟩; have n2_ : Aside0 (w63.heap[gb277]? = some (.cells #[.string t273, .string t274, .string t275] 23 (0, 0))) := ⟨by rw [← hq_]; exact (by (with_reducible repeat (first | refine blk_drewN ?_ _ | refine blk_drew ?_ | refine blk_alloc ?_ _)); exact BK277.out)⟩; have n3_ : Aside0 (w63.heap[gb282]? = some (.cells #[.string t278, .string t279, .string t280] 23 (0, 0))) := ⟨by rw [← hq_]; exact (by (with_reducible repeat (first | refine blk_drewN ?_ _ | refine blk_drew ?_ | refine blk_alloc ?_ _)); exact BK282.out)⟩; have n4_ : Aside0 (Below w.heap.size w w63) := ⟨by rw [← hq_]; exact (by repeat (first | (with_reducible first | exact HB.out | apply below_alloc | apply pw_below_drewN | apply below_drew1 | refine below_set ?_ GE264.out | refine below_set ?_ GE269.out | refine below_set ?_ GE277.out | refine below_set ?_ GE282.out) | exact HB.out))⟩; clear BK264 BK269 BK277 BK282 HB hq_; have BK264 := n0_; have BK269 := n1_; have BK277 := n2_; have BK282 := n3_; have HB := n4_; clear n0_ n1_ n2_ n3_ n4_))
                                            have n0_ := Aside0.mk (blk_drew BK264.out)
                                            have n1_ := Aside0.mk (blk_drew BK269.out)
                                            have n2_ := Aside0.mk (blk_drew BK277.out)
                                            have n3_ := Aside0.mk (blk_drew BK282.out)
                                            have n4_ := Aside0.mk (below_drew1 HB.out)
                                            clear BK264
                                            clear BK269
                                            clear BK277
                                            clear BK282
                                            clear HB
                                            have BK264 := n0_
                                            have BK269 := n1_
                                            have BK277 := n2_
                                            have BK282 := n3_
                                            have HB := n4_
                                            clear n0_ n1_ n2_ n3_ n4_
                                            refine start_ (n := 67) (S := fun w' => w'.cell? ⟨gb269, 0, none⟩ = some (.string t265) ∧ w'.cell? ⟨gb269, 1, none⟩ = some (.string t266) ∧ w'.cell? ⟨gb269, 2, none⟩ = some (.string t267) ∧ w'.cell? ⟨gb282, 0, none⟩ = some (.string t278) ∧ w'.cell? ⟨gb282, 1, none⟩ = some (.string t279) ∧ w'.cell? ⟨gb282, 2, none⟩ = some (.string t280) ∧ w'.cell? ⟨gb277, 0, none⟩ = some (.string t273) ∧ w'.cell? ⟨gb277, 1, none⟩ = some (.string t274) ∧ w'.cell? ⟨gb277, 2, none⟩ = some (.string t275)) (ds := []) #[false, false, false, false, false, false, false, false, false, false, false, false, false, false, false, false, false, false, false, false, false, false, false, false, false, false, false, false, false, false, false, false, false, false, false, false, false, false, false, false, false, false, false, false, false, false, false, false, false, false, false, false, false, false, false, false, false, false, false, false, false, false, false, false, false, false, false] (by kernel_rfl) rfl rfl ⟨(blk_cell BK269.out 0).trans rfl, (blk_cell BK269.out 1).trans rfl, (blk_cell BK269.out 2).trans rfl, (blk_cell BK282.out 0).trans rfl, (blk_cell BK282.out 1).trans rfl, (blk_cell BK282.out 2).trans rfl, (blk_cell BK277.out 0).trans rfl, (blk_cell BK277.out 1).trans rfl, (blk_cell BK277.out 2).trans rfl⟩ (fun hHeld => ?_); refine with_tabW careenlaw07_DiskSteps.tab10 careenlaw07_DiskSteps.bits10 (fun HT_ HW_ => ?_)
                                            generalize w63.drew = w64 at BK264 BK269 BK277 BK282 HB hHeld ⊢
                                            refine pure_ (i := 0) (N := some 67) (v := ?_) (a' := ?_) #[true, false, false, false, false, false, false, false, false, false, false, false, false, false, false, false, false, false, false, false, false, false, false, false, false, false, false, false, false, false, false, false, false, false, false, false, false, false, false, false, false, false, false, false, false, false, false, false, false, false, false, false, false, false, false, false, false, false, false, false, false, false, false, false, false, false, false] rfl rfl (any_of HT_.out (by kernel_rfl)) (fun _ _ _ h => h) (Or.inl ⟨by rfl, ?_⟩) ?_ ?_
                                            rotate_left
                                            · intro w'
                                              go_simp
                                              with_reducible rfl
                                            rotate_left
                                            · simp only [Act.put, List.setIfInBounds_toArray, List.set_cons_zero, List.set_cons_succ, i64_w, i32_w]
                                              rfl
                                            refine pure_ (i := 1) (N := some 68) (v := ?_) (a' := ?_) #[true, true, false, false, false, false, false, false, false, false, false, false, false, false, false, false, false, false, false, false, false, false, false, false, false, false, false, false, false, false, false, false, false, false, false, false, false, false, false, false, false, false, false, false, false, false, false, false, false, false, false, false, false, false, false, false, false, false, false, false, false, false, false, false, false, false, false] rfl rfl (any_of HT_.out (by kernel_rfl)) (fun _ _ _ h => h) (Or.inl ⟨by rfl, ?_⟩) ?_ ?_
                                            rotate_left
                                            · intro w'
                                              go_simp
                                              with_reducible rfl
                                            rotate_left
                                            · simp only [Act.put, List.setIfInBounds_toArray, List.set_cons_zero, List.set_cons_succ, i64_w, i32_w]
                                              rfl
                                            refine pure_ (i := 2) (N := some 69) (v := ?_) (a' := ?_) #[true, true, true, false, false, false, false, false, false, false, false, false, false, false, false, false, false, false, false, false, false, false, false, false, false, false, false, false, false, false, false, false, false, false, false, false, false, false, false, false, false, false, false, false, false, false, false, false, false, false, false, false, false, false, false, false, false, false, false, false, false, false, false, false, false, false, false] rfl rfl (any_of HT_.out (by kernel_rfl)) (fun _ _ _ h => h) (Or.inl ⟨by rfl, ?_⟩) ?_ ?_
                                            rotate_left
                                            · intro w'
                                              go_simp
                                              with_reducible rfl
                                            rotate_left
                                            · simp only [Act.put, List.setIfInBounds_toArray, List.set_cons_zero, List.set_cons_succ, i64_w, i32_w]
                                              rfl
                                            refine pure_ (i := 3) (N := some 70) (v := ?_) (a' := ?_) #[true, true, true, true, false, false, false, false, false, false, false, false, false, false, false, false, false, false, false, false, false, false, false, false, false, false, false, false, false, false, false, false, false, false, false, false, false, false, false, false, false, false, false, false, false, false, false, false, false, false, false, false, false, false, false, false, false, false, false, false, false, false, false, false, false, false, false] rfl rfl (any_of HT_.out (by kernel_rfl)) (fun _ _ _ h => h) (Or.inl ⟨by rfl, ?_⟩) ?_ ?_
                                            rotate_left
                                            · intro w'
                                              go_simp
                                              with_reducible rfl
                                            rotate_left
                                            · simp only [Act.put, List.setIfInBounds_toArray, List.set_cons_zero, List.set_cons_succ, i64_w, i32_w]
                                              rfl
                                            refine pure_ (i := 4) (N := some 71) (v := ?_) (a' := ?_) #[true, true, true, true, true, false, false, false, false, false, false, false, false, false, false, false, false, false, false, false, false, false, false, false, false, false, false, false, false, false, false, false, false, false, false, false, false, false, false, false, false, false, false, false, false, false, false, false, false, false, false, false, false, false, false, false, false, false, false, false, false, false, false, false, false, false, false] rfl rfl (any_of HT_.out (by kernel_rfl)) (fun _ _ _ h => h) (Or.inl ⟨by rfl, ?_⟩) ?_ ?_
                                            rotate_left
                                            · intro w'
                                              go_simp
                                              with_reducible rfl
                                            rotate_left
                                            · simp only [Act.put, List.setIfInBounds_toArray, List.set_cons_zero, List.set_cons_succ, i64_w, i32_w]
                                              rfl
                                            refine pure_ (i := 5) (N := some 72) (v := ?_) (a' := ?_) #[true, true, true, true, true, true, false, false, false, false, false, false, false, false, false, false, false, false, false, false, false, false, false, false, false, false, false, false, false, false, false, false, false, false, false, false, false, false, false, false, false, false, false, false, false, false, false, false, false, false, false, false, false, false, false, false, false, false, false, false, false, false, false, false, false, false, false] rfl rfl (any_of HT_.out (by kernel_rfl)) (fun _ _ _ h => h) (Or.inl ⟨by rfl, ?_⟩) ?_ ?_
                                            rotate_left
                                            · intro w'
                                              go_simp
                                              with_reducible rfl
                                            rotate_left
                                            · simp only [Act.put, List.setIfInBounds_toArray, List.set_cons_zero, List.set_cons_succ, i64_w, i32_w]
                                              rfl
                                            refine pure_ (i := 6) (N := some 73) (v := ?_) (a' := ?_) #[true, true, true, true, true, true, true, false, false, false, false, false, false, false, false, false, false, false, false, false, false, false, false, false, false, false, false, false, false, false, false, false, false, false, false, false, false, false, false, false, false, false, false, false, false, false, false, false, false, false, false, false, false, false, false, false, false, false, false, false, false, false, false, false, false, false, false] rfl rfl (any_of HT_.out (by kernel_rfl)) (fun _ _ _ h => h) (Or.inl ⟨by rfl, ?_⟩) ?_ ?_
                                            rotate_left
                                            · intro w'
                                              go_simp
                                              with_reducible rfl
                                            rotate_left
                                            · simp only [Act.put, List.setIfInBounds_toArray, List.set_cons_zero, List.set_cons_succ, i64_w, i32_w]
                                              rfl
                                            refine pure_ (i := 7) (N := some 74) (v := ?_) (a' := ?_) #[true, true, true, true, true, true, true, true, false, false, false, false, false, false, false, false, false, false, false, false, false, false, false, false, false, false, false, false, false, false, false, false, false, false, false, false, false, false, false, false, false, false, false, false, false, false, false, false, false, false, false, false, false, false, false, false, false, false, false, false, false, false, false, false, false, false, false] rfl rfl (any_of HT_.out (by kernel_rfl)) (fun _ _ _ h => h) (Or.inl ⟨by rfl, ?_⟩) ?_ ?_
                                            rotate_left
                                            · intro w'
                                              go_simp
                                              with_reducible rfl
                                            rotate_left
                                            · simp only [Act.put, List.setIfInBounds_toArray, List.set_cons_zero, List.set_cons_succ, i64_w, i32_w]
                                              rfl
                                            refine pure_ (i := 8) (N := some 75) (v := ?_) (a' := ?_) #[true, true, true, true, true, true, true, true, true, false, false, false, false, false, false, false, false, false, false, false, false, false, false, false, false, false, false, false, false, false, false, false, false, false, false, false, false, false, false, false, false, false, false, false, false, false, false, false, false, false, false, false, false, false, false, false, false, false, false, false, false, false, false, false, false, false, false] rfl rfl (any_of HT_.out (by kernel_rfl)) (fun _ _ _ h => h) (Or.inl ⟨by rfl, ?_⟩) ?_ ?_
                                            rotate_left
                                            · intro w'
                                              go_simp
                                              with_reducible rfl
                                            rotate_left
                                            · simp only [Act.put, List.setIfInBounds_toArray, List.set_cons_zero, List.set_cons_succ, i64_w, i32_w]
                                              rfl
                                            refine pure_ (i := 9) (N := some 76) (v := ?_) (a' := ?_) #[true, true, true, true, true, true, true, true, true, true, false, false, false, false, false, false, false, false, false, false, false, false, false, false, false, false, false, false, false, false, false, false, false, false, false, false, false, false, false, false, false, false, false, false, false, false, false, false, false, false, false, false, false, false, false, false, false, false, false, false, false, false, false, false, false, false, false] rfl rfl (any_of HT_.out (by kernel_rfl)) (fun _ _ _ h => h) (Or.inl ⟨by rfl, ?_⟩) ?_ ?_
                                            rotate_left
                                            · intro w'
                                              go_simp
                                              with_reducible rfl
                                            rotate_left
                                            · simp only [Act.put, List.setIfInBounds_toArray, List.set_cons_zero, List.set_cons_succ, i64_w, i32_w]
                                              rfl
                                            refine pure_ (i := 10) (N := some 77) (v := ?_) (a' := ?_) #[true, true, true, true, true, true, true, true, true, true, true, false, false, false, false, false, false, false, false, false, false, false, false, false, false, false, false, false, false, false, false, false, false, false, false, false, false, false, false, false, false, false, false, false, false, false, false, false, false, false, false, false, false, false, false, false, false, false, false, false, false, false, false, false, false, false, false] rfl rfl (any_of HT_.out (by kernel_rfl)) (fun _ _ _ h => h) (Or.inl ⟨by rfl, ?_⟩) ?_ ?_
                                            rotate_left
                                            · intro w'
                                              go_simp
                                              with_reducible rfl
                                            rotate_left
                                            · simp only [Act.put, List.setIfInBounds_toArray, List.set_cons_zero, List.set_cons_succ, i64_w, i32_w]
                                              rfl
                                            refine pure_ (i := 11) (N := some 78) (v := ?_) (a' := ?_) #[true, true, true, true, true, true, true, true, true, true, true, true, false, false, false, false, false, false, false, false, false, false, false, false, false, false, false, false, false, false, false, false, false, false, false, false, false, false, false, false, false, false, false, false, false, false, false, false, false, false, false, false, false, false, false, false, false, false, false, false, false, false, false, false, false, false, false] rfl rfl (any_of HT_.out (by kernel_rfl)) (fun _ _ _ h => h) (Or.inl ⟨by rfl, ?_⟩) ?_ ?_
                                            rotate_left
                                            · intro w'
                                              go_simp
                                              with_reducible rfl
                                            rotate_left
                                            · simp only [Act.put, List.setIfInBounds_toArray, List.set_cons_zero, List.set_cons_succ, i64_w, i32_w]
                                              rfl
                                            refine pure_ (i := 12) (N := some 79) (v := ?_) (a' := ?_) #[true, true, true, true, true, true, true, true, true, true, true, true, true, false, false, false, false, false, false, false, false, false, false, false, false, false, false, false, false, false, false, false, false, false, false, false, false, false, false, false, false, false, false, false, false, false, false, false, false, false, false, false, false, false, false, false, false, false, false, false, false, false, false, false, false, false, false] rfl rfl (any_of HT_.out (by kernel_rfl)) (fun _ _ _ h => h) (Or.inl ⟨by rfl, ?_⟩) ?_ ?_
                                            rotate_left
                                            · intro w'
                                              go_simp
                                              with_reducible rfl
                                            rotate_left
                                            · simp only [Act.put, List.setIfInBounds_toArray, List.set_cons_zero, List.set_cons_succ, i64_w, i32_w]
                                              rfl
                                            refine pure_ (i := 13) (N := some 80) (v := ?_) (a' := ?_) #[true, true, true, true, true, true, true, true, true, true, true, true, true, true, false, false, false, false, false, false, false, false, false, false, false, false, false, false, false, false, false, false, false, false, false, false, false, false, false, false, false, false, false, false, false, false, false, false, false, false, false, false, false, false, false, false, false, false, false, false, false, false, false, false, false, false, false] rfl rfl (any_of HT_.out (by kernel_rfl)) (fun _ _ _ h => h) (Or.inl ⟨by rfl, ?_⟩) ?_ ?_
                                            rotate_left
                                            · intro w'
                                              go_simp
                                              with_reducible rfl
                                            rotate_left
                                            · simp only [Act.put, List.setIfInBounds_toArray, List.set_cons_zero, List.set_cons_succ, i64_w, i32_w]
                                              rfl
                                            refine pure_ (i := 14) (N := some 81) (v := ?_) (a' := ?_) #[true, true, true, true, true, true, true, true, true, true, true, true, true, true, true, false, false, false, false, false, false, false, false, false, false, false, false, false, false, false, false, false, false, false, false, false, false, false, false, false, false, false, false, false, false, false, false, false, false, false, false, false, false, false, false, false, false, false, false, false, false, false, false, false, false, false, false] rfl rfl (any_of HT_.out (by kernel_rfl)) (fun _ _ _ h => h) (Or.inl ⟨by rfl, ?_⟩) ?_ ?_
                                            rotate_left
                                            · intro w'
                                              go_simp
                                              with_reducible rfl
                                            rotate_left
                                            · simp only [Act.put, List.setIfInBounds_toArray, List.set_cons_zero, List.set_cons_succ, i64_w, i32_w]
                                              rfl
                                            refine pure_ (i := 15) (N := some 82) (v := ?_) (a' := ?_) #[true, true, true, true, true, true, true, true, true, true, true, true, true, true, true, true, false, false, false, false, false, false, false, false, false, false, false, false, false, false, false, false, false, false, false, false, false, false, false, false, false, false, false, false, false, false, false, false, false, false, false, false, false, false, false, false, false, false, false, false, false, false, false, false, false, false, false] rfl rfl (any_of HT_.out (by kernel_rfl)) (fun _ _ _ h => h) (Or.inl ⟨by rfl, ?_⟩) ?_ ?_
                                            rotate_left
                                            · intro w'
                                              go_simp
                                              with_reducible rfl
                                            rotate_left
                                            · simp only [Act.put, List.setIfInBounds_toArray, List.set_cons_zero, List.set_cons_succ, i64_w, i32_w]
                                              rfl
                                            refine pure_ (i := 16) (N := some 83) (v := ?_) (a' := ?_) #[true, true, true, true, true, true, true, true, true, true, true, true, true, true, true, true, true, false, false, false, false, false, false, false, false, false, false, false, false, false, false, false, false, false, false, false, false, false, false, false, false, false, false, false, false, false, false, false, false, false, false, false, false, false, false, false, false, false, false, false, false, false, false, false, false, false, false] rfl rfl (any_of HT_.out (by kernel_rfl)) (fun _ _ _ h => h) (Or.inl ⟨by rfl, ?_⟩) ?_ ?_
                                            rotate_left
                                            · intro w'
                                              go_simp
                                              with_reducible rfl
                                            rotate_left
                                            · simp only [Act.put, List.setIfInBounds_toArray, List.set_cons_zero, List.set_cons_succ, i64_w, i32_w]
                                              rfl
                                            refine pure_ (i := 17) (N := some 84) (v := ?_) (a' := ?_) #[true, true, true, true, true, true, true, true, true, true, true, true, true, true, true, true, true, true, false, false, false, false, false, false, false, false, false, false, false, false, false, false, false, false, false, false, false, false, false, false, false, false, false, false, false, false, false, false, false, false, false, false, false, false, false, false, false, false, false, false, false, false, false, false, false, false, false] rfl rfl (any_of HT_.out (by kernel_rfl)) (fun _ _ _ h => h) (Or.inl ⟨by rfl, ?_⟩) ?_ ?_
                                            rotate_left
                                            · intro w'
                                              go_simp
                                              with_reducible rfl
                                            rotate_left
                                            · simp only [Act.put, List.setIfInBounds_toArray, List.set_cons_zero, List.set_cons_succ, i64_w, i32_w]
                                              rfl
                                            refine take_ (i := 18) (N := some 85) (v := ?_) (a' := ?_) #[true, true, true, true, true, true, true, true, true, true, true, true, true, true, true, true, true, true, true, false, false, false, false, false, false, false, false, false, false, false, false, false, false, false, false, false, false, false, false, false, false, false, false, false, false, false, false, false, false, false, false, false, false, false, false, false, false, false, false, false, false, false, false, false, false, false, false] rfl rfl (take_ofW HT_.out HW_.out (by kernel_rfl)) (fun _ _ _ h => h) (Or.inl ⟨by rfl, ?_⟩) hHeld ?_ ?_
                                            rotate_left
                                            · rintro w' ⟨s0, s1, s2, s3, s4, s5, s6, s7, s8⟩
                                              go_simp
                                              with_reducible rfl
                                            rotate_left
                                            · simp only [Act.put, List.setIfInBounds_toArray, List.set_cons_zero, List.set_cons_succ, i64_w, i32_w]
                                              rfl
                                            refine take_ (i := 19) (N := some 86) (v := ?_) (a' := ?_) #[true, true, true, true, true, true, true, true, true, true, true, true, true, true, true, true, true, true, true, true, false, false, false, false, false, false, false, false, false, false, false, false, false, false, false, false, false, false, false, false, false, false, false, false, false, false, false, false, false, false, false, false, false, false, false, false, false, false, false, false, false, false, false, false, false, false, false] rfl rfl (take_ofW HT_.out HW_.out (by kernel_rfl)) (fun _ _ _ h => h) (Or.inl ⟨by rfl, ?_⟩) hHeld ?_ ?_
                                            rotate_left
                                            · rintro w' ⟨s0, s1, s2, s3, s4, s5, s6, s7, s8⟩
                                              go_simp
                                              with_reducible rfl
                                            rotate_left
                                            · simp only [Act.put, List.setIfInBounds_toArray, List.set_cons_zero, List.set_cons_succ, i64_w, i32_w]
                                              rfl
                                            refine pure_ (i := 20) (N := some 87) (v := ?_) (a' := ?_) #[true, true, true, true, true, true, true, true, true, true, true, true, true, true, true, true, true, true, true, true, true, false, false, false, false, false, false, false, false, false, false, false, false, false, false, false, false, false, false, false, false, false, false, false, false, false, false, false, false, false, false, false, false, false, false, false, false, false, false, false, false, false, false, false, false, false, false] rfl rfl (any_of HT_.out (by kernel_rfl)) (fun _ _ _ h => h) (Or.inl ⟨by rfl, ?_⟩) ?_ ?_
                                            rotate_left
                                            · intro w'
                                              go_simp
                                              with_reducible rfl
                                            rotate_left
                                            · simp only [Act.put, List.setIfInBounds_toArray, List.set_cons_zero, List.set_cons_succ, i64_w, i32_w]
                                              rfl
                                            refine pure_ (i := 21) (N := some 88) (v := ?_) (a' := ?_) #[true, true, true, true, true, true, true, true, true, true, true, true, true, true, true, true, true, true, true, true, true, true, false, false, false, false, false, false, false, false, false, false, false, false, false, false, false, false, false, false, false, false, false, false, false, false, false, false, false, false, false, false, false, false, false, false, false, false, false, false, false, false, false, false, false, false, false] rfl rfl (any_of HT_.out (by kernel_rfl)) (fun _ _ _ h => h) (Or.inl ⟨by rfl, ?_⟩) ?_ ?_
                                            rotate_left
                                            · intro w'
                                              go_simp
                                              with_reducible rfl
                                            rotate_left
                                            · simp only [Act.put, List.setIfInBounds_toArray, List.set_cons_zero, List.set_cons_succ, i64_w, i32_w]
                                              rfl
                                            refine pure_ (i := 22) (N := some 89) (v := ?_) (a' := ?_) #[true, true, true, true, true, true, true, true, true, true, true, true, true, true, true, true, true, true, true, true, true, true, true, false, false, false, false, false, false, false, false, false, false, false, false, false, false, false, false, false, false, false, false, false, false, false, false, false, false, false, false, false, false, false, false, false, false, false, false, false, false, false, false, false, false, false, false] rfl rfl (any_of HT_.out (by kernel_rfl)) (fun _ _ _ h => h) (Or.inl ⟨by rfl, ?_⟩) ?_ ?_
                                            rotate_left
                                            · intro w'
                                              go_simp
                                              with_reducible rfl
                                            rotate_left
                                            · simp only [Act.put, List.setIfInBounds_toArray, List.set_cons_zero, List.set_cons_succ, i64_w, i32_w]
                                              rfl
                                            refine pure_ (i := 25) (N := some 92) (v := ?_) (a' := ?_) #[true, true, true, true, true, true, true, true, true, true, true, true, true, true, true, true, true, true, true, true, true, true, true, false, false, true, false, false, false, false, false, false, false, false, false, false, false, false, false, false, false, false, false, false, false, false, false, false, false, false, false, false, false, false, false, false, false, false, false, false, false, false, false, false, false, false, false] rfl rfl (any_of HT_.out (by kernel_rfl)) (fun _ _ _ h => h) (Or.inl ⟨by rfl, ?_⟩) ?_ ?_
                                            rotate_left
                                            · intro w'
                                              go_simp
                                              with_reducible rfl
                                            rotate_left
                                            · simp only [Act.put, List.setIfInBounds_toArray, List.set_cons_zero, List.set_cons_succ, i64_w, i32_w]
                                              rfl
                                            refine pure_ (i := 26) (N := some 93) (v := ?_) (a' := ?_) #[true, true, true, true, true, true, true, true, true, true, true, true, true, true, true, true, true, true, true, true, true, true, true, false, false, true, true, false, false, false, false, false, false, false, false, false, false, false, false, false, false, false, false, false, false, false, false, false, false, false, false, false, false, false, false, false, false, false, false, false, false, false, false, false, false, false, false] rfl rfl (any_of HT_.out (by kernel_rfl)) (fun _ _ _ h => h) (Or.inl ⟨by rfl, ?_⟩) ?_ ?_
                                            rotate_left
                                            · intro w'
                                              go_simp
                                              with_reducible rfl
                                            rotate_left
                                            · simp only [Act.put, List.setIfInBounds_toArray, List.set_cons_zero, List.set_cons_succ, i64_w, i32_w]
                                              rfl
                                            refine pure_ (i := 27) (N := some 94) (v := ?_) (a' := ?_) #[true, true, true, true, true, true, true, true, true, true, true, true, true, true, true, true, true, true, true, true, true, true, true, false, false, true, true, true, false, false, false, false, false, false, false, false, false, false, false, false, false, false, false, false, false, false, false, false, false, false, false, false, false, false, false, false, false, false, false, false, false, false, false, false, false, false, false] rfl rfl (any_of HT_.out (by kernel_rfl)) (fun _ _ _ h => h) (Or.inl ⟨by rfl, ?_⟩) ?_ ?_
                                            rotate_left
                                            · intro w'
                                              go_simp
                                              with_reducible rfl
                                            rotate_left
                                            · simp only [Act.put, List.setIfInBounds_toArray, List.set_cons_zero, List.set_cons_succ, i64_w, i32_w]
                                              rfl
                                            refine pure_ (i := 28) (N := some 95) (v := ?_) (a' := ?_) #[true, true, true, true, true, true, true, true, true, true, true, true, true, true, true, true, true, true, true, true, true, true, true, false, false, true, true, true, true, false, false, false, false, false, false, false, false, false, false, false, false, false, false, false, false, false, false, false, false, false, false, false, false, false, false, false, false, false, false, false, false, false, false, false, false, false, false] rfl rfl (any_of HT_.out (by kernel_rfl)) (fun _ _ _ h => h) (Or.inl ⟨by rfl, ?_⟩) ?_ ?_
                                            rotate_left
                                            · intro w'
                                              go_simp
                                              with_reducible rfl
                                            rotate_left
                                            · simp only [Act.put, List.setIfInBounds_toArray, List.set_cons_zero, List.set_cons_succ, i64_w, i32_w]
                                              rfl
                                            refine pure_ (i := 29) (N := some 96) (v := ?_) (a' := ?_) #[true, true, true, true, true, true, true, true, true, true, true, true, true, true, true, true, true, true, true, true, true, true, true, false, false, true, true, true, true, true, false, false, false, false, false, false, false, false, false, false, false, false, false, false, false, false, false, false, false, false, false, false, false, false, false, false, false, false, false, false, false, false, false, false, false, false, false] rfl rfl (any_of HT_.out (by kernel_rfl)) (fun _ _ _ h => h) (Or.inl ⟨by rfl, ?_⟩) ?_ ?_
                                            rotate_left
                                            · intro w'
                                              go_simp
                                              with_reducible rfl
                                            rotate_left
                                            · simp only [Act.put, List.setIfInBounds_toArray, List.set_cons_zero, List.set_cons_succ, i64_w, i32_w]
                                              rfl
                                            refine take_ (i := 23) (N := some 90) (v := ?_) (a' := ?_) #[true, true, true, true, true, true, true, true, true, true, true, true, true, true, true, true, true, true, true, true, true, true, true, true, false, true, true, true, true, true, false, false, false, false, false, false, false, false, false, false, false, false, false, false, false, false, false, false, false, false, false, false, false, false, false, false, false, false, false, false, false, false, false, false, false, false, false] rfl rfl (take_ofW HT_.out HW_.out (by kernel_rfl)) (fun _ _ _ h => h) (Or.inl ⟨by rfl, ?_⟩) hHeld ?_ ?_
                                            rotate_left
                                            · rintro w' ⟨s0, s1, s2, s3, s4, s5, s6, s7, s8⟩
                                              go_simp
                                              with_reducible rfl
                                            rotate_left
                                            · simp only [Act.put, List.setIfInBounds_toArray, List.set_cons_zero, List.set_cons_succ, i64_w, i32_w]
                                              rfl
                                            refine one_ (i := 24) (N := some 91) #[true, true, true, true, true, true, true, true, true, true, true, true, true, true, true, true, true, true, true, true, true, true, true, true, true, true, true, true, true, true, false, false, false, false, false, false, false, false, false, false, false, false, false, false, false, false, false, false, false, false, false, false, false, false, false, false, false, false, false, false, false, false, false, false, false, false, false] rfl rfl (one_of HT_.out (by kernel_rfl)) (by decide) (fun K hK => ?_)
                                            refine goes_ Try.func19 (by kernel_rfl) rfl #[.agg #[.string t273, .string t274, .string t275]] (by rfl) rfl rfl (by (try simp only [List.map_toArray, List.map_cons, List.map_nil]); first | done | rfl | (simp only [List.length_drop, List.length_take]; rfl)) ?_
                                            with_reducible refine (disk_Log.calls t273 t274 t275 t284 _ A28.out).mono ?_
                                            rintro e w65 ⟨rfl, hb⟩
                                            refine ⟨_, rfl, ?_⟩
                                            have n0_ := Aside0.mk (blk_below (g := gb264) (o := .cells #[.string t260, .string t261, .string t262] 23 (0, 0)) (by (with_reducible repeat (first | refine blk_drewN ?_ _ | refine blk_drew ?_ | refine blk_alloc ?_ _)); exact BK264.out) hb)
                                            have n1_ := Aside0.mk (blk_below (g := gb269) (o := .cells #[.string t265, .string t266, .string t267] 23 (0, 0)) (by (with_reducible repeat (first | refine blk_drewN ?_ _ | refine blk_drew ?_ | refine blk_alloc ?_ _)); exact BK269.out) hb)
                                            have n2_ := Aside0.mk (blk_below (g := gb277) (o := .cells #[.string t273, .string t274, .string t275] 23 (0, 0)) (by (with_reducible repeat (first | refine blk_drewN ?_ _ | refine blk_drew ?_ | refine blk_alloc ?_ _)); exact BK277.out) hb)
                                            have n3_ := Aside0.mk (blk_below (g := gb282) (o := .cells #[.string t278, .string t279, .string t280] 23 (0, 0)) (by (with_reducible repeat (first | refine blk_drewN ?_ _ | refine blk_drew ?_ | refine blk_alloc ?_ _)); exact BK282.out) hb)
                                            have n4_ := Aside0.mk (below_step (by repeat (first | (with_reducible first | exact HB.out | apply below_alloc | apply pw_below_drewN | apply below_drew1 | refine below_set ?_ GE264.out | refine below_set ?_ GE269.out | refine below_set ?_ GE277.out | refine below_set ?_ GE282.out) | exact HB.out)) hb)
                                            clear BK264
                                            clear BK269
                                            clear BK277
                                            clear BK282
                                            clear HB
                                            have BK264 := n0_
                                            have BK269 := n1_
                                            have BK277 := n2_
                                            have BK282 := n3_
                                            have HB := n4_
                                            clear n0_ n1_ n2_ n3_ n4_
                                            (try clear hb)
                                            (try clear hb2)
                                            (try clear hk)
                                            (try clear hi)
                                            refine hK.out _ _ ⟨(blk_cell BK269.out 0).trans rfl, (blk_cell BK269.out 1).trans rfl, (blk_cell BK269.out 2).trans rfl, (blk_cell BK282.out 0).trans rfl, (blk_cell BK282.out 1).trans rfl, (blk_cell BK282.out 2).trans rfl, (blk_cell BK277.out 0).trans rfl, (blk_cell BK277.out 1).trans rfl, (blk_cell BK277.out 2).trans rfl⟩ (fun hHeld => ?_)
                                            clear hK K
                                            refine norm_ (a' := ?_) ?_ ?_
                                            rotate_left
                                            · show Act.put _ (some 91) _ = _
                                              simp only [Act.put, List.setIfInBounds_toArray, List.set_cons_zero, List.set_cons_succ, i64_w, i32_w]
                                              rfl
                                            refine pure_ (i := 30) (N := some 97) (v := ?_) (a' := ?_) #[true, true, true, true, true, true, true, true, true, true, true, true, true, true, true, true, true, true, true, true, true, true, true, true, true, true, true, true, true, true, true, false, false, false, false, false, false, false, false, false, false, false, false, false, false, false, false, false, false, false, false, false, false, false, false, false, false, false, false, false, false, false, false, false, false, false, false] rfl rfl (any_of HT_.out (by kernel_rfl)) (fun _ _ _ h => h) (Or.inl ⟨by rfl, ?_⟩) ?_ ?_
                                            rotate_left
                                            · intro w'
                                              go_simp
                                              with_reducible rfl
                                            rotate_left
                                            · simp only [Act.put, List.setIfInBounds_toArray, List.set_cons_zero, List.set_cons_succ, i64_w, i32_w]
                                              rfl
                                            refine pure_ (i := 31) (N := some 98) (v := ?_) (a' := ?_) #[true, true, true, true, true, true, true, true, true, true, true, true, true, true, true, true, true, true, true, true, true, true, true, true, true, true, true, true, true, true, true, true, false, false, false, false, false, false, false, false, false, false, false, false, false, false, false, false, false, false, false, false, false, false, false, false, false, false, false, false, false, false, false, false, false, false, false] rfl rfl (any_of HT_.out (by kernel_rfl)) (fun _ _ _ h => h) (Or.inl ⟨by rfl, ?_⟩) ?_ ?_
                                            rotate_left
                                            · intro w'
                                              go_simp
                                              with_reducible rfl
                                            rotate_left
                                            · simp only [Act.put, List.setIfInBounds_toArray, List.set_cons_zero, List.set_cons_succ, i64_w, i32_w]
                                              rfl
                                            refine pure_ (i := 32) (N := some 99) (v := ?_) (a' := ?_) #[true, true, true, true, true, true, true, true, true, true, true, true, true, true, true, true, true, true, true, true, true, true, true, true, true, true, true, true, true, true, true, true, true, false, false, false, false, false, false, false, false, false, false, false, false, false, false, false, false, false, false, false, false, false, false, false, false, false, false, false, false, false, false, false, false, false, false] rfl rfl (any_of HT_.out (by kernel_rfl)) (fun _ _ _ h => h) (Or.inl ⟨by rfl, ?_⟩) ?_ ?_
                                            rotate_left
                                            · intro w'
                                              go_simp
                                              with_reducible rfl
                                            rotate_left
                                            · simp only [Act.put, List.setIfInBounds_toArray, List.set_cons_zero, List.set_cons_succ, i64_w, i32_w]
                                              rfl
                                            refine pure_ (i := 34) (N := some 101) (v := ?_) (a' := ?_) #[true, true, true, true, true, true, true, true, true, true, true, true, true, true, true, true, true, true, true, true, true, true, true, true, true, true, true, true, true, true, true, true, true, false, true, false, false, false, false, false, false, false, false, false, false, false, false, false, false, false, false, false, false, false, false, false, false, false, false, false, false, false, false, false, false, false, false] rfl rfl (any_of HT_.out (by kernel_rfl)) (fun _ _ _ h => h) (Or.inl ⟨by rfl, ?_⟩) ?_ ?_
                                            rotate_left
                                            · intro w'
                                              go_simp
                                              with_reducible rfl
                                            rotate_left
                                            · simp only [Act.put, List.setIfInBounds_toArray, List.set_cons_zero, List.set_cons_succ, i64_w, i32_w]
                                              rfl
                                            refine pure_ (i := 37) (N := some 104) (v := ?_) (a' := ?_) #[true, true, true, true, true, true, true, true, true, true, true, true, true, true, true, true, true, true, true, true, true, true, true, true, true, true, true, true, true, true, true, true, true, false, true, false, false, true, false, false, false, false, false, false, false, false, false, false, false, false, false, false, false, false, false, false, false, false, false, false, false, false, false, false, false, false, false] rfl rfl (any_of HT_.out (by kernel_rfl)) (fun _ _ _ h => h) (Or.inl ⟨by rfl, ?_⟩) ?_ ?_
                                            rotate_left
                                            · intro w'
                                              go_simp
                                              with_reducible rfl
                                            rotate_left
                                            · simp only [Act.put, List.setIfInBounds_toArray, List.set_cons_zero, List.set_cons_succ, i64_w, i32_w]
                                              rfl
                                            refine pure_ (i := 38) (N := some 105) (v := ?_) (a' := ?_) #[true, true, true, true, true, true, true, true, true, true, true, true, true, true, true, true, true, true, true, true, true, true, true, true, true, true, true, true, true, true, true, true, true, false, true, false, false, true, true, false, false, false, false, false, false, false, false, false, false, false, false, false, false, false, false, false, false, false, false, false, false, false, false, false, false, false, false] rfl rfl (any_of HT_.out (by kernel_rfl)) (fun _ _ _ h => h) (Or.inl ⟨by rfl, ?_⟩) ?_ ?_
                                            rotate_left
                                            · intro w'
                                              go_simp
                                              with_reducible rfl
                                            rotate_left
                                            · simp only [Act.put, List.setIfInBounds_toArray, List.set_cons_zero, List.set_cons_succ, i64_w, i32_w]
                                              rfl
                                            refine pure_ (i := 39) (N := some 106) (v := ?_) (a' := ?_) #[true, true, true, true, true, true, true, true, true, true, true, true, true, true, true, true, true, true, true, true, true, true, true, true, true, true, true, true, true, true, true, true, true, false, true, false, false, true, true, true, false, false, false, false, false, false, false, false, false, false, false, false, false, false, false, false, false, false, false, false, false, false, false, false, false, false, false] rfl rfl (any_of HT_.out (by kernel_rfl)) (fun _ _ _ h => h) (Or.inl ⟨by rfl, ?_⟩) ?_ ?_
                                            rotate_left
                                            · intro w'
                                              go_simp
                                              with_reducible rfl
                                            rotate_left
                                            · simp only [Act.put, List.setIfInBounds_toArray, List.set_cons_zero, List.set_cons_succ, i64_w, i32_w]
                                              rfl
                                            refine pure_ (i := 40) (N := some 107) (v := ?_) (a' := ?_) #[true, true, true, true, true, true, true, true, true, true, true, true, true, true, true, true, true, true, true, true, true, true, true, true, true, true, true, true, true, true, true, true, true, false, true, false, false, true, true, true, true, false, false, false, false, false, false, false, false, false, false, false, false, false, false, false, false, false, false, false, false, false, false, false, false, false, false] rfl rfl (any_of HT_.out (by kernel_rfl)) (fun _ _ _ h => h) (Or.inl ⟨by rfl, ?_⟩) ?_ ?_
                                            rotate_left
                                            · intro w'
                                              go_simp
                                              with_reducible rfl
                                            rotate_left
                                            · simp only [Act.put, List.setIfInBounds_toArray, List.set_cons_zero, List.set_cons_succ, i64_w, i32_w]
                                              rfl
                                            refine pure_ (i := 41) (N := some 108) (v := ?_) (a' := ?_) #[true, true, true, true, true, true, true, true, true, true, true, true, true, true, true, true, true, true, true, true, true, true, true, true, true, true, true, true, true, true, true, true, true, false, true, false, false, true, true, true, true, true, false, false, false, false, false, false, false, false, false, false, false, false, false, false, false, false, false, false, false, false, false, false, false, false, false] rfl rfl (any_of HT_.out (by kernel_rfl)) (fun _ _ _ h => h) (Or.inl ⟨by rfl, ?_⟩) ?_ ?_
                                            rotate_left
                                            · intro w'
                                              go_simp
                                              with_reducible rfl
                                            rotate_left
                                            · simp only [Act.put, List.setIfInBounds_toArray, List.set_cons_zero, List.set_cons_succ, i64_w, i32_w]
                                              rfl
                                            refine pure_ (i := 42) (N := some 109) (v := ?_) (a' := ?_) #[true, true, true, true, true, true, true, true, true, true, true, true, true, true, true, true, true, true, true, true, true, true, true, true, true, true, true, true, true, true, true, true, true, false, true, false, false, true, true, true, true, true, true, false, false, false, false, false, false, false, false, false, false, false, false, false, false, false, false, false, false, false, false, false, false, false, false] rfl rfl (any_of HT_.out (by kernel_rfl)) (fun _ _ _ h => h) (Or.inl ⟨by rfl, ?_⟩) ?_ ?_
                                            rotate_left
                                            · intro w'
                                              go_simp
                                              with_reducible rfl
                                            rotate_left
                                            · simp only [Act.put, List.setIfInBounds_toArray, List.set_cons_zero, List.set_cons_succ, i64_w, i32_w]
                                              rfl
                                            refine pure_ (i := 43) (N := some 110) (v := ?_) (a' := ?_) #[true, true, true, true, true, true, true, true, true, true, true, true, true, true, true, true, true, true, true, true, true, true, true, true, true, true, true, true, true, true, true, true, true, false, true, false, false, true, true, true, true, true, true, true, false, false, false, false, false, false, false, false, false, false, false, false, false, false, false, false, false, false, false, false, false, false, false] rfl rfl (any_of HT_.out (by kernel_rfl)) (fun _ _ _ h => h) (Or.inl ⟨by rfl, ?_⟩) ?_ ?_
                                            rotate_left
                                            · intro w'
                                              go_simp
                                              with_reducible rfl
                                            rotate_left
                                            · simp only [Act.put, List.setIfInBounds_toArray, List.set_cons_zero, List.set_cons_succ, i64_w, i32_w]
                                              rfl
                                            refine pure_ (i := 44) (N := some 111) (v := ?_) (a' := ?_) #[true, true, true, true, true, true, true, true, true, true, true, true, true, true, true, true, true, true, true, true, true, true, true, true, true, true, true, true, true, true, true, true, true, false, true, false, false, true, true, true, true, true, true, true, true, false, false, false, false, false, false, false, false, false, false, false, false, false, false, false, false, false, false, false, false, false, false] rfl rfl (any_of HT_.out (by kernel_rfl)) (fun _ _ _ h => h) (Or.inl ⟨by rfl, ?_⟩) ?_ ?_
                                            rotate_left
                                            · intro w'
                                              go_simp
                                              with_reducible rfl
                                            rotate_left
                                            · simp only [Act.put, List.setIfInBounds_toArray, List.set_cons_zero, List.set_cons_succ, i64_w, i32_w]
                                              rfl
                                            refine pure_ (i := 45) (N := some 112) (v := ?_) (a' := ?_) #[true, true, true, true, true, true, true, true, true, true, true, true, true, true, true, true, true, true, true, true, true, true, true, true, true, true, true, true, true, true, true, true, true, false, true, false, false, true, true, true, true, true, true, true, true, true, false, false, false, false, false, false, false, false, false, false, false, false, false, false, false, false, false, false, false, false, false] rfl rfl (any_of HT_.out (by kernel_rfl)) (fun _ _ _ h => h) (Or.inl ⟨by rfl, ?_⟩) ?_ ?_
                                            rotate_left
                                            · intro w'
                                              go_simp
                                              with_reducible rfl
                                            rotate_left
                                            · simp only [Act.put, List.setIfInBounds_toArray, List.set_cons_zero, List.set_cons_succ, i64_w, i32_w]
                                              rfl
                                            refine pure_ (i := 46) (N := some 113) (v := ?_) (a' := ?_) #[true, true, true, true, true, true, true, true, true, true, true, true, true, true, true, true, true, true, true, true, true, true, true, true, true, true, true, true, true, true, true, true, true, false, true, false, false, true, true, true, true, true, true, true, true, true, true, false, false, false, false, false, false, false, false, false, false, false, false, false, false, false, false, false, false, false, false] rfl rfl (any_of HT_.out (by kernel_rfl)) (fun _ _ _ h => h) (Or.inl ⟨by rfl, ?_⟩) ?_ ?_
                                            rotate_left
                                            · intro w'
                                              go_simp
                                              with_reducible rfl
                                            rotate_left
                                            · simp only [Act.put, List.setIfInBounds_toArray, List.set_cons_zero, List.set_cons_succ, i64_w, i32_w]
                                              rfl
                                            refine take_ (i := 33) (N := some 100) (v := ?_) (a' := ?_) #[true, true, true, true, true, true, true, true, true, true, true, true, true, true, true, true, true, true, true, true, true, true, true, true, true, true, true, true, true, true, true, true, true, true, true, false, false, true, true, true, true, true, true, true, true, true, true, false, false, false, false, false, false, false, false, false, false, false, false, false, false, false, false, false, false, false, false] rfl rfl (take_ofW HT_.out HW_.out (by kernel_rfl)) (fun _ _ _ h => h) (Or.inl ⟨by rfl, ?_⟩) hHeld ?_ ?_
                                            rotate_left
                                            · rintro w' ⟨s0, s1, s2, s3, s4, s5, s6, s7, s8⟩
                                              go_simp
                                              with_reducible rfl
                                            rotate_left
                                            · simp only [Act.put, List.setIfInBounds_toArray, List.set_cons_zero, List.set_cons_succ, i64_w, i32_w]
                                              rfl
                                            refine one_ (i := 35) (N := some 102) #[true, true, true, true, true, true, true, true, true, true, true, true, true, true, true, true, true, true, true, true, true, true, true, true, true, true, true, true, true, true, true, true, true, true, true, true, false, true, true, true, true, true, true, true, true, true, true, false, false, false, false, false, false, false, false, false, false, false, false, false, false, false, false, false, false, false, false] rfl rfl (one_of HT_.out (by kernel_rfl)) (by decide) (fun K hK => ?_)
                                            refine goes_ Try.func11 (by kernel_rfl) rfl #[.agg #[.string t273, .string t274, .string t275], .int .i64 t283] (by rfl) rfl rfl (by (try simp only [List.map_toArray, List.map_cons, List.map_nil]); first | done | rfl | (simp only [List.length_drop, List.length_take]; rfl)) ?_
                                            with_reducible refine (disk_Crash.calls t273 t274 t275 t283 t285 t286 t287 _ A31.out).mono ?_
                                            rintro e w66 ⟨rfl, hb⟩
                                            refine ⟨_, rfl, ?_⟩
                                            have n0_ := Aside0.mk (blk_below (g := gb264) (o := .cells #[.string t260, .string t261, .string t262] 23 (0, 0)) (by (with_reducible repeat (first | refine blk_drewN ?_ _ | refine blk_drew ?_ | refine blk_alloc ?_ _)); exact BK264.out) hb)
                                            have n1_ := Aside0.mk (blk_below (g := gb269) (o := .cells #[.string t265, .string t266, .string t267] 23 (0, 0)) (by (with_reducible repeat (first | refine blk_drewN ?_ _ | refine blk_drew ?_ | refine blk_alloc ?_ _)); exact BK269.out) hb)
                                            have n2_ := Aside0.mk (blk_below (g := gb277) (o := .cells #[.string t273, .string t274, .string t275] 23 (0, 0)) (by (with_reducible repeat (first | refine blk_drewN ?_ _ | refine blk_drew ?_ | refine blk_alloc ?_ _)); exact BK277.out) hb)
                                            have n3_ := Aside0.mk (blk_below (g := gb282) (o := .cells #[.string t278, .string t279, .string t280] 23 (0, 0)) (by (with_reducible repeat (first | refine blk_drewN ?_ _ | refine blk_drew ?_ | refine blk_alloc ?_ _)); exact BK282.out) hb)
                                            have n4_ := Aside0.mk (below_step (by repeat (first | (with_reducible first | exact HB.out | apply below_alloc | apply pw_below_drewN | apply below_drew1 | refine below_set ?_ GE264.out | refine below_set ?_ GE269.out | refine below_set ?_ GE277.out | refine below_set ?_ GE282.out) | exact HB.out)) hb)
                                            clear BK264
                                            clear BK269
                                            clear BK277
                                            clear BK282
                                            clear HB
                                            have BK264 := n0_
                                            have BK269 := n1_
                                            have BK277 := n2_
                                            have BK282 := n3_
                                            have HB := n4_
                                            clear n0_ n1_ n2_ n3_ n4_
                                            (try clear hb)
                                            (try clear hb2)
                                            (try clear hk)
                                            (try clear hi)
                                            refine hK.out _ _ ⟨(blk_cell BK269.out 0).trans rfl, (blk_cell BK269.out 1).trans rfl, (blk_cell BK269.out 2).trans rfl, (blk_cell BK282.out 0).trans rfl, (blk_cell BK282.out 1).trans rfl, (blk_cell BK282.out 2).trans rfl, (blk_cell BK277.out 0).trans rfl, (blk_cell BK277.out 1).trans rfl, (blk_cell BK277.out 2).trans rfl⟩ (fun hHeld => ?_)
                                            clear hK K
                                            refine norm_ (a' := ?_) ?_ ?_
                                            rotate_left
                                            · show Act.put _ (some 102) _ = _
                                              simp only [Act.put, List.setIfInBounds_toArray, List.set_cons_zero, List.set_cons_succ, i64_w, i32_w]
                                              rfl
                                            refine one_ (i := 36) (N := some 103) #[true, true, true, true, true, true, true, true, true, true, true, true, true, true, true, true, true, true, true, true, true, true, true, true, true, true, true, true, true, true, true, true, true, true, true, true, true, true, true, true, true, true, true, true, true, true, true, false, false, false, false, false, false, false, false, false, false, false, false, false, false, false, false, false, false, false, false] rfl rfl (one_of HT_.out (by kernel_rfl)) (by decide) (fun K hK => ?_)
                                            refine goes_ Try.func19 (by kernel_rfl) rfl #[.agg #[.string t285, .string t286, .string t287]] (by rfl) rfl rfl (by (try simp only [List.map_toArray, List.map_cons, List.map_nil]); first | done | rfl | (simp only [List.length_drop, List.length_take]; rfl)) ?_
                                            with_reducible refine (disk_Log.calls t285 t286 t287 t288 _ A32.out).mono ?_
                                            rintro e w67 ⟨rfl, hb⟩
                                            refine ⟨_, rfl, ?_⟩
                                            have n0_ := Aside0.mk (blk_below (g := gb264) (o := .cells #[.string t260, .string t261, .string t262] 23 (0, 0)) (by (with_reducible repeat (first | refine blk_drewN ?_ _ | refine blk_drew ?_ | refine blk_alloc ?_ _)); exact BK264.out) hb)
                                            have n1_ := Aside0.mk (blk_below (g := gb269) (o := .cells #[.string t265, .string t266, .string t267] 23 (0, 0)) (by (with_reducible repeat (first | refine blk_drewN ?_ _ | refine blk_drew ?_ | refine blk_alloc ?_ _)); exact BK269.out) hb)
                                            have n2_ := Aside0.mk (blk_below (g := gb277) (o := .cells #[.string t273, .string t274, .string t275] 23 (0, 0)) (by (with_reducible repeat (first | refine blk_drewN ?_ _ | refine blk_drew ?_ | refine blk_alloc ?_ _)); exact BK277.out) hb)
                                            have n3_ := Aside0.mk (blk_below (g := gb282) (o := .cells #[.string t278, .string t279, .string t280] 23 (0, 0)) (by (with_reducible repeat (first | refine blk_drewN ?_ _ | refine blk_drew ?_ | refine blk_alloc ?_ _)); exact BK282.out) hb)
                                            have n4_ := Aside0.mk (below_step (by repeat (first | (with_reducible first | exact HB.out | apply below_alloc | apply pw_below_drewN | apply below_drew1 | refine below_set ?_ GE264.out | refine below_set ?_ GE269.out | refine below_set ?_ GE277.out | refine below_set ?_ GE282.out) | exact HB.out)) hb)
                                            clear BK264
                                            clear BK269
                                            clear BK277
                                            clear BK282
                                            clear HB
                                            have BK264 := n0_
                                            have BK269 := n1_
                                            have BK277 := n2_
                                            have BK282 := n3_
                                            have HB := n4_
                                            clear n0_ n1_ n2_ n3_ n4_
                                            (try clear hb)
                                            (try clear hb2)
                                            (try clear hk)
                                            (try clear hi)
                                            refine hK.out _ _ ⟨(blk_cell BK269.out 0).trans rfl, (blk_cell BK269.out 1).trans rfl, (blk_cell BK269.out 2).trans rfl, (blk_cell BK282.out 0).trans rfl, (blk_cell BK282.out 1).trans rfl, (blk_cell BK282.out 2).trans rfl, (blk_cell BK277.out 0).trans rfl, (blk_cell BK277.out 1).trans rfl, (blk_cell BK277.out 2).trans rfl⟩ (fun hHeld => ?_)
                                            clear hK K
                                            refine norm_ (a' := ?_) ?_ ?_
                                            rotate_left
                                            · show Act.put _ (some 103) _ = _
                                              simp only [Act.put, List.setIfInBounds_toArray, List.set_cons_zero, List.set_cons_succ, i64_w, i32_w]
                                              rfl
                                            refine pure_ (i := 47) (N := some 114) (v := ?_) (a' := ?_) #[true, true, true, true, true, true, true, true, true, true, true, true, true, true, true, true, true, true, true, true, true, true, true, true, true, true, true, true, true, true, true, true, true, true, true, true, true, true, true, true, true, true, true, true, true, true, true, true, false, false, false, false, false, false, false, false, false, false, false, false, false, false, false, false, false, false, false] rfl rfl (any_of HT_.out (by kernel_rfl)) (fun _ _ _ h => h) (Or.inl ⟨by rfl, ?_⟩) ?_ ?_
                                            rotate_left
                                            · intro w'
                                              go_simp
                                              with_reducible rfl
                                            rotate_left
                                            · simp only [Act.put, List.setIfInBounds_toArray, List.set_cons_zero, List.set_cons_succ, i64_w, i32_w]
                                              rfl
                                            refine pure_ (i := 48) (N := some 115) (v := ?_) (a' := ?_) #[true, true, true, true, true, true, true, true, true, true, true, true, true, true, true, true, true, true, true, true, true, true, true, true, true, true, true, true, true, true, true, true, true, true, true, true, true, true, true, true, true, true, true, true, true, true, true, true, true, false, false, false, false, false, false, false, false, false, false, false, false, false, false, false, false, false, false] rfl rfl (any_of HT_.out (by kernel_rfl)) (fun _ _ _ h => h) (Or.inl ⟨by rfl, ?_⟩) ?_ ?_
                                            rotate_left
                                            · intro w'
                                              go_simp
                                              with_reducible rfl
                                            rotate_left
                                            · simp only [Act.put, List.setIfInBounds_toArray, List.set_cons_zero, List.set_cons_succ, i64_w, i32_w]
                                              rfl
                                            refine pure_ (i := 49) (N := some 116) (v := ?_) (a' := ?_) #[true, true, true, true, true, true, true, true, true, true, true, true, true, true, true, true, true, true, true, true, true, true, true, true, true, true, true, true, true, true, true, true, true, true, true, true, true, true, true, true, true, true, true, true, true, true, true, true, true, true, false, false, false, false, false, false, false, false, false, false, false, false, false, false, false, false, false] rfl rfl (any_of HT_.out (by kernel_rfl)) (fun _ _ _ h => h) (Or.inl ⟨by rfl, ?_⟩) ?_ ?_
                                            rotate_left
                                            · intro w'
                                              go_simp
                                              with_reducible rfl
                                            rotate_left
                                            · simp only [Act.put, List.setIfInBounds_toArray, List.set_cons_zero, List.set_cons_succ, i64_w, i32_w]
                                              rfl
                                            refine pure_ (i := 51) (N := some 118) (v := ?_) (a' := ?_) #[true, true, true, true, true, true, true, true, true, true, true, true, true, true, true, true, true, true, true, true, true, true, true, true, true, true, true, true, true, true, true, true, true, true, true, true, true, true, true, true, true, true, true, true, true, true, true, true, true, true, false, true, false, false, false, false, false, false, false, false, false, false, false, false, false, false, false] rfl rfl (any_of HT_.out (by kernel_rfl)) (fun _ _ _ h => h) (Or.inl ⟨by rfl, ?_⟩) ?_ ?_
                                            rotate_left
                                            · intro w'
                                              go_simp
                                              with_reducible rfl
                                            rotate_left
                                            · simp only [Act.put, List.setIfInBounds_toArray, List.set_cons_zero, List.set_cons_succ, i64_w, i32_w]
                                              rfl
                                            refine pure_ (i := 54) (N := some 121) (v := ?_) (a' := ?_) #[true, true, true, true, true, true, true, true, true, true, true, true, true, true, true, true, true, true, true, true, true, true, true, true, true, true, true, true, true, true, true, true, true, true, true, true, true, true, true, true, true, true, true, true, true, true, true, true, true, true, false, true, false, false, true, false, false, false, false, false, false, false, false, false, false, false, false] rfl rfl (any_of HT_.out (by kernel_rfl)) (fun _ _ _ h => h) (Or.inl ⟨by rfl, ?_⟩) ?_ ?_
                                            rotate_left
                                            · intro w'
                                              go_simp
                                              with_reducible rfl
                                            rotate_left
                                            · simp only [Act.put, List.setIfInBounds_toArray, List.set_cons_zero, List.set_cons_succ, i64_w, i32_w]
                                              rfl
                                            refine pure_ (i := 55) (N := some 122) (v := ?_) (a' := ?_) #[true, true, true, true, true, true, true, true, true, true, true, true, true, true, true, true, true, true, true, true, true, true, true, true, true, true, true, true, true, true, true, true, true, true, true, true, true, true, true, true, true, true, true, true, true, true, true, true, true, true, false, true, false, false, true, true, false, false, false, false, false, false, false, false, false, false, false] rfl rfl (any_of HT_.out (by kernel_rfl)) (fun _ _ _ h => h) (Or.inl ⟨by rfl, ?_⟩) ?_ ?_
                                            rotate_left
                                            · intro w'
                                              go_simp
                                              with_reducible rfl
                                            rotate_left
                                            · simp only [Act.put, List.setIfInBounds_toArray, List.set_cons_zero, List.set_cons_succ, i64_w, i32_w]
                                              rfl
                                            refine pure_ (i := 56) (N := some 123) (v := ?_) (a' := ?_) #[true, true, true, true, true, true, true, true, true, true, true, true, true, true, true, true, true, true, true, true, true, true, true, true, true, true, true, true, true, true, true, true, true, true, true, true, true, true, true, true, true, true, true, true, true, true, true, true, true, true, false, true, false, false, true, true, true, false, false, false, false, false, false, false, false, false, false] rfl rfl (any_of HT_.out (by kernel_rfl)) (fun _ _ _ h => h) (Or.inl ⟨by rfl, ?_⟩) ?_ ?_
                                            rotate_left
                                            · intro w'
                                              go_simp
                                              with_reducible rfl
                                            rotate_left
                                            · simp only [Act.put, List.setIfInBounds_toArray, List.set_cons_zero, List.set_cons_succ, i64_w, i32_w]
                                              rfl
                                            refine pure_ (i := 57) (N := some 124) (v := ?_) (a' := ?_) #[true, true, true, true, true, true, true, true, true, true, true, true, true, true, true, true, true, true, true, true, true, true, true, true, true, true, true, true, true, true, true, true, true, true, true, true, true, true, true, true, true, true, true, true, true, true, true, true, true, true, false, true, false, false, true, true, true, true, false, false, false, false, false, false, false, false, false] rfl rfl (any_of HT_.out (by kernel_rfl)) (fun _ _ _ h => h) (Or.inl ⟨by rfl, ?_⟩) ?_ ?_
                                            rotate_left
                                            · intro w'
                                              go_simp
                                              with_reducible rfl
                                            rotate_left
                                            · simp only [Act.put, List.setIfInBounds_toArray, List.set_cons_zero, List.set_cons_succ, i64_w, i32_w]
                                              rfl
                                            refine pure_ (i := 58) (N := some 125) (v := ?_) (a' := ?_) #[true, true, true, true, true, true, true, true, true, true, true, true, true, true, true, true, true, true, true, true, true, true, true, true, true, true, true, true, true, true, true, true, true, true, true, true, true, true, true, true, true, true, true, true, true, true, true, true, true, true, false, true, false, false, true, true, true, true, true, false, false, false, false, false, false, false, false] rfl rfl (any_of HT_.out (by kernel_rfl)) (fun _ _ _ h => h) (Or.inl ⟨by rfl, ?_⟩) ?_ ?_
                                            rotate_left
                                            · intro w'
                                              go_simp
                                              with_reducible rfl
                                            rotate_left
                                            · simp only [Act.put, List.setIfInBounds_toArray, List.set_cons_zero, List.set_cons_succ, i64_w, i32_w]
                                              rfl
                                            refine pure_ (i := 59) (N := some 126) (v := ?_) (a' := ?_) #[true, true, true, true, true, true, true, true, true, true, true, true, true, true, true, true, true, true, true, true, true, true, true, true, true, true, true, true, true, true, true, true, true, true, true, true, true, true, true, true, true, true, true, true, true, true, true, true, true, true, false, true, false, false, true, true, true, true, true, true, false, false, false, false, false, false, false] rfl rfl (any_of HT_.out (by kernel_rfl)) (fun _ _ _ h => h) (Or.inl ⟨by rfl, ?_⟩) ?_ ?_
                                            rotate_left
                                            · intro w'
                                              go_simp
                                              with_reducible rfl
                                            rotate_left
                                            · simp only [Act.put, List.setIfInBounds_toArray, List.set_cons_zero, List.set_cons_succ, i64_w, i32_w]
                                              rfl
                                            refine pure_ (i := 60) (N := some 127) (v := ?_) (a' := ?_) #[true, true, true, true, true, true, true, true, true, true, true, true, true, true, true, true, true, true, true, true, true, true, true, true, true, true, true, true, true, true, true, true, true, true, true, true, true, true, true, true, true, true, true, true, true, true, true, true, true, true, false, true, false, false, true, true, true, true, true, true, true, false, false, false, false, false, false] rfl rfl (any_of HT_.out (by kernel_rfl)) (fun _ _ _ h => h) (Or.inl ⟨by rfl, ?_⟩) ?_ ?_
                                            rotate_left
                                            · intro w'
                                              go_simp
                                              with_reducible rfl
                                            rotate_left
                                            · simp only [Act.put, List.setIfInBounds_toArray, List.set_cons_zero, List.set_cons_succ, i64_w, i32_w]
                                              rfl
                                            refine pure_ (i := 61) (N := some 128) (v := ?_) (a' := ?_) #[true, true, true, true, true, true, true, true, true, true, true, true, true, true, true, true, true, true, true, true, true, true, true, true, true, true, true, true, true, true, true, true, true, true, true, true, true, true, true, true, true, true, true, true, true, true, true, true, true, true, false, true, false, false, true, true, true, true, true, true, true, true, false, false, false, false, false] rfl rfl (any_of HT_.out (by kernel_rfl)) (fun _ _ _ h => h) (Or.inl ⟨by rfl, ?_⟩) ?_ ?_
                                            rotate_left
                                            · intro w'
                                              go_simp
                                              with_reducible rfl
                                            rotate_left
                                            · simp only [Act.put, List.setIfInBounds_toArray, List.set_cons_zero, List.set_cons_succ, i64_w, i32_w]
                                              rfl
                                            refine pure_ (i := 62) (N := some 129) (v := ?_) (a' := ?_) #[true, true, true, true, true, true, true, true, true, true, true, true, true, true, true, true, true, true, true, true, true, true, true, true, true, true, true, true, true, true, true, true, true, true, true, true, true, true, true, true, true, true, true, true, true, true, true, true, true, true, false, true, false, false, true, true, true, true, true, true, true, true, true, false, false, false, false] rfl rfl (any_of HT_.out (by kernel_rfl)) (fun _ _ _ h => h) (Or.inl ⟨by rfl, ?_⟩) ?_ ?_
                                            rotate_left
                                            · intro w'
                                              go_simp
                                              with_reducible rfl
                                            rotate_left
                                            · simp only [Act.put, List.setIfInBounds_toArray, List.set_cons_zero, List.set_cons_succ, i64_w, i32_w]
                                              rfl
                                            refine pure_ (i := 63) (N := some 130) (v := ?_) (a' := ?_) #[true, true, true, true, true, true, true, true, true, true, true, true, true, true, true, true, true, true, true, true, true, true, true, true, true, true, true, true, true, true, true, true, true, true, true, true, true, true, true, true, true, true, true, true, true, true, true, true, true, true, false, true, false, false, true, true, true, true, true, true, true, true, true, true, false, false, false] rfl rfl (any_of HT_.out (by kernel_rfl)) (fun _ _ _ h => h) (Or.inl ⟨by rfl, ?_⟩) ?_ ?_
                                            rotate_left
                                            · intro w'
                                              go_simp
                                              with_reducible rfl
                                            rotate_left
                                            · simp only [Act.put, List.setIfInBounds_toArray, List.set_cons_zero, List.set_cons_succ, i64_w, i32_w]
                                              rfl
                                            refine take_ (i := 50) (N := some 117) (v := ?_) (a' := ?_) #[true, true, true, true, true, true, true, true, true, true, true, true, true, true, true, true, true, true, true, true, true, true, true, true, true, true, true, true, true, true, true, true, true, true, true, true, true, true, true, true, true, true, true, true, true, true, true, true, true, true, true, true, false, false, true, true, true, true, true, true, true, true, true, true, false, false, false] rfl rfl (take_ofW HT_.out HW_.out (by kernel_rfl)) (fun _ _ _ h => h) (Or.inl ⟨by rfl, ?_⟩) hHeld ?_ ?_
                                            rotate_left
                                            · rintro w' ⟨s0, s1, s2, s3, s4, s5, s6, s7, s8⟩
                                              go_simp
                                              with_reducible rfl
                                            rotate_left
                                            · simp only [Act.put, List.setIfInBounds_toArray, List.set_cons_zero, List.set_cons_succ, i64_w, i32_w]
                                              rfl
                                            refine one_ (i := 52) (N := some 119) #[true, true, true, true, true, true, true, true, true, true, true, true, true, true, true, true, true, true, true, true, true, true, true, true, true, true, true, true, true, true, true, true, true, true, true, true, true, true, true, true, true, true, true, true, true, true, true, true, true, true, true, true, true, false, true, true, true, true, true, true, true, true, true, true, false, false, false] rfl rfl (one_of HT_.out (by kernel_rfl)) (by decide) (fun K hK => ?_)
                                            refine goes_ Try.func11 (by kernel_rfl) rfl #[.agg #[.string t265, .string t266, .string t267], .int .i64 t283] (by rfl) rfl rfl (by (try simp only [List.map_toArray, List.map_cons, List.map_nil]); first | done | rfl | (simp only [List.length_drop, List.length_take]; rfl)) ?_
                                            with_reducible refine (disk_Crash.calls t265 t266 t267 t283 t289 t290 t291 _ A38.out).mono ?_
                                            rintro e w68 ⟨rfl, hb⟩
                                            refine ⟨_, rfl, ?_⟩
                                            have n0_ := Aside0.mk (blk_below (g := gb264) (o := .cells #[.string t260, .string t261, .string t262] 23 (0, 0)) (by (with_reducible repeat (first | refine blk_drewN ?_ _ | refine blk_drew ?_ | refine blk_alloc ?_ _)); exact BK264.out) hb)
                                            have n1_ := Aside0.mk (blk_below (g := gb269) (o := .cells #[.string t265, .string t266, .string t267] 23 (0, 0)) (by (with_reducible repeat (first | refine blk_drewN ?_ _ | refine blk_drew ?_ | refine blk_alloc ?_ _)); exact BK269.out) hb)
                                            have n2_ := Aside0.mk (blk_below (g := gb277) (o := .cells #[.string t273, .string t274, .string t275] 23 (0, 0)) (by (with_reducible repeat (first | refine blk_drewN ?_ _ | refine blk_drew ?_ | refine blk_alloc ?_ _)); exact BK277.out) hb)
                                            have n3_ := Aside0.mk (blk_below (g := gb282) (o := .cells #[.string t278, .string t279, .string t280] 23 (0, 0)) (by (with_reducible repeat (first | refine blk_drewN ?_ _ | refine blk_drew ?_ | refine blk_alloc ?_ _)); exact BK282.out) hb)
                                            have n4_ := Aside0.mk (below_step (by repeat (first | (with_reducible first | exact HB.out | apply below_alloc | apply pw_below_drewN | apply below_drew1 | refine below_set ?_ GE264.out | refine below_set ?_ GE269.out | refine below_set ?_ GE277.out | refine below_set ?_ GE282.out) | exact HB.out)) hb)
                                            clear BK264
                                            clear BK269
                                            clear BK277
                                            clear BK282
                                            clear HB
                                            have BK264 := n0_
                                            have BK269 := n1_
                                            have BK277 := n2_
                                            have BK282 := n3_
                                            have HB := n4_
                                            clear n0_ n1_ n2_ n3_ n4_
                                            (try clear hb)
                                            (try clear hb2)
                                            (try clear hk)
                                            (try clear hi)
                                            refine hK.out _ _ ⟨(blk_cell BK269.out 0).trans rfl, (blk_cell BK269.out 1).trans rfl, (blk_cell BK269.out 2).trans rfl, (blk_cell BK282.out 0).trans rfl, (blk_cell BK282.out 1).trans rfl, (blk_cell BK282.out 2).trans rfl, (blk_cell BK277.out 0).trans rfl, (blk_cell BK277.out 1).trans rfl, (blk_cell BK277.out 2).trans rfl⟩ (fun hHeld => ?_)
                                            clear hK K
                                            refine norm_ (a' := ?_) ?_ ?_
                                            rotate_left
                                            · show Act.put _ (some 119) _ = _
                                              simp only [Act.put, List.setIfInBounds_toArray, List.set_cons_zero, List.set_cons_succ, i64_w, i32_w]
                                              rfl
                                            refine one_ (i := 53) (N := some 120) #[true, true, true, true, true, true, true, true, true, true, true, true, true, true, true, true, true, true, true, true, true, true, true, true, true, true, true, true, true, true, true, true, true, true, true, true, true, true, true, true, true, true, true, true, true, true, true, true, true, true, true, true, true, true, true, true, true, true, true, true, true, true, true, true, false, false, false] rfl rfl (one_of HT_.out (by kernel_rfl)) (by decide) (fun K hK => ?_)
                                            refine goes_ Try.func19 (by kernel_rfl) rfl #[.agg #[.string t289, .string t290, .string t291]] (by rfl) rfl rfl (by (try simp only [List.map_toArray, List.map_cons, List.map_nil]); first | done | rfl | (simp only [List.length_drop, List.length_take]; rfl)) ?_
                                            with_reducible refine (disk_Log.calls t289 t290 t291 t292 _ A39.out).mono ?_
                                            rintro e w69 ⟨rfl, hb⟩
                                            refine ⟨_, rfl, ?_⟩
                                            have n0_ := Aside0.mk (blk_below (g := gb264) (o := .cells #[.string t260, .string t261, .string t262] 23 (0, 0)) (by (with_reducible repeat (first | refine blk_drewN ?_ _ | refine blk_drew ?_ | refine blk_alloc ?_ _)); exact BK264.out) hb)
                                            have n1_ := Aside0.mk (blk_below (g := gb269) (o := .cells #[.string t265, .string t266, .string t267] 23 (0, 0)) (by (with_reducible repeat (first | refine blk_drewN ?_ _ | refine blk_drew ?_ | refine blk_alloc ?_ _)); exact BK269.out) hb)
                                            have n2_ := Aside0.mk (blk_below (g := gb277) (o := .cells #[.string t273, .string t274, .string t275] 23 (0, 0)) (by (with_reducible repeat (first | refine blk_drewN ?_ _ | refine blk_drew ?_ | refine blk_alloc ?_ _)); exact BK277.out) hb)
                                            have n3_ := Aside0.mk (blk_below (g := gb282) (o := .cells #[.string t278, .string t279, .string t280] 23 (0, 0)) (by (with_reducible repeat (first | refine blk_drewN ?_ _ | refine blk_drew ?_ | refine blk_alloc ?_ _)); exact BK282.out) hb)
                                            have n4_ := Aside0.mk (below_step (by repeat (first | (with_reducible first | exact HB.out | apply below_alloc | apply pw_below_drewN | apply below_drew1 | refine below_set ?_ GE264.out | refine below_set ?_ GE269.out | refine below_set ?_ GE277.out | refine below_set ?_ GE282.out) | exact HB.out)) hb)
                                            clear BK264
                                            clear BK269
                                            clear BK277
                                            clear BK282
                                            clear HB
                                            have BK264 := n0_
                                            have BK269 := n1_
                                            have BK277 := n2_
                                            have BK282 := n3_
                                            have HB := n4_
                                            clear n0_ n1_ n2_ n3_ n4_
                                            (try clear hb)
                                            (try clear hb2)
                                            (try clear hk)
                                            (try clear hi)
                                            refine hK.out _ _ ⟨(blk_cell BK269.out 0).trans rfl, (blk_cell BK269.out 1).trans rfl, (blk_cell BK269.out 2).trans rfl, (blk_cell BK282.out 0).trans rfl, (blk_cell BK282.out 1).trans rfl, (blk_cell BK282.out 2).trans rfl, (blk_cell BK277.out 0).trans rfl, (blk_cell BK277.out 1).trans rfl, (blk_cell BK277.out 2).trans rfl⟩ (fun hHeld => ?_)
                                            clear hK K
                                            refine norm_ (a' := ?_) ?_ ?_
                                            rotate_left
                                            · show Act.put _ (some 120) _ = _
                                              simp only [Act.put, List.setIfInBounds_toArray, List.set_cons_zero, List.set_cons_succ, i64_w, i32_w]
                                              rfl
                                            refine pure_ (i := 64) (N := some 131) (v := ?_) (a' := ?_) #[true, true, true, true, true, true, true, true, true, true, true, true, true, true, true, true, true, true, true, true, true, true, true, true, true, true, true, true, true, true, true, true, true, true, true, true, true, true, true, true, true, true, true, true, true, true, true, true, true, true, true, true, true, true, true, true, true, true, true, true, true, true, true, true, true, false, false] rfl rfl (any_of HT_.out (by kernel_rfl)) (fun _ _ _ h => h) (Or.inl ⟨by rfl, ?_⟩) ?_ ?_
                                            rotate_left
                                            · intro w'
                                              go_simp
                                              with_reducible rfl
                                            rotate_left
                                            · simp only [Act.put, List.setIfInBounds_toArray, List.set_cons_zero, List.set_cons_succ, i64_w, i32_w]
                                              rfl
                                            refine pure_ (i := 65) (N := some 132) (v := ?_) (a' := ?_) #[true, true, true, true, true, true, true, true, true, true, true, true, true, true, true, true, true, true, true, true, true, true, true, true, true, true, true, true, true, true, true, true, true, true, true, true, true, true, true, true, true, true, true, true, true, true, true, true, true, true, true, true, true, true, true, true, true, true, true, true, true, true, true, true, true, true, false] rfl rfl (any_of HT_.out (by kernel_rfl)) (fun _ _ _ h => h) (Or.inl ⟨by rfl, ?_⟩) ?_ ?_
                                            rotate_left
                                            · intro w'
                                              go_simp
                                              with_reducible rfl
                                            rotate_left
                                            · simp only [Act.put, List.setIfInBounds_toArray, List.set_cons_zero, List.set_cons_succ, i64_w, i32_w]
                                              rfl
                                            refine pure_ (i := 66) (N := some 8) (v := ?_) (a' := ?_) #[true, true, true, true, true, true, true, true, true, true, true, true, true, true, true, true, true, true, true, true, true, true, true, true, true, true, true, true, true, true, true, true, true, true, true, true, true, true, true, true, true, true, true, true, true, true, true, true, true, true, true, true, true, true, true, true, true, true, true, true, true, true, true, true, true, true, true] rfl rfl (any_of HT_.out (by kernel_rfl)) (fun _ _ _ h => h) (Or.inl ⟨by rfl, ?_⟩) ?_ ?_
                                            rotate_left
                                            · intro w'
                                              go_simp
                                              with_reducible rfl
                                            rotate_left
                                            · simp only [Act.put, List.setIfInBounds_toArray, List.set_cons_zero, List.set_cons_succ, i64_w, i32_w]
                                              rfl
                                            refine done_ (done_of HT_.out (by kernel_rfl)) ?_
                                            try go_wp2
                                            go_ret
                                            exact ⟨by first | exact congrArg (fun b_ => Ending.returned (Value.bool b_)) HV_.out | (have hv_ := HV_.out; simp only [Bool.and_eq_true, beq_iff_eq] at hv_; simp [hv_]; done) | (have hv_ := HV_.out; simp at hv_; simp [*]; done) | rfl | (simp [errW_none, errW_some] <;> rfl) | (simp only [← hji6, ← hji9, ← hji12, ← hji33, ← hji40]; first | rfl | (simp [errW_none, errW_some] <;> rfl)) | (simp [*, errW_none, errW_some] <;> rfl), by repeat (first | (with_reducible first | exact HB.out | apply below_alloc | apply pw_below_drewN | apply below_drew1 | refine below_set ?_ GE264.out | refine below_set ?_ GE269.out | refine below_set ?_ GE277.out | refine below_set ?_ GE282.out) | exact HB.out)⟩
                                          · rw [if_neg c42] at H
                                            exact absurd H (by simp)
                                        · rw [if_neg c41] at H
                                          exact absurd H (by simp)
                                      · rw [if_neg c37] at H
                                        have c37b0 : (t288.toList == (((a0.extract 0 ((ji6) : Int).toNat) ++ (a1.extract 0 ((ji9) : Int).toNat)) ++ ((a2.extract 0 ((ji12) : Int).toNat).extract 0 ((ji33) : Int).toNat)).toList) = false := beq_eq_false_iff_ne.mpr c37
                                        have c37b1 : (t288.toList != (((a0.extract 0 ((ji6) : Int).toNat) ++ (a1.extract 0 ((ji9) : Int).toNat)) ++ ((a2.extract 0 ((ji12) : Int).toNat).extract 0 ((ji33) : Int).toNat)).toList) = true := bne_iff_ne.mpr c37
                                        exact absurd H (by simp)
                                    · rw [if_neg c36] at H
                                      exact absurd H (by simp)
                                  · rw [if_neg c35] at H
                                    exact absurd H (by simp)
                                · rw [if_neg c34] at H
                                  exact absurd H (by simp)
                              · rw [if_neg c30] at H
                                have c30b0 : (t284.toList == (((a0.extract 0 ((ji6) : Int).toNat) ++ (a1.extract 0 ((ji9) : Int).toNat)) ++ (a2.extract 0 ((ji12) : Int).toNat)).toList) = false := beq_eq_false_iff_ne.mpr c30
                                have c30b1 : (t284.toList != (((a0.extract 0 ((ji6) : Int).toNat) ++ (a1.extract 0 ((ji9) : Int).toNat)) ++ (a2.extract 0 ((ji12) : Int).toNat)).toList) = true := bne_iff_ne.mpr c30
                                exact absurd H (by simp)
                            · rw [if_neg c29] at H
                              exact absurd H (by simp)
                          · rw [if_neg c27] at H
                            have c27b0 : (t265.toList == t278.toList && (t266.toList == t279.toList && (t267.toList == t280.toList))) = false := by simpa using c27
                            (try (have c27b1 : decide (t265.toList = t278.toList && (t266.toList == t279.toList && (t267.toList == t280.toList))) = false := by simpa using c27))
                            (try (have c27b2 : (t265.toList == t278.toList && (t266.toList == t279.toList && (t267.toList == t280.toList))) = false := by simpa using c27))
                            (try (have c27b3 : ¬ (t265.toList = t278.toList && (t266.toList == t279.toList && (t267.toList == t280.toList))) := by simpa using c27))
                            clear c27
                            exact absurd H (by simp)
                        · rw [if_neg c26] at H
                          have c26b0 : (t281 == 0) = false := beq_eq_false_iff_ne.mpr c26
                          have c26b1 : (t281 != 0) = true := bne_iff_ne.mpr c26
                          exact absurd H (by simp)
                      · rw [if_neg c25] at H
                        have c25b0 : (t276 == 0) = false := beq_eq_false_iff_ne.mpr c25
                        have c25b1 : (t276 != 0) = true := bne_iff_ne.mpr c25
                        exact absurd H (by simp)
                    · rw [if_neg c24] at H
                      have c24b0 : (t268 == 0) = false := beq_eq_false_iff_ne.mpr c24
                      have c24b1 : (t268 != 0) = true := bne_iff_ne.mpr c24
                      exact absurd H (by simp)
                  · rw [if_neg c23] at H
                    have c23b0 : (t263 == 0) = false := beq_eq_false_iff_ne.mpr c23
                    have c23b1 : (t263 != 0) = true := bne_iff_ne.mpr c23
                    exact absurd H (by simp)
                · replace c22 := Bool.eq_false_iff.mpr c22
                  subst c22
                  have H1 : (some false) = some true := by rw [if_neg (show ¬ (false = true) by decide)] at H; exact H
                  clear H
                  have H := H1
                  clear H1
                  exact absurd H (by simp)
              · rw [if_neg c19] at H
                exact absurd H (by simp)
            · rw [if_neg c14] at H
              exact absurd H (by simp)
          · rw [if_neg c13] at H
            exact absurd H (by simp)
        · rw [if_neg c11] at H
          exact absurd H (by simp)
      · rw [if_neg c10] at H
        exact absurd H (by simp)
    · rw [if_neg c8] at H
      exact absurd H (by simp)
  · rw [if_neg c7] at H
    exact absurd H (by simp)

/-- THE ONE PURE STATEMENT of careenlaw07_DiskSteps: yours. -/
def careenlaw07_DiskSteps.Pure : Prop := ∀ (a0 : ByteArray) (a1 : ByteArray) (a2 : ByteArray) (a3 : Int), a0.size ≤ 140737488351232 → a1.size ≤ 140737488351232 → a2.size ≤ 140737488351232 → (Lit.int .i64 a3).wf = true → careenlaw07_DiskSteps.f a0 a1 a2 a3 = some true
theorem careenlaw07_DiskSteps.walk (P : careenlaw07_DiskSteps.Pure) (a0 : ByteArray) (a1 : ByteArray) (a2 : ByteArray) (a3 : Int) (w : World) (w0 : a0.size ≤ 140737488351232) (w1 : a1.size ≤ 140737488351232) (w2 : a2.size ≤ 140737488351232) (w3 : (Lit.int .i64 a3).wf = true) :
    Calls Try.prog 6 #[.string a0, .string a1, .string a2, .int .i64 a3] w fun e w' => e = .returned (.bool true) ∧ Below w.heap.size w w' := by
  have h := P a0 a1 a2 a3 w0 w1 w2 w3
  refine (careenlaw07_DiskSteps.calls a0 a1 a2 a3 w h).mono ?_
  rintro e w' ⟨rfl, hd⟩
  exact ⟨rfl, hd⟩

end Go.Proofs.Ytlhkcbcfhmjamaa.PAll
