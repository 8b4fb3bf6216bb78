/- The Go function DiskFull, called with any number and text, returns true: so many bytes as there may be are appended, and swapped, one more is not. No condition. -/
import Derived.Test.YtlhkcbcfhmjamaaPAllx6
import Derived.Test.YtlhkcbcfhmjamaaDisks
namespace Go.Proofs.Ytlhkcbcfhmjamaa.Pure
open Go.RowKit Go.Proofs.Ytlhkcbcfhmjamaa.PAll Go.Proofs.YtlhkcbcfhmjamaaW.PrintWords Go.Proofs.YtlhkcbcfhmjamaaW.PrintLast Go.Proofs.Ytlhkcbcfhmjamaa.Base Go.Proofs.Ytlhkcbcfhmjamaa.Disks

theorem full_succ (k : Nat) (x0 : Int) (x1 : ByteArray) (x5 : Bool) (x6 : ByteArray) : careenlaw07_DiskFull.l0 (k + 1) x0 x1 x5 x6 = (if (x6.size : Int) < 100002 then (if x6.size + x6.size ≤ 9223372036854775807 then (careenlaw07_DiskFull.l0 k x0 x1 x5 (x6 ++ x6)) else (none)) else ((careenlaw07_pick.f x0 3).bind fun t236 => (if 0 ≤ (mn (x1.size : Int) 100) then (if (mn (x1.size : Int) 100) ≤ (x1.size : Int) then (if 0 ≤ (mn (wrap64 (t236 + 99999)) (x6.size : Int)) then (if (mn (wrap64 (t236 + 99999)) (x6.size : Int)) ≤ (x6.size : Int) then ((disk_Append.f (⟨#[]⟩ : ByteArray) (⟨#[]⟩ : ByteArray) (⟨#[]⟩ : ByteArray) (x6.extract 0 ((mn (wrap64 (t236 + 99999)) (x6.size : Int)) : Int).toNat)).bind fun bt237 => ((disk_Swap.f (⟨#[]⟩ : ByteArray) (x1.extract 0 ((mn (x1.size : Int) 100) : Int).toNat) (⟨#[]⟩ : ByteArray) (x6.extract 0 ((mn (wrap64 (t236 + 99999)) (x6.size : Int)) : Int).toNat)).bind fun bt242 => (if (wrap64 (t236 + 99999)) > 100000 then (if x5 = true then (if bt237.2.2.2 = 50 then (if (bt237.1.toList == ([] : List UInt8) && (bt237.2.1.toList == ([] : List UInt8) && (bt237.2.2.1.toList == ([] : List UInt8)))) = true then (if bt242.2.2.2 = 50 then (some (bt242.1.toList == ([] : List UInt8) && (bt242.2.1.toList == ((x1.extract 0 ((mn (x1.size : Int) 100) : Int).toNat).toList) && (bt242.2.2.1.toList == ([] : List UInt8))))) else (some false)) else (some false)) else (some false)) else (some false)) else ((disk_Sync.f bt237.1 bt237.2.1 bt237.2.2.1).bind fun bt247 => ((disk_Append.f bt247.1 bt247.2.1 bt247.2.2 (x1.extract 0 ((mn (x1.size : Int) 100) : Int).toNat)).bind fun bt250 => (if (mn (x1.size : Int) 100) > (wrap64 (100000 - (wrap64 (t236 + 99999)))) then (if x5 = true then (if bt237.2.2.2 = 0 then (if bt242.2.2.2 = 0 then (if bt250.2.2.2 = 50 then ((disk_Sync.f bt237.1 bt237.2.1 bt237.2.2.1).bind fun bt255 => (some (bt250.1.toList == bt255.1.toList && (bt250.2.1.toList == bt255.2.1.toList && (bt250.2.2.1.toList == bt255.2.2.toList))))) else (some false)) else (some false)) else (some false)) else (some false)) else (if x5 = true then (if bt237.2.2.2 = 0 then (if bt242.2.2.2 = 0 then (if bt250.2.2.2 = 0 then ((disk_Log.f bt250.1 bt250.2.1 bt250.2.2.1).bind fun t258 => (if (t258.size : Int) = (wrap64 ((wrap64 (t236 + 99999)) + (mn (x1.size : Int) 100))) then (some ((bt242.1.size : Int) == (wrap64 (t236 + 99999)))) else (some false))) else (some false)) else (some false)) else (some false)) else (some false)))))))) else (none)) else (none)) else (none)) else (none)))) := rfl
theorem full_loop (x0 : Int) (x1 : ByteArray) (d : Nat) : ∀ (j : Nat) (x : ByteArray) (k : Nat), j + d = 13 → x.size = 16 * 2 ^ j → ∃ y, y.size = 131072 ∧ careenlaw07_DiskFull.l0 (k + d) x0 x1 true x = careenlaw07_DiskFull.l0 k x0 x1 true y := by
  induction d with
  | zero =>
    intro j x k hj hx
    obtain rfl : j = 13 := by omega
    exact ⟨x, hx, rfl⟩
  | succ d ih =>
    intro j x k hj hx
    have h2 : 2 ^ j ≤ 2 ^ 12 := Nat.pow_le_pow_right (by decide) (by omega)
    have h3 : (2 : Nat) ^ (j + 1) = 2 ^ j * 2 := Nat.pow_succ ..
    have h4 : (2 : Nat) ^ 12 = 4096 := by decide
    obtain ⟨y, hy, e⟩ := ih (j + 1) (x ++ x) k (by omega) (by rw [size_app]; omega)
    refine ⟨y, hy, ?_⟩
    rw [← Nat.add_assoc, full_succ, if_pos (by omega), if_pos (by omega)]
    exact e
theorem full_end (n : Int) (s x : ByteArray) (k : Nat) (hn : (Lit.int .i64 n).wf = true) (hx : x.size = 131072) : careenlaw07_DiskFull.l0 (k + 1) n s true x = some true := by
  obtain ⟨p0, p1⟩ := pickN_lt (c := n) (n := 3) (by decide)
  obtain ⟨ms, zs⟩ := hd_size s 100
  have es : s.extract 0 (mn (s.size : Int) 100).toNat = hd s (100 : Nat) := rfl
  have ms' : mn (s.size : Int) 100 = ((hd s (100 : Nat)).size : Int) := ms.symm
  have hs0 : 0 ≤ mn (s.size : Int) 100 := by rw [mn_eq]; omega
  have hs1 : mn (s.size : Int) 100 ≤ (s.size : Int) := by rw [mn_eq]; omega
  rw [full_succ, if_neg (by omega), pick_eq n 3 hn (by decide), Option.bind_some, if_pos hs0, if_pos hs1]
  simp only [es]
  simp only [ms']
  clear es ms ms' hs0 hs1
  generalize hd s (100 : Nat) = t at *
  generalize pickN n 3 = q at *
  have w : wrap64 (q + 99999) = q + 99999 := wrap64_id (by omega) (by omega)
  have mm : mn (q + 99999) (x.size : Int) = q + 99999 := by rw [mn_eq]; omega
  have w2 : wrap64 (100000 - (q + 99999)) = 1 - q := by rw [wrap64_id (by omega) (by omega)]; omega
  simp only [w, mm, w2]
  rw [if_pos (by omega), if_pos (by omega)]
  have za : (x.extract 0 (q + 99999).toNat).size = (q + 99999).toNat := by rw [size_cut]; omega
  generalize x.extract 0 (q + 99999).toNat = A at *
  by_cases h : q + 99999 > 100000
  · rw [append_full E E E A (by simp only [E_size]; omega) (by simp only [E_size]; omega), Option.bind_some, swap_full E t E A (by omega), Option.bind_some, if_pos h]
    simp
  · rw [append_ok E E E A (by simp only [E_size]; omega), Option.bind_some, E_app, swap_ok E t E A (by omega), Option.bind_some, if_neg h, sync_eq E E A (by rw [E_size]; omega), Option.bind_some, E_app]
    by_cases g : (t.size : Int) > 1 - q
    · rw [append_full E A E t (by rw [E_size]; omega) (by rw [E_size]; omega), Option.bind_some, if_pos g]
      simp
    · have w3 : wrap64 (q + 99999 + (t.size : Int)) = q + 99999 + (t.size : Int) := wrap64_id (by omega) (by omega)
      rw [append_ok E A E t (by rw [E_size]; omega), Option.bind_some, E_app, if_neg g]
      simp only [if_true]
      rw [log_eq _ _ _ (by omega), Option.bind_some, w3, if_pos (by rw [size_app]; omega)]
      have e : (A.size : Int) = q + 99999 := by omega
      rw [e]
      simp
theorem DiskFull : careenlaw07_DiskFull.Pure := by
  intro n s hn _
  refine ⟨14, ?_⟩
  unfold careenlaw07_DiskFull.f
  rw [awake_eq, Option.bind_some]
  obtain ⟨y, hy, e⟩ := full_loop n s 13 0 ⟨#[48, 49, 50, 51, 52, 53, 54, 55, 56, 57, 97, 98, 99, 100, 101, 102]⟩ 1 (by decide) (by decide)
  exact e.trans (full_end n s y 0 hn hy)

end Go.Proofs.Ytlhkcbcfhmjamaa.Pure
