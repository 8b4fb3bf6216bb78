/- What the printed functions of the disk answer, in plain words, for disks and texts of less than a million million bytes. -/
import Derived.Test.YtlhkcbcfhmjamaaBase
import Derived.Test.YtlhkcbcfhmjamaaPAllx2
import Derived.Test.YtlhkcbcfhmjamaaPAllx3
namespace Go.Proofs.Ytlhkcbcfhmjamaa.Disks
open Go.RowKit Go.Proofs.YtlhkcbcfhmjamaaW.PrintWords Go.Proofs.YtlhkcbcfhmjamaaW.PrintLast Go.Proofs.YtlhkcbcfhmjamaaW.PrintMore Go.Proofs.Ytlhkcbcfhmjamaa.PAll Go.Proofs.Ytlhkcbcfhmjamaa.Base

abbrev E : ByteArray := ⟨#[]⟩
theorem E_size : E.size = 0 := rfl
theorem whole (p : ByteArray) : p.extract 0 p.size = p := tl_inj (by rw [tl_extract, tl_size, List.take_length, List.drop_zero])
theorem app_E (p : ByteArray) : p ++ E = p := tl_inj (by rw [tl_append, tl_nil, List.append_nil])
theorem E_app (p : ByteArray) : E ++ p = p := tl_inj (by rw [tl_append, tl_nil, List.nil_append])
theorem E_cut (n : Nat) : E.extract 0 n = E := tl_inj (by rw [tl_extract, tl_nil]; simp)
theorem assoc (a b c : ByteArray) : a ++ b ++ c = a ++ (b ++ c) := tl_inj (by rw [tl_append, tl_append, tl_append, tl_append, List.append_assoc])
theorem size_app (a b : ByteArray) : (a ++ b).size = a.size + b.size := ByteArray.size_append
theorem size_cut (a : ByteArray) (n : Nat) : (a.extract 0 n).size = min n a.size := by rw [ByteArray.size_extract]; omega
/-- how many bytes of what was not synced last -/
def kept (n : Int) (p : ByteArray) : Nat := (max 0 (min n p.size)).toNat
theorem kept_le (n : Int) (p : ByteArray) : kept n p ≤ p.size := by unfold kept; omega

theorem keep_eq (b k p : ByteArray) (n : Int) (h : k.size + p.size ≤ 1000000000000) : disk_drive_keep.f b k p n = some (b, k ++ p.extract 0 (kept n p), E) := by
  unfold disk_drive_keep.f kept
  simp only [mx_eq, mn_eq]
  rw [if_pos (by omega), if_pos (by omega), if_pos (by rw [size_cut]; omega)]
theorem crash_eq (b k p : ByteArray) (n : Int) (h : k.size + p.size ≤ 1000000000000) : disk_Crash.f b k p n = some (b, k ++ p.extract 0 (kept n p), E) := keep_eq b k p n h
theorem ref_crash_eq (b k p : ByteArray) (n : Int) (h : k.size + p.size ≤ 1000000000000) : careenref07_Crash.f b k p n = some (b, k ++ p.extract 0 (kept n p), E) := by
  unfold careenref07_Crash.f kept
  simp only [mx_eq, mn_eq]
  rw [if_pos (by omega), if_pos (by omega), if_pos (by rw [size_cut]; omega)]
theorem sync_eq (b k p : ByteArray) (h : k.size + p.size ≤ 1000000000000) : disk_Sync.f b k p = some (b, k ++ p, E) := by
  have e : kept (p.size : Int) p = p.size := by unfold kept; omega
  have := keep_eq b k p (p.size : Int) h
  rw [e, whole] at this
  exact this
theorem log_eq (b k p : ByteArray) (h : k.size + p.size ≤ 1000000000000) : disk_Log.f b k p = some (k ++ p) := by
  unfold disk_Log.f disk_drive_log.f
  rw [if_pos (by omega)]; rfl
theorem ref_log_eq (b k p : ByteArray) (h : k.size + p.size ≤ 1000000000000) : careenref07_Log.f b k p = some (k ++ p) := by
  unfold careenref07_Log.f
  rw [if_pos (by omega)]
theorem ref_sync_eq (b k p : ByteArray) (h : k.size + p.size ≤ 1000000000000) : careenref07_Sync.f b k p = some (b, k ++ p, E) := by
  unfold careenref07_Sync.f
  rw [ref_log_eq b k p h]; rfl
def appendV (b k p s : ByteArray) : ByteArray × ByteArray × ByteArray × Int := if 100000 < k.size + p.size + s.size then (b, k, p, 50) else (b, k, p ++ s, 0)
theorem append_eq (b k p s : ByteArray) (h : k.size + p.size + s.size ≤ 1000000000000) : disk_Append.f b k p s = some (appendV b k p s) := by
  unfold disk_Append.f appendV
  have e : wrap64 ((wrap64 ((k.size : Int) + (p.size : Int))) + (s.size : Int)) = ((k.size + p.size + s.size : Nat) : Int) := by
    rw [wrap64_id (n := (k.size : Int) + (p.size : Int)) (by omega) (by omega), wrap64_id (by omega) (by omega)]; omega
  rw [e]
  by_cases g : 100000 < k.size + p.size + s.size
  · rw [if_pos (by omega), if_pos g]
  · rw [if_neg (by omega), if_neg g, if_pos (by omega)]
theorem ref_append_eq (b k p s : ByteArray) (h : k.size + p.size + s.size ≤ 1000000000000) : careenref07_Append.f b k p s = some (appendV b k p s) := by
  unfold careenref07_Append.f appendV
  rw [ref_log_eq b k p (by omega), Option.bind_some, size_app]
  have e : wrap64 (((k.size + p.size : Nat) : Int) + (s.size : Int)) = ((k.size + p.size + s.size : Nat) : Int) := by
    rw [wrap64_id (by omega) (by omega)]; omega
  rw [e]
  by_cases g : 100000 < k.size + p.size + s.size
  · rw [if_pos (by omega), if_pos g]
  · rw [if_neg (by omega), if_neg g, if_pos (by omega)]
theorem append_ok (b k p s : ByteArray) (h : k.size + p.size + s.size ≤ 100000) : disk_Append.f b k p s = some (b, k, p ++ s, 0) := by
  rw [append_eq b k p s (by omega)]; unfold appendV; rw [if_neg (by omega)]
theorem append_full (b k p s : ByteArray) (h : 100000 < k.size + p.size + s.size) (h2 : k.size + p.size + s.size ≤ 1000000000000) : disk_Append.f b k p s = some (b, k, p, 50) := by
  rw [append_eq b k p s h2]; unfold appendV; rw [if_pos h]
def swapV (b k p s : ByteArray) : ByteArray × ByteArray × ByteArray × Int := if (s.size : Int) > 100000 then (b, k, p, 50) else (s, E, E, 0)
theorem swap_eq (b k p s : ByteArray) : disk_Swap.f b k p s = some (swapV b k p s) := by
  unfold disk_Swap.f swapV; split <;> rfl
theorem ref_swap_eq (b k p s : ByteArray) : careenref07_Swap.f b k p s = some (swapV b k p s) := by
  unfold careenref07_Swap.f swapV; split <;> rfl
theorem swap_ok (b k p s : ByteArray) (h : s.size ≤ 100000) : disk_Swap.f b k p s = some (s, E, E, 0) := by
  rw [swap_eq]; unfold swapV; rw [if_neg (by omega)]
theorem swap_full (b k p s : ByteArray) (h : 100000 < s.size) : disk_Swap.f b k p s = some (b, k, p, 50) := by
  rw [swap_eq]; unfold swapV; rw [if_pos (by omega)]
/-- the head of a text, at most n bytes of it -/
def hd (s : ByteArray) (n : Int) : ByteArray := s.extract 0 (mn (s.size : Int) n).toNat
theorem hd_size (s : ByteArray) (n : Nat) : ((hd s (n : Int)).size : Int) = mn (s.size : Int) n ∧ (hd s (n : Int)).size ≤ n := by
  unfold hd; rw [size_cut, mn_eq]; omega
theorem small_eq (b k p : ByteArray) : careenlaw07_small.f b k p = some (hd b 3000, hd k 3000, hd p 3000) := by
  unfold careenlaw07_small.f hd
  rw [if_pos (by rw [mn_eq]; omega), if_pos (by rw [mn_eq]; omega), if_pos (by rw [mn_eq]; omega), if_pos (by rw [mn_eq]; omega), if_pos (by rw [mn_eq]; omega), if_pos (by rw [mn_eq]; omega)]
theorem pick_eq (c n : Int) (hc : (Lit.int .i64 c).wf = true) (hn : 0 < n) : careenlaw07_pick.f c n = some (pickN c n) := by
  obtain ⟨h0, h1⟩ := wf_i64 hc
  exact pick_tells h0 h1 hn
theorem awake_eq : careenlaw07_awake.f = some true := by decide +kernel
end Go.Proofs.Ytlhkcbcfhmjamaa.Disks
