/- The Go function DiskTells, called with any disk, text and number, returns true: what is appended, synced, torn off and swapped is as the reference says. No condition. -/
import Derived.Test.YtlhkcbcfhmjamaaPAllx4
import Derived.Test.YtlhkcbcfhmjamaaDisks
namespace Go.Proofs.Ytlhkcbcfhmjamaa.Pure
open Go.RowKit Go.Proofs.Ytlhkcbcfhmjamaa.PAll Go.Proofs.YtlhkcbcfhmjamaaW.PrintWords Go.Proofs.YtlhkcbcfhmjamaaW.PrintLast Go.Proofs.Ytlhkcbcfhmjamaa.Base Go.Proofs.Ytlhkcbcfhmjamaa.Disks

theorem tells_round (k : Nat) (b c p s : ByteArray) (n0 n1 n2 : Int) (i : Int) (h0 : 0 ≤ i) (h1 : i < 3) (h : c.size + p.size ≤ 1000000) :
    careenlaw07_DiskTells.l0 (k + 1) true s [n0, n1, n2] 3 i b c p = careenlaw07_DiskTells.l0 k true s [n0, n1, n2] 3 (i + 1) b c p := by
  rw [careenlaw07_DiskTells.l0, if_pos h1, if_pos h0, if_pos (by simp; omega), crash_eq b c p _ (by omega), Option.bind_some, ref_crash_eq b c p _ (by omega), Option.bind_some, wrap64_id (n := i + 1) (by omega) (by omega)]
  simp
theorem tells_end (k : Nat) (b c p s : ByteArray) (l : List Int) (h : c.size + p.size + s.size ≤ 1000000) :
    careenlaw07_DiskTells.l0 (k + 1) true s l 3 3 b c p = some true := by
  rw [careenlaw07_DiskTells.l0, if_neg (by decide), append_eq b c p s (by omega), Option.bind_some, ref_append_eq b c p s (by omega), Option.bind_some, swap_eq, Option.bind_some, ref_swap_eq, Option.bind_some, if_pos rfl, if_pos (by simp), if_pos rfl, if_pos (by simp), if_pos rfl,
    sync_eq b c p (by omega), Option.bind_some, ref_sync_eq b c p (by omega), Option.bind_some, if_pos (by simp), log_eq b c p (by omega), Option.bind_some, ref_log_eq b c p (by omega), Option.bind_some]
  simp
theorem DiskTells : careenlaw07_DiskTells.Pure := by
  intro b c p s n _ _ _ _ hn
  refine ⟨4, ?_⟩
  unfold careenlaw07_DiskTells.f
  rw [awake_eq, Option.bind_some, small_eq, Option.bind_some, if_pos (by rw [mn_eq]; omega), if_pos (by rw [mn_eq]; omega), pick_eq n _ hn (by decide), Option.bind_some, Option.bind_some]
  have hb := (hd_size c 3000).2
  have hp := (hd_size p 3000).2
  have hs := (hd_size s 3000).2
  have e : s.extract 0 (mn (s.size : Int) 3000).toNat = hd s 3000 := rfl
  simp only [e, List.length_cons, List.length_nil]
  generalize hd c 3000 = c at *
  generalize hd p 3000 = p at *
  generalize hd s 3000 = s at *
  have hb : c.size ≤ 3000 := hb
  have hp : p.size ≤ 3000 := hp
  have hs : s.size ≤ 3000 := hs
  show careenlaw07_DiskTells.l0 4 true s [_, _, _] 3 0 _ c p = some true
  rw [tells_round 3 _ c p s _ _ _ 0 (by decide) (by decide) (by omega), tells_round 2 _ c p s _ _ _ _ (by decide) (by decide) (by omega), tells_round 1 _ c p s _ _ _ _ (by decide) (by decide) (by omega)]
  exact tells_end 0 _ c p s _ (by omega)

end Go.Proofs.Ytlhkcbcfhmjamaa.Pure
