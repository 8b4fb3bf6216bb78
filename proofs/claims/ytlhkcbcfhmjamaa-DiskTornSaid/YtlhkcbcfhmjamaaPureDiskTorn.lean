/- The Go function DiskTorn, called with any disk and numbers, returns true: behind a crash the log is a beginning of what it was and has all that was synced; a crash behind a crash, a sync or a swap changes nothing. No condition. -/
import Derived.Test.YtlhkcbcfhmjamaaPAllx5
import Derived.Test.YtlhkcbcfhmjamaaDisks
namespace Go.Proofs.Ytlhkcbcfhmjamaa.Pure
open Go.RowKit Go.Proofs.Ytlhkcbcfhmjamaa.PAll Go.Proofs.YtlhkcbcfhmjamaaW.PrintWords Go.Proofs.YtlhkcbcfhmjamaaW.PrintLast Go.Proofs.Ytlhkcbcfhmjamaa.Base Go.Proofs.Ytlhkcbcfhmjamaa.Disks

theorem DiskTorn : careenlaw07_DiskTorn.Pure := by
  intro b c p n m _ _ _ hn hm
  unfold careenlaw07_DiskTorn.f
  have hb := (hd_size b 3000).2
  have hc := (hd_size c 3000).2
  have hp := (hd_size p 3000).2
  rw [awake_eq, Option.bind_some, small_eq, Option.bind_some]
  generalize hd b 3000 = b at *
  generalize hd c 3000 = c at *
  generalize hd p 3000 = p at *
  have hb : b.size ≤ 3000 := hb
  have hc : c.size ≤ 3000 := hc
  have hp : p.size ≤ 3000 := hp
  have hk := kept_le n p
  have zx : (c ++ p.extract 0 (kept n p)).size = c.size + kept n p := by rw [size_app, size_cut]; omega
  have zl : (c ++ p).size = c.size + p.size := size_app _ _
  have k0 : ∀ m, E.extract 0 (kept m E) = E := fun m => E_cut _
  have cut : (c ++ p).extract 0 (c ++ p.extract 0 (kept n p)).size = c ++ p.extract 0 (kept n p) := by
    apply tl_inj
    rw [tl_extract, zx, tl_append, tl_append, tl_extract, List.drop_zero, List.drop_zero, tl_size, List.take_length_add_append]
  rw [crash_eq b c p n (by omega), Option.bind_some, log_eq b c p (by omega), Option.bind_some, log_eq _ _ _ (by rw [zx, E_size]; omega), Option.bind_some, swap_ok _ _ _ _ (by omega), Option.bind_some, app_E, if_pos rfl]
  dsimp only
  rw [if_pos (by omega), if_pos (by omega), if_pos (by omega), if_pos (by rw [cut]), if_pos rfl,
    crash_eq _ _ E m (by rw [zx, E_size]; omega), Option.bind_some, k0, app_E, if_pos (by simp), sync_eq b c p (by omega), Option.bind_some, crash_eq _ _ E m (by rw [zl, E_size]; omega), Option.bind_some, k0, app_E, Option.bind_some, if_pos (by simp),
    Option.bind_some, log_eq _ _ E (by rw [zl, E_size]; omega), Option.bind_some, app_E, if_pos rfl, sync_eq _ _ E (by rw [zx, E_size]; omega), Option.bind_some, app_E, if_pos (by simp), if_pos rfl, crash_eq _ E E m (by decide), Option.bind_some, k0, app_E, if_pos (by simp),
    log_eq _ E E (by decide), Option.bind_some, app_E, if_pos tl_nil]
  simp

end Go.Proofs.Ytlhkcbcfhmjamaa.Pure
