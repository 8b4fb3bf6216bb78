/- The Go function DiskSteps, called with any three texts and number, returns true: what is appended piece by piece is as all at once; what was synced outlives each crash. No condition. -/
import Derived.Test.YtlhkcbcfhmjamaaPAllx7
import Derived.Test.YtlhkcbcfhmjamaaDisks
namespace Go.Proofs.Ytlhkcbcfhmjamaa.Pure
open Go.RowKit Go.Proofs.Ytlhkcbcfhmjamaa.PAll Go.Proofs.YtlhkcbcfhmjamaaW.PrintWords Go.Proofs.YtlhkcbcfhmjamaaW.PrintLast Go.Proofs.Ytlhkcbcfhmjamaa.Base Go.Proofs.Ytlhkcbcfhmjamaa.Disks

theorem DiskSteps : careenlaw07_DiskSteps.Pure := by
  intro a b c n _ _ _ hn
  unfold careenlaw07_DiskSteps.f
  obtain ⟨ma, za⟩ := hd_size a 500
  obtain ⟨mb, zb⟩ := hd_size b 500
  obtain ⟨mc, zc⟩ := hd_size c 500
  have ea : a.extract 0 (mn (a.size : Int) 500).toNat = hd a (500 : Nat) := rfl
  have eb : b.extract 0 (mn (b.size : Int) 500).toNat = hd b (500 : Nat) := rfl
  have ec : c.extract 0 (mn (c.size : Int) 500).toNat = hd c (500 : Nat) := rfl
  rw [awake_eq, Option.bind_some, if_pos (by rw [mn_eq]; omega), if_pos (by rw [mn_eq]; omega), if_pos (by rw [mn_eq]; omega), if_pos (by rw [mn_eq]; omega), if_pos (by rw [mn_eq]; omega), if_pos (by rw [mn_eq]; omega)]
  have ma' : mn (a.size : Int) 500 = ((hd a (500 : Nat)).size : Int) := ma.symm
  have mb' : mn (b.size : Int) 500 = ((hd b (500 : Nat)).size : Int) := mb.symm
  have mc' : mn (c.size : Int) 500 = ((hd c (500 : Nat)).size : Int) := mc.symm
  simp only [ea, eb, ec]
  simp only [ma', mb', mc']
  clear ea eb ec ma mb mc ma' mb' mc'
  generalize hd a (500 : Nat) = a at *
  generalize hd b (500 : Nat) = b at *
  generalize hd c (500 : Nat) = c at *
  obtain ⟨p0, p1⟩ := pickN_lt (c := n) (n := 600) (by decide)
  have zab : (a ++ b).size = a.size + b.size := size_app _ _
  have k1 : kept (pickN n 600) c = (mn (pickN n 600) (c.size : Int)).toNat := by unfold kept; rw [mn_eq]; omega
  have k2 : kept (pickN n 600) (a ++ b) = (mn (pickN n 600) ((a.size : Int) + (b.size : Int))).toNat := by unfold kept; rw [mn_eq, zab]; omega
  have zk : (c.extract 0 (mn (pickN n 600) (c.size : Int)).toNat).size ≤ 500 := by rw [size_cut]; omega
  have zk2 : ((a ++ b).extract 0 (mn (pickN n 600) ((a.size : Int) + (b.size : Int))).toNat).size ≤ 1000 := by rw [size_cut]; omega
  rw [append_ok E E E a (by simp only [E_size]; omega), Option.bind_some, E_app, append_ok E E a b (by simp only [E_size]; omega), Option.bind_some, sync_eq E E (a ++ b) (by rw [E_size]; omega), Option.bind_some, E_app,
    append_ok E (a ++ b) E c (by rw [E_size]; omega), Option.bind_some, E_app, if_pos (by omega), append_ok E E E (a ++ b) (by simp only [E_size]; omega), Option.bind_some, E_app, pick_eq n _ hn (by decide), Option.bind_some]
  simp only [if_true]
  rw [if_pos (by simp), log_eq _ _ _ (by omega), Option.bind_some, if_pos (by omega), if_pos rfl, crash_eq _ _ _ _ (by omega), Option.bind_some, k1,
    log_eq E _ E (by rw [size_app, E_size]; omega), Option.bind_some, app_E, if_pos (by rw [mn_eq]; omega), if_pos (by rw [mn_eq]; omega), if_pos (by omega), if_pos rfl, crash_eq E E (a ++ b) _ (by rw [E_size]; omega), Option.bind_some, k2, E_app]
  dsimp only
  rw [log_eq _ _ E (by rw [E_size]; omega), Option.bind_some, app_E, if_pos (by rw [mn_eq]; omega), if_pos (by rw [mn_eq]; omega)]
  simp

end Go.Proofs.Ytlhkcbcfhmjamaa.Pure
