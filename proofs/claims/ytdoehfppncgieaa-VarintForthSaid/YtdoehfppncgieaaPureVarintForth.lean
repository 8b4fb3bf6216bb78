/- The Go function VarintForth, called with any text, returns true: what is taken, put again, is what stood there. No condition. -/
import Derived.Test.YtdoehfppncgieaaPAllx4
import Derived.Test.YtdoehfppncgieaaVars2
namespace Go.Proofs.Ytdoehfppncgieaa.Pure
open Go.RowKit Go.Proofs.Ytdoehfppncgieaa.PAll Go.Proofs.YtdoehfppncgieaaW.PrintWords Go.Proofs.YtdoehfppncgieaaW.PrintLast Go.Proofs.YtdoehfppncgieaaW.PrintMore Go.Proofs.Ytdoehfppncgieaa.Base Go.Proofs.Ytdoehfppncgieaa.Vari Go.Proofs.Ytdoehfppncgieaa.Vars Go.Proofs.Ytdoehfppncgieaa.HandPut


theorem VarintForth : careenlaw01_VarintForth.Pure := by
  intro s hs
  refine ⟨60, ?_⟩
  unfold careenlaw01_VarintForth.f
  rw [awake_eq 60 (by decide), Option.bind_some, take_eq s 40, Option.bind_some]
  rcases put_take (bl s) (bl_lt s) with ⟨n, k, e, hn, hk1, hk2, hd⟩ | ⟨e, hl⟩ | e
  · rw [bl_len] at hk2
    rw [e]
    dsimp only
    rw [if_pos rfl, put_ok n hn, Option.bind_some, if_pos rfl, if_pos rfl, if_pos (by omega), if_pos (by omega), if_pos (by omega)]
    have h : s.extract 0 (k : Int).toNat = num n := bl_inj (by rw [Int.toNat_natCast, bl_take, bl_num, hd])
    rw [h, beq_self_eq_true]
  · rw [bl_len] at hl
    rw [e]
    dsimp only
    rw [if_neg (by decide), if_pos rfl, if_pos rfl, if_pos rfl, if_pos rfl, if_neg (by decide), decide_eq_true (by omega)]
  · rw [e]
    dsimp only
    rw [if_neg (by decide), if_pos rfl, if_pos rfl, if_pos rfl, if_neg (by decide), if_pos rfl]
#print axioms VarintForth
end Go.Proofs.Ytdoehfppncgieaa.Pure
