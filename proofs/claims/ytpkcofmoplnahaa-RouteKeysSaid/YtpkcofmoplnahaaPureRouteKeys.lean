/- The Go function RouteKeys, called with any text and number, returns true: each key has one shard. No condition. -/
import Derived.Test.YtpkcofmoplnahaaPAllx5
import Derived.Test.YtpkcofmoplnahaaRoutes
namespace Go.Proofs.Ytpkcofmoplnahaa.Pure
open Go.RowKit Go.Proofs.Ytpkcofmoplnahaa.PAll Go.Proofs.YtpkcofmoplnahaaW.PrintWords Go.Proofs.YtpkcofmoplnahaaW.PrintLast Go.Proofs.YtpkcofmoplnahaaW.PrintMore Go.Proofs.Ytpkcofmoplnahaa.Base Go.Proofs.Ytpkcofmoplnahaa.Crc Go.Proofs.Ytpkcofmoplnahaa.Routes


theorem RouteKeys : careenlaw19_RouteKeys.Pure := by
  intro s c hs hc
  refine ⟨40000, ?_⟩
  obtain ⟨p0, p1⟩ := pickN_lt (c := c) (n := 8) (by decide)
  unfold careenlaw19_RouteKeys.f
  rw [awake_eq 40000 (by decide), Option.bind_some, if_pos (by rw [mn_eq]; omega), if_pos (by rw [mn_eq]; omega), pick_eq c 8 hc (by decide), Option.bind_some]
  have ez : (s.extract 0 (mn (s.size : Int) 3000).toNat).size ≤ 3000 := by rw [ByteArray.size_extract, mn_eq]; omega
  generalize s.extract 0 (mn (s.size : Int) 3000).toNat = t at *
  generalize pickN c 8 = p at *
  rw [wrap64_id (n := 1 + p) (by omega) (by omega), shard_eq t ez (1 + p) (by omega) (by omega) 40000 (by decide), Option.bind_some, shard_eq t ez 1 (by decide) (by decide) 40000 (by decide)]
  generalize ((sum t.toList : Nat) : Int) = v
  have h0 := Int.emod_nonneg v (show 1 + p ≠ 0 by omega)
  have h1 := Int.emod_lt_of_pos v (show 0 < 1 + p by omega)
  rw [if_pos rfl, if_pos h0, if_pos h1, Option.bind_some, if_pos rfl, Option.bind_some, Int.emod_one]
  rfl
#print axioms RouteKeys
end Go.Proofs.Ytpkcofmoplnahaa.Pure
