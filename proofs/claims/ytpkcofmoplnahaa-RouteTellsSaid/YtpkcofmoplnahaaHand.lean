/- What this session lays for the printed walks: the complement of a number of 32 bits. -/
import Derived.WalkKit
import Derived.Laws.Unary
namespace Go.Proofs.Ytpkcofmoplnahaa.Hand
theorem unary_xor_u32 (n : Int) : Op.unary .xor (.int .u32 n) = Op.intBits .xor .u32 4294967295 n := by
  rw [unary_xor]; rfl
end Go.Proofs.Ytpkcofmoplnahaa.Hand
