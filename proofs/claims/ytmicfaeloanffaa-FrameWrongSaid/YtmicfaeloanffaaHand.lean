/- What this session lays for the printed walks: the complement of a number of 32 bits. -/
import Derived.WalkKit
import Derived.Laws.Unary
namespace Go.Proofs.Ytmicfaeloanffaa.Hand
theorem unary_xor_u32 (n : Int) : Op.unary .xor (.int .u32 n) = Op.intBits .xor .u32 4294967295 n := by
  rw [unary_xor]; rfl
theorem z1 (l : List Value) (i : Nat) (a : Value) : l.toArray.setIfInBounds i a = (l.set i a).toArray := List.setIfInBounds_toArray ..
theorem z2 (x a : Value) (l : List Value) : (x :: l).set 0 a = a :: l := rfl
theorem z3 (x a : Value) (l : List Value) (n : Nat) : (x :: l).set (n + 1) a = x :: l.set n a := rfl
end Go.Proofs.Ytmicfaeloanffaa.Hand
