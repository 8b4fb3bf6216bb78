/- The plain law of the sums: a linear step that is undone, four bytes as one number. -/
namespace Go.Proofs.Ytmicfaeloanffaa.Crc
def way : BitVec 32 := 0xedb88320#32
/-- one bit of the sum's step -/
def T (v : BitVec 32) : BitVec 32 := if v.getLsbD 0 then (v >>> 1) ^^^ way else v >>> 1
/-- what stands in the upper bits moves down by one -/
def T8 (v : BitVec 32) : BitVec 32 := T (T (T (T (T (T (T (T v)))))))
/-- the step of one byte -/
def stp (v : BitVec 32) (b : UInt8) : BitVec 32 := T8 (v ^^^ BitVec.ofNat 32 b.toNat)
/-- the sum's inner number behind a text -/
def run (v : BitVec 32) (l : List UInt8) : BitVec 32 := l.foldl stp v
/-- four bytes as one number -/
def word (b0 b1 b2 b3 : UInt8) : BitVec 32 := BitVec.ofNat 32 b0.toNat ^^^ (BitVec.ofNat 32 b1.toNat <<< 8) ^^^ (BitVec.ofNat 32 b2.toNat <<< 16) ^^^ (BitVec.ofNat 32 b3.toNat <<< 24)
def byte (x i : Nat) : UInt8 := UInt8.ofNat (x / 256 ^ i)
def ones : BitVec 32 := 4294967295#32
/-- the sum of a text, as a number -/
def sum (l : List UInt8) : Nat := (~~~ (run ones l)).toNat
theorem sum_lt (l : List UInt8) : sum l < 4294967296 := (~~~ (run ones l)).isLt
def bytes4 (x : Nat) : List UInt8 := [byte x 0, byte x 1, byte x 2, byte x 3]
end Go.Proofs.Ytmicfaeloanffaa.Crc
