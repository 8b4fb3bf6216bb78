/- Plain facts on texts as lists of bytes, and on numbers, which this seat's pure texts share. -/
import Derived.Test.YtmgfkpeadkfioaaWMore
import Derived.Lib.Bytes
import Derived.Lib.Split
import Derived.Laws.BitsLemmas
namespace Go.Proofs.Ytmgfkpeadkfioaa.Base
open Go.RowKit Go.Proofs.YtmgfkpeadkfioaaW.PrintWords Go.Proofs.YtmgfkpeadkfioaaW.PrintLast Go.Proofs.YtmgfkpeadkfioaaW.PrintMore

theorem tl_eq (s : ByteArray) : s.toList = s.data.toList := Go.Lib.toList_data s
theorem tl_size (s : ByteArray) : s.size = s.toList.length := by rw [tl_eq, Array.length_toList]; rfl
theorem tl_append (a b : ByteArray) : (a ++ b).toList = a.toList ++ b.toList := by
  rw [tl_eq, tl_eq, tl_eq, ByteArray.data_append]; simp
theorem tl_extract (s : ByteArray) (i j : Nat) : (s.extract i j).toList = (s.toList.take j).drop i := by
  rw [tl_eq, tl_eq, ByteArray.data_extract]; simp [List.drop_take]
theorem tl_nums (xs : List Int) : (strOfNums xs).toList = xs.map (fun n => UInt8.ofNat n.toNat) := Go.Lib.strOfNums_toList xs
theorem tl_nil : (⟨#[]⟩ : ByteArray).toList = [] := by rw [tl_eq]
theorem tl_mk (l : List UInt8) : (⟨l.toArray⟩ : ByteArray).toList = l := by rw [tl_eq]
theorem tl_inj {a b : ByteArray} (h : a.toList = b.toList) : a = b := by
  rw [tl_eq, tl_eq] at h
  cases a; cases b; simpa using h
theorem bt_get (s : ByteArray) (i : Nat) (h : i < s.toList.length) : bt s (i : Int) = ((s.toList[i]'h).toNat : Int) := by
  have h' : i < s.size := by rw [tl_size]; exact h
  unfold bt
  rw [dif_pos (by simpa using h')]
  simp only [Int.toNat_natCast, tl_eq]
  rfl
theorem bt_getD (s : ByteArray) (i : Nat) : bt s (i : Int) = ((s.toList.getD i 0).toNat : Int) := by
  by_cases h : i < s.toList.length
  · rw [bt_get s i h, List.getD_eq_getElem?_getD, List.getElem?_eq_getElem h]; rfl
  · unfold bt
    rw [dif_neg (by rw [tl_size]; simpa using h), List.getD_eq_getElem?_getD, List.getElem?_eq_none (by omega)]; rfl
theorem wrap64_id {n : Int} (h0 : -9223372036854775808 ≤ n) (h1 : n ≤ 9223372036854775807) : wrap64 n = n := by unfold wrap64; omega
theorem wf_i64 {n : Int} (h : (Lit.int .i64 n).wf = true) : -9223372036854775808 ≤ n ∧ n ≤ 9223372036854775807 := by
  have := h
  simp [Lit.wf, IntKind.min, IntKind.max, IntKind.bits, IntKind.signed] at this
  omega
theorem mn_eq (a b : Int) : mn a b = min a b := by unfold mn; omega
theorem mx_eq (a b : Int) : mx a b = max a b := by unfold mx; omega
theorem ofInt_nat {w : Nat} (v : BitVec w) : BitVec.ofInt w (v.toNat : Int) = v := by
  apply BitVec.eq_of_toNat_eq; simp
theorem bits_xor_u32 (v u : BitVec 32) : Go.bits .xor .u32 (v.toNat : Int) (u.toNat : Int) = ((v ^^^ u).toNat : Int) := by
  have e : Go.bits .xor .u32 (v.toNat : Int) (u.toNat : Int) = IntKind.u32.wrap (((BitVec.ofInt 32 (v.toNat : Int)) ^^^ (BitVec.ofInt 32 (u.toNat : Int))).toNat : Int) := rfl
  rw [e, ofInt_nat, ofInt_nat, IntKind.wrap_u32]
  have := (v ^^^ u).isLt
  omega
theorem bits_and_u32 (v u : BitVec 32) : Go.bits .and .u32 (v.toNat : Int) (u.toNat : Int) = ((v &&& u).toNat : Int) := by
  have e : Go.bits .and .u32 (v.toNat : Int) (u.toNat : Int) = IntKind.u32.wrap (((BitVec.ofInt 32 (v.toNat : Int)) &&& (BitVec.ofInt 32 (u.toNat : Int))).toNat : Int) := rfl
  rw [e, ofInt_nat, ofInt_nat, IntKind.wrap_u32]
  have := (v &&& u).isLt
  omega
/-- 'xor' of int's numbers that are none below 0 -/
theorem bits_xor_i64 (a b : Nat) (ha : a < 2 ^ 63) (hb : b < 2 ^ 63) : Go.bits .xor .i64 (a : Int) (b : Int) = ((a ^^^ b : Nat) : Int) := by
  have e : Go.bits .xor .i64 (a : Int) (b : Int) = IntKind.i64.wrap (((BitVec.ofInt 64 (a : Int)) ^^^ (BitVec.ofInt 64 (b : Int))).toNat : Int) := rfl
  have h := Nat.xor_lt_two_pow ha hb
  rw [e, IntKind.wrap_i64, BitVec.toNat_xor, BitVec.ofInt_natCast, BitVec.ofInt_natCast, BitVec.toNat_ofNat, BitVec.toNat_ofNat, Nat.mod_eq_of_lt (by omega), Nat.mod_eq_of_lt (by omega)]
  have : (2 : Nat) ^ 63 = 9223372036854775808 := by decide
  omega
theorem pick_tells {c n : Int} (hc0 : -9223372036854775808 ≤ c) (hc1 : c ≤ 9223372036854775807) (hn : 0 < n) :
    (if c < 0 then (if n = 0 then none else some (Int.tmod (wrap64 (-(wrap64 (c + 1)))) n)) else (if n = 0 then none else some (Int.tmod c n))) = some (if c < 0 then (-(c + 1)) % n else c % n) := by
  have hn0 : n ≠ 0 := by omega
  by_cases h : c < 0
  · rw [if_pos h, if_pos h, if_neg hn0, wrap64_id (n := c + 1) (by omega) (by omega), wrap64_id (by omega) (by omega), Int.tmod_eq_emod_of_nonneg (by omega)]
  · rw [if_neg h, if_neg h, if_neg hn0, Int.tmod_eq_emod_of_nonneg (by omega)]
def pickN (c n : Int) : Int := if c < 0 then (-(c + 1)) % n else c % n
theorem pickN_lt {c n : Int} (hn : 0 < n) : 0 ≤ pickN c n ∧ pickN c n < n := by
  unfold pickN
  split
  · exact ⟨Int.emod_nonneg _ (by omega), Int.emod_lt_of_pos _ hn⟩
  · exact ⟨Int.emod_nonneg _ (by omega), Int.emod_lt_of_pos _ hn⟩
end Go.Proofs.Ytmgfkpeadkfioaa.Base
