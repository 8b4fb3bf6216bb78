/- What the references of the sums answer: the same. -/
import Derived.Test.YtmicfaeloanffaaSums
import Derived.Test.YtmicfaeloanffaaPAllx6
namespace Go.Proofs.Ytmicfaeloanffaa.Sums
open Go.RowKit Go.Proofs.YtmicfaeloanffaaW.PrintWords Go.Proofs.YtmicfaeloanffaaW.PrintLast Go.Proofs.YtmicfaeloanffaaW.PrintMore Go.Proofs.Ytmicfaeloanffaa.PAll Go.Proofs.Ytmicfaeloanffaa.Base Go.Proofs.Ytmicfaeloanffaa.Crc

theorem ref_step (v : BitVec 32) (s : ByteArray) (x4 : Int) (k : Nat) (j : Int) (h0 : 0 ≤ j) (h1 : j < 8) :
  careenref05_Of.l1 (k + 1) s (v.toNat : Int) x4 j = careenref05_Of.l1 k s ((T v).toNat : Int) x4 (j + 1) := by
 have hv := v.isLt
 have ht : Int.tmod (v.toNat : Int) 2 = ((v.toNat % 2 : Nat) : Int) := by rw [Int.tmod_eq_emod_of_nonneg (by omega)]; omega
 have hd : Int.tdiv (v.toNat : Int) 2 = ((v >>> 1).toNat : Int) := by
  rw [Int.tdiv_eq_ediv_of_nonneg (by omega), BitVec.toNat_ushiftRight, Nat.shiftRight_eq_div_pow]; omega
 have hs := (v >>> 1).isLt
 rw [careenref05_Of.l1, if_pos h1, ht, hd, wrap64_id (n := j + 1) (by omega) (by omega), wrap64_id (n := ((v >>> 1).toNat : Int)) (by omega) (by omega)]
 have hbit : v.getLsbD 0 = decide (v.toNat % 2 = 1) := by
  simp [BitVec.getLsbD, Nat.testBit_zero]
 unfold T
 by_cases h : v.toNat % 2 = 1
 ·have hb : v.getLsbD 0 = true := by rw [hbit]; simpa using h
  rw [if_pos (by omega), hb]
  simp only [if_true]
  have e : (3988292384 : Int) = ((way.toNat : Nat) : Int) := by decide
  rw [e, bits_xor_i64 _ _ (by omega) (by decide), ← BitVec.toNat_xor]
 ·have hb : v.getLsbD 0 = false := by rw [hbit]; simpa using h
  rw [if_neg (by omega), hb]
  simp only [Bool.false_eq_true, if_false]
theorem ref_l1 (s : ByteArray) (v : BitVec 32) (x4 : Int) (k : Nat) : careenref05_Of.l1 (k + 9) s (v.toNat : Int) x4 0 = careenref05_Of.l0 k s ((T8 v).toNat : Int) (wrap64 (x4 + 1)) := by
 rw [ref_step v s x4 (k + 8) 0 (by decide) (by decide), ref_step _ s x4 (k + 7) _ (by decide) (by decide), ref_step _ s x4 (k + 6) _ (by decide) (by decide), ref_step _ s x4 (k + 5) _ (by decide) (by decide), ref_step _ s x4 (k + 4) _ (by decide) (by decide), ref_step _ s x4 (k + 3) _ (by decide) (by decide), ref_step _ s x4 (k + 2) _ (by decide) (by decide), ref_step _ s x4 (k + 1) _ (by decide) (by decide)]
 rw [careenref05_Of.l1, if_neg (by decide)]
 rfl
theorem ref_l0 (s : ByteArray) (hs : s.size ≤ 1000000000000000) (d : Nat) : ∀ (i : Nat) (v : BitVec 32) (k : Nat), i + d = s.size → 10 * d < k →
  careenref05_Of.l0 k s (v.toNat : Int) (i : Int) = some ((~~~ (run v (s.toList.drop i))).toNat : Int) := by
 have hz := tl_size s
 induction d with
 | zero =>
  intro i v k hi hk
  obtain ⟨k, rfl⟩ : ∃ m, k = m + 1 := ⟨k - 1, by omega⟩
  have hv := v.isLt
  rw [careenref05_Of.l0, if_neg (by omega), List.drop_eq_nil_of_le (by omega), wrap64_id (by omega) (by omega)]
  show some _ = some ((~~~ v).toNat : Int)
  rw [BitVec.toNat_not]
  congr 1
  omega
 | succ d ih =>
  intro i v k hi hk
  obtain ⟨k, rfl⟩ : ∃ m, k = m + 9 + 1 := ⟨k - 10, by omega⟩
  have hlt : i < s.toList.length := by omega
  rw [careenref05_Of.l0, if_pos (by omega), if_pos (by omega), bt_get s i hlt]
  have hb := (s.toList[i]'hlt).toNat_lt
  have hv := v.isLt
  rw [wrap64_id (n := ((s.toList[i]'hlt).toNat : Int)) (by omega) (by omega), bits_xor_i64 _ _ (by omega) (by omega)]
  have e : v.toNat ^^^ (s.toList[i]'hlt).toNat = (v ^^^ BitVec.ofNat 32 (s.toList[i]'hlt).toNat).toNat := by
   rw [BitVec.toNat_xor, BitVec.toNat_ofNat, Nat.mod_eq_of_lt (by omega : (s.toList[i]'hlt).toNat < 2 ^ 32)]
  rw [e, ref_l1, wrap64_id (n := (i : Int) + 1) (by omega) (by omega)]
  have e2 : ((i : Int) + 1) = ((i + 1 : Nat) : Int) := by omega
  rw [e2, ih (i + 1) _ k (by omega) (by omega), List.drop_eq_getElem_cons hlt]
  rfl
theorem ref_of_tells (s : ByteArray) (hs : s.size ≤ 1000000000000000) (k : Nat) (hk : 10 * s.size < k) : careenref05_Of.f k s = some ((sum s.toList : Nat) : Int) := by
 unfold careenref05_Of.f
 have e : (4294967295 : Int) = ((ones).toNat : Int) := by decide
 have h := ref_l0 s hs s.size 0 ones k (by omega) hk
 rw [e]
 exact h
theorem ref_bytes_tells (n : Int) (h0 : 0 ≤ n) (h1 : n ≤ 4294967295) (k : Nat) (hk : 6 ≤ k) : ∃ b, careenref05_Bytes.f k n = some b ∧ b.toList = bytes4 n.toNat := by
 obtain ⟨k, rfl⟩ : ∃ m, k = m + 6 := ⟨k - 6, by omega⟩
 obtain ⟨m, rfl⟩ := Int.eq_ofNat_of_zero_le h0
 have st : ∀ (k : Nat) (x : Nat) (b : ByteArray) (j : Int), x ≤ 4294967295 → b.size ≤ 100 → 0 ≤ j → j < 4 →
   careenref05_Bytes.l0 (k + 1) (x : Int) b j = careenref05_Bytes.l0 k ((x / 256 : Nat) : Int) (b ++ strOfNums [((x % 256 : Nat) : Int)]) (j + 1) := by
  intro k x b j hx hb h0 h1
  have hm : Int.tmod (x : Int) 256 = ((x % 256 : Nat) : Int) := by rw [Int.tmod_eq_emod_of_nonneg (by omega)]; omega
  have hd : Int.tdiv (x : Int) 256 = ((x / 256 : Nat) : Int) := by rw [Int.tdiv_eq_ediv_of_nonneg (by omega)]; omega
  have hm2 : ((x % 256 : Nat) : Int) % 256 = ((x % 256 : Nat) : Int) := by omega
  rw [careenref05_Bytes.l0, if_pos h1, hm, hd, hm2]
  simp only [Option.bind_some]
  rw [if_pos (by rw [strOfNums_size]; simp only [List.length_cons, List.length_nil]; omega), wrap64_id (n := j + 1) (by omega) (by omega), wrap64_id (by omega) (by omega)]
 have sz : ∀ (b : ByteArray) (x : Int), (b ++ strOfNums [x]).size = b.size + 1 := by
  intro b x; rw [ByteArray.size_append, strOfNums_size]; rfl
 have z : (⟨#[]⟩ : ByteArray).size = 0 := rfl
 unfold careenref05_Bytes.f
 rw [if_neg (by omega), careenref05_Bytes.j0, if_neg (by simp; omega)]
 rw [st (k + 4) m _ 0 (by omega) (by omega) (by decide) (by decide), st (k + 3) _ _ _ (by omega) (by simp only [sz]; omega) (by decide) (by decide), st (k + 2) _ _ _ (by omega) (by simp only [sz]; omega) (by decide) (by decide), st (k + 1) _ _ _ (by omega) (by simp only [sz]; omega) (by decide) (by decide)]
 rw [careenref05_Bytes.l0, if_neg (by decide)]
 refine ⟨_, rfl, ?_⟩
 simp only [tl_append, tl_nums, tl_nil, List.nil_append, List.map_cons, List.map_nil, List.cons_append, Int.toNat_natCast]
 have e : ∀ x : Nat, UInt8.ofNat (x % 256) = UInt8.ofNat x := by intro x; apply UInt8.toNat_inj.1; simp
 simp only [e, bytes4, byte, Nat.div_div_eq_div_mul, Nat.pow_zero, Nat.div_one, Nat.reducePow, Nat.reduceMul]
end Go.Proofs.Ytmicfaeloanffaa.Sums
