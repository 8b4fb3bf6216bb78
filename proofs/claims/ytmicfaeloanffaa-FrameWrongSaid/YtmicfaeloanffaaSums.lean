/- What the printed functions of the sums answer, in plain words: a text's sum is Crc.sum of its bytes, a sum's bytes are Crc.bytes. -/
import Derived.Test.YtmicfaeloanffaaCrc
import Derived.Test.YtmicfaeloanffaaBase
import Derived.Test.YtmicfaeloanffaaPAllx3
namespace Go.Proofs.Ytmicfaeloanffaa.Sums
open Go.RowKit Go.Proofs.YtmicfaeloanffaaW.PrintWords Go.Proofs.YtmicfaeloanffaaW.PrintLast Go.Proofs.YtmicfaeloanffaaW.PrintMore Go.Proofs.Ytmicfaeloanffaa.PAll Go.Proofs.Ytmicfaeloanffaa.Base Go.Proofs.Ytmicfaeloanffaa.Crc

theorem step_T (v : BitVec 32) : Go.bits .xor .u32 ((v.toNat : Int) / 2) ((3988292384 * (Go.bits .and .u32 (v.toNat : Int) 1)) % 4294967296) = ((T v).toNat : Int) := by
  have e1 : Go.bits .and .u32 (v.toNat : Int) 1 = ((v &&& 1#32).toNat : Int) := bits_and_u32 v 1#32
  have e2 : ((v.toNat : Int) / 2 : Int) = ((v >>> 1).toNat : Int) := by rw [BitVec.toNat_ushiftRight, Nat.shiftRight_eq_div_pow]; simp
  have e3 : (v &&& 1#32) = if v.getLsbD 0 then 1#32 else 0#32 := by
    apply BitVec.eq_of_getLsbD_eq
    intro i hi
    rcases i with _ | i
    · cases h : v.getLsbD 0 with
      | true => simpa using h
      | false => simpa using h
    · cases h : v.getLsbD 0 <;> simp
  rw [e1, e2, e3]
  unfold T
  cases h : v.getLsbD 0 with
  | true =>
    simp only [if_true]
    have : ((3988292384 * ((1#32).toNat : Int)) % 4294967296) = (way.toNat : Int) := by decide
    rw [this, bits_xor_u32]
  | false =>
    simp only [Bool.false_eq_true, if_false]
    have : ((3988292384 * ((0#32).toNat : Int)) % 4294967296) = ((0#32).toNat : Int) := by decide
    rw [this, bits_xor_u32, BitVec.xor_zero]

theorem of_l1 (s : ByteArray) (v : BitVec 32) (x7 x8 : Int) (k : Nat) : sum_Of.l1 (k + 9) s (v.toNat : Int) x7 x8 0 = sum_Of.l0 k s ((T8 v).toNat : Int) x7 (wrap64 (x8 + 1)) := by
  have st : ∀ (k : Nat) (u : BitVec 32) (j : Int), 0 ≤ j → j < 8 → sum_Of.l1 (k + 1) s (u.toNat : Int) x7 x8 j = sum_Of.l1 k s ((T u).toNat : Int) x7 x8 (j + 1) := by
    intro k u j h0 h1
    rw [sum_Of.l1, if_pos h1, step_T, wrap64_id (n := j + 1) (by omega) (by omega)]
  rw [st (k + 8) v 0 (by decide) (by decide), st (k + 7) _ _ (by decide) (by decide), st (k + 6) _ _ (by decide) (by decide), st (k + 5) _ _ (by decide) (by decide), st (k + 4) _ _ (by decide) (by decide), st (k + 3) _ _ (by decide) (by decide), st (k + 2) _ _ (by decide) (by decide), st (k + 1) _ _ (by decide) (by decide)]
  rw [sum_Of.l1, if_neg (by decide)]
  rfl

theorem of_l0 (s : ByteArray) (hs : s.size ≤ 1000000000000000) (d : Nat) : ∀ (i : Nat) (v : BitVec 32) (k : Nat), i + d = s.size → 10 * d < k →
    sum_Of.l0 k s (v.toNat : Int) (s.size : Int) (i : Int) = some ((~~~ (run v (s.toList.drop i))).toNat : Int) := by
  have hz := tl_size s
  induction d with
  | zero =>
    intro i v k hi hk
    obtain ⟨k, rfl⟩ : ∃ m, k = m + 1 := ⟨k - 1, by omega⟩
    rw [sum_Of.l0, if_neg (by omega), List.drop_eq_nil_of_le (by omega)]
    have e : (4294967295 : Int) = ((ones).toNat : Int) := by decide
    rw [e, bits_xor_u32, wrap64_id (by omega) (by have := (ones ^^^ v).isLt; omega)]
    have : ones ^^^ v = ~~~ v := by
      rw [BitVec.xor_comm]; exact BitVec.xor_allOnes
    rw [this]; rfl
  | succ d ih =>
    intro i v k hi hk
    obtain ⟨k, rfl⟩ : ∃ m, k = m + 9 + 1 := ⟨k - 10, by omega⟩
    have hlt : i < s.toList.length := by omega
    rw [sum_Of.l0, if_pos (by omega), if_pos (by omega), if_pos (by omega), bt_get s i hlt]
    have hb := (s.toList[i]'hlt).toNat_lt
    have e : (((s.toList[i]'hlt).toNat : Int) % 4294967296) = ((BitVec.ofNat 32 (s.toList[i]'hlt).toNat).toNat : Int) := by
      rw [BitVec.toNat_ofNat]; omega
    rw [e, bits_xor_u32, of_l1, wrap64_id (n := (i : Int) + 1) (by omega) (by omega)]
    have e2 : ((i : Int) + 1) = ((i + 1 : Nat) : Int) := by omega
    rw [e2, ih (i + 1) _ k (by omega) (by omega), List.drop_eq_getElem_cons hlt]
    rfl

/-- A text's sum. -/
theorem of_tells (s : ByteArray) (hs : s.size ≤ 1000000000000000) (k : Nat) (hk : 10 * s.size < k) : sum_Of.f k s = some ((sum s.toList : Nat) : Int) := by
  unfold sum_Of.f
  have e : (4294967295 : Int) = ((ones).toNat : Int) := by decide
  have h := of_l0 s hs s.size 0 ones k (by omega) hk
  rw [e]
  exact h

theorem byte_eq (n j : Nat) : UInt8.ofNat ((n : Int) / 2 ^ (8 * j) % 256).toNat = byte n j := by
  have : ((n : Int) / 2 ^ (8 * j) % 256).toNat = n / 256 ^ j % 256 := by
    have e : ((2 : Int) ^ (8 * j)) = ((256 ^ j : Nat) : Int) := by rw [Int.pow_mul]; simp
    rw [e]; omega
  rw [this]
  unfold byte
  apply UInt8.toNat_inj.1
  simp
/-- A sum's bytes. -/
theorem bytes_tells (n : Int) (h0 : 0 ≤ n) (h1 : n ≤ 4294967295) (k : Nat) (hk : 6 ≤ k) : ∃ b, sum_Bytes.f k n = some b ∧ b.toList = bytes4 n.toNat := by
  obtain ⟨k, rfl⟩ : ∃ m, k = m + 6 := ⟨k - 6, by omega⟩
  obtain ⟨m, rfl⟩ := Int.eq_ofNat_of_zero_le h0
  unfold sum_Bytes.f
  rw [if_neg (by omega), sum_Bytes.j0, if_neg (by simp; omega), if_pos (by decide)]
  simp only [Option.bind_some]
  have w0 : wrap64 (8 * 0) = 0 := wrap64_id (by decide) (by decide)
  have w1 : wrap64 (8 * 1) = 8 := wrap64_id (by decide) (by decide)
  have w2 : wrap64 (8 * 2) = 16 := wrap64_id (by decide) (by decide)
  have w3 : wrap64 (8 * 3) = 24 := wrap64_id (by decide) (by decide)
  have v0 : wrap64 (0 + 1) = 1 := wrap64_id (by decide) (by decide)
  have v1 : wrap64 (1 + 1) = 2 := wrap64_id (by decide) (by decide)
  have v2 : wrap64 (2 + 1) = 3 := wrap64_id (by decide) (by decide)
  have v3 : wrap64 (3 + 1) = 4 := wrap64_id (by decide) (by decide)
  have r : List.replicate 4 (0 : Int) = [0, 0, 0, 0] := rfl
  rw [r]
  simp only [List.length_cons, List.length_nil]
  rw [sum_Bytes.l0, if_pos (by decide), w0, if_pos (by decide), if_pos (by decide), if_pos (by decide), v0]
  rw [sum_Bytes.l0, if_pos (by decide), w1, if_pos (by decide), if_pos (by decide), if_pos (by simp), v1]
  rw [sum_Bytes.l0, if_pos (by decide), w2, if_pos (by decide), if_pos (by decide), if_pos (by simp), v2]
  rw [sum_Bytes.l0, if_pos (by decide), w3, if_pos (by decide), if_pos (by decide), if_pos (by simp), v3]
  rw [sum_Bytes.l0, if_neg (by decide)]
  refine ⟨_, rfl, ?_⟩
  rw [tl_nums]
  have sh : ∀ j : Nat, j < 8 → shr .i64 (m : Int) ((8 * j : Nat) : Int) % 256 = (m : Int) / 2 ^ (8 * j) % 256 := by
    intro j hj
    unfold shr
    have : min (((8 * j : Nat) : Int)).toNat IntKind.i64.bits = 8 * j := by
      have : IntKind.i64.bits = 64 := rfl
      rw [this]; simp; omega
    rw [this]
  have s0 : shr .i64 (m : Int) 0 % 256 = (m : Int) / 2 ^ (8 * 0) % 256 := sh 0 (by decide)
  have s1 : shr .i64 (m : Int) 8 % 256 = (m : Int) / 2 ^ (8 * 1) % 256 := sh 1 (by decide)
  have s2 : shr .i64 (m : Int) 16 % 256 = (m : Int) / 2 ^ (8 * 2) % 256 := sh 2 (by decide)
  have s3 : shr .i64 (m : Int) 24 % 256 = (m : Int) / 2 ^ (8 * 3) % 256 := sh 3 (by decide)
  have l4 : ∀ a b c d : Int, (((([0, 0, 0, 0] : List Int).set (Int.toNat 0) a).set (Int.toNat 1) b).set (Int.toNat 2) c).set (Int.toNat 3) d = [a, b, c, d] := fun _ _ _ _ => rfl
  rw [l4]
  simp only [List.map_cons, List.map_nil]
  show [UInt8.ofNat (shr .i64 (m : Int) 0 % 256).toNat, UInt8.ofNat (shr .i64 (m : Int) 8 % 256).toNat, UInt8.ofNat (shr .i64 (m : Int) 16 % 256).toNat, UInt8.ofNat (shr .i64 (m : Int) 24 % 256).toNat] = bytes4 m
  rw [s0, s1, s2, s3, byte_eq, byte_eq, byte_eq, byte_eq]
  rfl
theorem bytes_none (n : Int) (h : n < 0 ∨ 4294967295 < n) (k : Nat) (hk : 1 ≤ k) : sum_Bytes.f k n = some ⟨#[]⟩ := by
  obtain ⟨k, rfl⟩ : ∃ m, k = m + 1 := ⟨k - 1, by omega⟩
  unfold sum_Bytes.f
  by_cases h0 : n < 0
  · rw [if_pos h0, sum_Bytes.j0, if_pos rfl]
  · rw [if_neg h0, sum_Bytes.j0, if_pos (by simp; omega)]
end Go.Proofs.Ytmicfaeloanffaa.Sums
