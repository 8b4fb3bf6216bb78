/- What the printed functions of the shards answer, in plain words. (The sum of a key: as in this session's text of the sums.) -/
import Derived.Test.YtpkcofmoplnahaaCrc
import Derived.Test.YtpkcofmoplnahaaBase
import Derived.Test.YtpkcofmoplnahaaPAllx1
import Derived.Test.YtpkcofmoplnahaaPAllx2
import Derived.Test.YtpkcofmoplnahaaPAllx3
namespace Go.Proofs.Ytpkcofmoplnahaa.Routes
open Go.RowKit Go.Proofs.YtpkcofmoplnahaaW.PrintWords Go.Proofs.YtpkcofmoplnahaaW.PrintLast Go.Proofs.YtpkcofmoplnahaaW.PrintMore Go.Proofs.Ytpkcofmoplnahaa.PAll Go.Proofs.Ytpkcofmoplnahaa.Base Go.Proofs.Ytpkcofmoplnahaa.Crc

theorem step_T (v : BitVec 32) : Go.bits .xor .u32 ((v.toNat : Int) / 2) ((3988292384 * (Go.bits .and .u32 (v.toNat : Int) 1)) % 4294967296) = ((T v).toNat : Int) := by
  have e1 : Go.bits .and .u32 (v.toNat : Int) 1 = ((v &&& 1#32).toNat : Int) := bits_and_u32 v 1#32
  have e2 : ((v.toNat : Int) / 2 : Int) = ((v >>> 1).toNat : Int) := by rw [BitVec.toNat_ushiftRight, Nat.shiftRight_eq_div_pow]; simp
  have e3 : (v &&& 1#32) = if v.getLsbD 0 then 1#32 else 0#32 := by
    apply BitVec.eq_of_getLsbD_eq
    intro i hi
    rcases i with _ | i
    · cases h : v.getLsbD 0 with
      | true => simpa using h
      | false => simpa using h
    · cases h : v.getLsbD 0 <;> simp
  rw [e1, e2, e3]
  unfold T
  cases h : v.getLsbD 0 with
  | true =>
    simp only [if_true]
    have : ((3988292384 * ((1#32).toNat : Int)) % 4294967296) = (way.toNat : Int) := by decide
    rw [this, bits_xor_u32]
  | false =>
    simp only [Bool.false_eq_true, if_false]
    have : ((3988292384 * ((0#32).toNat : Int)) % 4294967296) = ((0#32).toNat : Int) := by decide
    rw [this, bits_xor_u32, BitVec.xor_zero]

theorem of_l1 (s : ByteArray) (v : BitVec 32) (x7 x8 : Int) (k : Nat) : sum_Of.l1 (k + 9) s (v.toNat : Int) x7 x8 0 = sum_Of.l0 k s ((T8 v).toNat : Int) x7 (wrap64 (x8 + 1)) := by
  have st : ∀ (k : Nat) (u : BitVec 32) (j : Int), 0 ≤ j → j < 8 → sum_Of.l1 (k + 1) s (u.toNat : Int) x7 x8 j = sum_Of.l1 k s ((T u).toNat : Int) x7 x8 (j + 1) := by
    intro k u j h0 h1
    rw [sum_Of.l1, if_pos h1, step_T, wrap64_id (n := j + 1) (by omega) (by omega)]
  rw [st (k + 8) v 0 (by decide) (by decide), st (k + 7) _ _ (by decide) (by decide), st (k + 6) _ _ (by decide) (by decide), st (k + 5) _ _ (by decide) (by decide), st (k + 4) _ _ (by decide) (by decide), st (k + 3) _ _ (by decide) (by decide), st (k + 2) _ _ (by decide) (by decide), st (k + 1) _ _ (by decide) (by decide)]
  rw [sum_Of.l1, if_neg (by decide)]
  rfl

theorem of_l0 (s : ByteArray) (hs : s.size ≤ 1000000000000000) (d : Nat) : ∀ (i : Nat) (v : BitVec 32) (k : Nat), i + d = s.size → 10 * d < k →
    sum_Of.l0 k s (v.toNat : Int) (s.size : Int) (i : Int) = some ((~~~ (run v (s.toList.drop i))).toNat : Int) := by
  have hz := tl_size s
  induction d with
  | zero =>
    intro i v k hi hk
    obtain ⟨k, rfl⟩ : ∃ m, k = m + 1 := ⟨k - 1, by omega⟩
    rw [sum_Of.l0, if_neg (by omega), List.drop_eq_nil_of_le (by omega)]
    have e : (4294967295 : Int) = ((ones).toNat : Int) := by decide
    rw [e, bits_xor_u32, wrap64_id (by omega) (by have := (ones ^^^ v).isLt; omega)]
    have : ones ^^^ v = ~~~ v := by
      rw [BitVec.xor_comm]; exact BitVec.xor_allOnes
    rw [this]; rfl
  | succ d ih =>
    intro i v k hi hk
    obtain ⟨k, rfl⟩ : ∃ m, k = m + 9 + 1 := ⟨k - 10, by omega⟩
    have hlt : i < s.toList.length := by omega
    rw [sum_Of.l0, if_pos (by omega), if_pos (by omega), if_pos (by omega), bt_get s i hlt]
    have hb := (s.toList[i]'hlt).toNat_lt
    have e : (((s.toList[i]'hlt).toNat : Int) % 4294967296) = ((BitVec.ofNat 32 (s.toList[i]'hlt).toNat).toNat : Int) := by
      rw [BitVec.toNat_ofNat]; omega
    rw [e, bits_xor_u32, of_l1, wrap64_id (n := (i : Int) + 1) (by omega) (by omega)]
    have e2 : ((i : Int) + 1) = ((i + 1 : Nat) : Int) := by omega
    rw [e2, ih (i + 1) _ k (by omega) (by omega), List.drop_eq_getElem_cons hlt]
    rfl

/-- A text's sum. -/
theorem of_tells (s : ByteArray) (hs : s.size ≤ 1000000000000000) (k : Nat) (hk : 10 * s.size < k) : sum_Of.f k s = some ((sum s.toList : Nat) : Int) := by
  unfold sum_Of.f
  have e : (4294967295 : Int) = ((ones).toNat : Int) := by decide
  have h := of_l0 s hs s.size 0 ones k (by omega) hk
  rw [e]
  exact h

theorem pick_eq (c n : Int) (hc : (Lit.int .i64 c).wf = true) (hn : 0 < n) : careenlaw19_pick.f c n = some (pickN c n) := by
  obtain ⟨h0, h1⟩ := wf_i64 hc
  exact pick_tells h0 h1 hn
theorem awake_eq (k : Nat) (hk : 150 ≤ k) : careenlaw19_awake.f k = some true :=
  at_rounds (fun k => careenlaw19_awake.mono k) hk (by decide +kernel)
/-- A key's shard. -/
theorem shard_eq (s : ByteArray) (hs : s.size ≤ 3000) (n : Int) (h1 : 1 ≤ n) (h8 : n ≤ 8) (k : Nat) (hk : 40000 ≤ k) : route_Shard.f k s n = some (((sum s.toList : Nat) : Int) % n) := by
  unfold route_Shard.f
  rw [if_neg (by omega), if_neg (by omega), of_tells s (by omega) k (by omega), Option.bind_some, if_neg (by omega), Int.tmod_eq_emod_of_nonneg (Int.natCast_nonneg _)]
/-! ### What is done next -/
theorem next_j2 (k : Nat) (last : Bool) (e : Int) (b : Bool) : ∃ n, route_Next.j2 (k + 1) last e b = some n ∧ 0 ≤ n ∧ n ≤ 3 ∧ (last = true → n = 0 ∨ n = 3) := by
  rw [route_Next.j2]
  split
  · split
    · exact ⟨_, rfl, by decide, by decide, fun _ => .inr rfl⟩
    · rename_i h; exact ⟨_, rfl, by decide, by decide, fun g => absurd g h⟩
  · split
    · split
      · exact ⟨_, rfl, by decide, by decide, fun _ => .inr rfl⟩
      · rename_i h; exact ⟨_, rfl, by decide, by decide, fun g => absurd g h⟩
    · exact ⟨_, rfl, by decide, by decide, fun _ => .inr rfl⟩
theorem next_j1 (k : Nat) (last : Bool) (e : Int) (b : Bool) : ∃ n, route_Next.j1 (k + 2) last e b = some n ∧ 0 ≤ n ∧ n ≤ 3 ∧ (last = true → n = 0 ∨ n = 3) := by
  rw [route_Next.j1]
  split
  · exact ⟨_, rfl, by decide, by decide, fun _ => .inl rfl⟩
  · split
    · exact next_j2 k last e _
    · split
      · exact next_j2 k last e _
      · exact next_j2 k last e _
theorem next_j0 (k : Nat) (last : Bool) (e : Int) (b : Bool) : ∃ n, route_Next.j0 (k + 3) last e b = some n ∧ 0 ≤ n ∧ n ≤ 3 ∧ (last = true → n = 0 ∨ n = 3) ∧ (b = true → n = 0) := by
  rw [route_Next.j0]
  split
  · exact ⟨_, rfl, by decide, by decide, fun _ => .inl rfl, fun _ => rfl⟩
  · rename_i h
    have go : ∀ b2, ∃ n, route_Next.j1 (k + 2) last e b2 = some n ∧ 0 ≤ n ∧ n ≤ 3 ∧ (last = true → n = 0 ∨ n = 3) ∧ (b = true → n = 0) := fun b2 => by
      obtain ⟨n, h1, h2, h3, h4⟩ := next_j1 k last e b2
      exact ⟨n, h1, h2, h3, h4, fun g => absurd g h⟩
    split
    · exact go _
    · split
      · exact go _
      · exact go _
theorem next_tells (k : Nat) (e a : Int) : ∃ n, route_Next.f (k + 3) e a = some n ∧ 0 ≤ n ∧ n ≤ 3 ∧ (5 ≤ a → n = 0 ∨ n = 3) ∧ (e = 0 → n = 0) := by
  have go : ∀ b, (e = 0 → b = true) → ∃ n, route_Next.j0 (k + 3) (decide (a ≥ 5)) e b = some n ∧ 0 ≤ n ∧ n ≤ 3 ∧ (5 ≤ a → n = 0 ∨ n = 3) ∧ (e = 0 → n = 0) := fun b hb => by
    obtain ⟨n, h1, h2, h3, h4, h5⟩ := next_j0 k (decide (a ≥ 5)) e b
    exact ⟨n, h1, h2, h3, fun g => h4 (decide_eq_true g), fun g => h5 (hb g)⟩
  unfold route_Next.f
  split
  · rename_i h; exact go _ (fun _ => by simp [h])
  · rename_i h
    split
    · exact go _ (fun g => absurd g h)
    · split
      · exact go _ (fun g => absurd g h)
      · exact go _ (fun g => absurd g h)
end Go.Proofs.Ytpkcofmoplnahaa.Routes
