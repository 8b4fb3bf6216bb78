/- What the printed functions of the shards, the ways and of what is done next answer, and the document's own: the same. (The reference's sum: as in this session's text of the sums.) -/
import Derived.Test.YtpkcofmoplnahaaLearns
import Derived.Test.YtpkcofmoplnahaaPAllx5
namespace Go.Proofs.Ytpkcofmoplnahaa.Tells
open Go.RowKit Go.Proofs.YtpkcofmoplnahaaW.PrintWords Go.Proofs.YtpkcofmoplnahaaW.PrintLast Go.Proofs.YtpkcofmoplnahaaW.PrintMore Go.Proofs.Ytpkcofmoplnahaa.PAll Go.Proofs.Ytpkcofmoplnahaa.Base Go.Proofs.Ytpkcofmoplnahaa.Crc Go.Proofs.Ytpkcofmoplnahaa.Routes Go.Proofs.Ytpkcofmoplnahaa.Learns
theorem ref_step (v : BitVec 32) (s : ByteArray) (x4 : Int) (k : Nat) (j : Int) (h0 : 0 ≤ j) (h1 : j < 8) :
    careenref05_Of.l1 (k + 1) s (v.toNat : Int) x4 j = careenref05_Of.l1 k s ((T v).toNat : Int) x4 (j + 1) := by
  have hv := v.isLt
  have ht : Int.tmod (v.toNat : Int) 2 = ((v.toNat % 2 : Nat) : Int) := by rw [Int.tmod_eq_emod_of_nonneg (by omega)]; omega
  have hd : Int.tdiv (v.toNat : Int) 2 = ((v >>> 1).toNat : Int) := by
    rw [Int.tdiv_eq_ediv_of_nonneg (by omega), BitVec.toNat_ushiftRight, Nat.shiftRight_eq_div_pow]; omega
  have hs := (v >>> 1).isLt
  rw [careenref05_Of.l1, if_pos h1, ht, hd, wrap64_id (n := j + 1) (by omega) (by omega), wrap64_id (n := ((v >>> 1).toNat : Int)) (by omega) (by omega)]
  have hbit : v.getLsbD 0 = decide (v.toNat % 2 = 1) := by
    simp [BitVec.getLsbD, Nat.testBit_zero]
  unfold T
  by_cases h : v.toNat % 2 = 1
  · have hb : v.getLsbD 0 = true := by rw [hbit]; simpa using h
    rw [if_pos (by omega), hb]
    simp only [if_true]
    have e : (3988292384 : Int) = ((way.toNat : Nat) : Int) := by decide
    rw [e, bits_xor_i64 _ _ (by omega) (by decide), ← BitVec.toNat_xor]
  · have hb : v.getLsbD 0 = false := by rw [hbit]; simpa using h
    rw [if_neg (by omega), hb]
    simp only [Bool.false_eq_true, if_false]
theorem ref_l1 (s : ByteArray) (v : BitVec 32) (x4 : Int) (k : Nat) : careenref05_Of.l1 (k + 9) s (v.toNat : Int) x4 0 = careenref05_Of.l0 k s ((T8 v).toNat : Int) (wrap64 (x4 + 1)) := by
  rw [ref_step v s x4 (k + 8) 0 (by decide) (by decide), ref_step _ s x4 (k + 7) _ (by decide) (by decide), ref_step _ s x4 (k + 6) _ (by decide) (by decide), ref_step _ s x4 (k + 5) _ (by decide) (by decide), ref_step _ s x4 (k + 4) _ (by decide) (by decide), ref_step _ s x4 (k + 3) _ (by decide) (by decide), ref_step _ s x4 (k + 2) _ (by decide) (by decide), ref_step _ s x4 (k + 1) _ (by decide) (by decide)]
  rw [careenref05_Of.l1, if_neg (by decide)]
  rfl
theorem ref_l0 (s : ByteArray) (hs : s.size ≤ 1000000000000000) (d : Nat) : ∀ (i : Nat) (v : BitVec 32) (k : Nat), i + d = s.size → 10 * d < k →
    careenref05_Of.l0 k s (v.toNat : Int) (i : Int) = some ((~~~ (run v (s.toList.drop i))).toNat : Int) := by
  have hz := tl_size s
  induction d with
  | zero =>
    intro i v k hi hk
    obtain ⟨k, rfl⟩ : ∃ m, k = m + 1 := ⟨k - 1, by omega⟩
    have hv := v.isLt
    rw [careenref05_Of.l0, if_neg (by omega), List.drop_eq_nil_of_le (by omega), wrap64_id (by omega) (by omega)]
    show some _ = some ((~~~ v).toNat : Int)
    rw [BitVec.toNat_not]
    congr 1
    omega
  | succ d ih =>
    intro i v k hi hk
    obtain ⟨k, rfl⟩ : ∃ m, k = m + 9 + 1 := ⟨k - 10, by omega⟩
    have hlt : i < s.toList.length := by omega
    rw [careenref05_Of.l0, if_pos (by omega), if_pos (by omega), bt_get s i hlt]
    have hb := (s.toList[i]'hlt).toNat_lt
    have hv := v.isLt
    rw [wrap64_id (n := ((s.toList[i]'hlt).toNat : Int)) (by omega) (by omega), bits_xor_i64 _ _ (by omega) (by omega)]
    have e : v.toNat ^^^ (s.toList[i]'hlt).toNat = (v ^^^ BitVec.ofNat 32 (s.toList[i]'hlt).toNat).toNat := by
      rw [BitVec.toNat_xor, BitVec.toNat_ofNat, Nat.mod_eq_of_lt (by omega : (s.toList[i]'hlt).toNat < 2 ^ 32)]
    rw [e, ref_l1, wrap64_id (n := (i : Int) + 1) (by omega) (by omega)]
    have e2 : ((i : Int) + 1) = ((i + 1 : Nat) : Int) := by omega
    rw [e2, ih (i + 1) _ k (by omega) (by omega), List.drop_eq_getElem_cons hlt]
    rfl
theorem ref_of_tells (s : ByteArray) (hs : s.size ≤ 1000000000000000) (k : Nat) (hk : 10 * s.size < k) : careenref05_Of.f k s = some ((sum s.toList : Nat) : Int) := by
  unfold careenref05_Of.f
  have e : (4294967295 : Int) = ((ones).toNat : Int) := by decide
  have h := ref_l0 s hs s.size 0 ones k (by omega) hk
  rw [e]
  exact h
theorem shard_both (s : ByteArray) (hs : s.size ≤ 3000) (n : Int) (k : Nat) (hk : 40000 ≤ k) : ∃ r, route_Shard.f k s n = some r ∧ careenref19_Shard.f k s n = some r := by
  unfold route_Shard.f careenref19_Shard.f
  by_cases h1 : n < 1
  · exact ⟨0, by rw [if_pos h1], by rw [if_pos h1]⟩
  by_cases h8 : n > 8
  · exact ⟨0, by rw [if_neg h1, if_pos h8], by rw [if_neg h1, if_pos h8]⟩
  refine ⟨Int.tmod ((sum s.toList : Nat) : Int) n, ?_, ?_⟩
  · rw [if_neg h1, if_neg h8, of_tells s (by omega) k (by omega), Option.bind_some, if_neg (by omega)]
  · rw [if_neg h1, if_neg h8, ref_of_tells s (by omega) k (by omega), Option.bind_some, if_neg (by omega)]
/-- What is done next. -/
def nextV (e a : Int) : Int := if e = 0 ∨ e = 1 ∨ e = 22 ∨ e = 50 ∨ e = 70 ∨ e = 71 ∨ e = 81 then 0 else if a ≥ 5 then 3 else if e = 80 ∨ e = 83 ∨ e = 90 then 2 else if e = 82 then 1 else 3
theorem next_eq (k : Nat) (e a : Int) : route_Next.f (k + 3) e a = some (nextV e a) := by
  unfold route_Next.f nextV
  by_cases h0 : e = 0
  · subst h0; simp [route_Next.j0]
  by_cases h1 : e = 1
  · subst h1; simp [route_Next.j0]
  by_cases h2 : e = 22
  · subst h2; simp [route_Next.j0]
  by_cases h3 : e = 50
  · subst h3; simp [route_Next.j0]
  by_cases h4 : e = 70
  · subst h4; simp [route_Next.j0, route_Next.j1]
  by_cases h5 : e = 71
  · subst h5; simp [route_Next.j0, route_Next.j1]
  by_cases h6 : e = 81
  · subst h6; simp [route_Next.j0, route_Next.j1]
  by_cases h7 : e = 80
  · subst h7; simp [route_Next.j0, route_Next.j1, route_Next.j2]; split <;> rfl
  by_cases h8 : e = 83
  · subst h8; simp [route_Next.j0, route_Next.j1, route_Next.j2]; split <;> rfl
  by_cases h9 : e = 90
  · subst h9; simp [route_Next.j0, route_Next.j1, route_Next.j2]; split <;> rfl
  by_cases h10 : e = 82
  · subst h10; simp [route_Next.j0, route_Next.j1, route_Next.j2]; split <;> rfl
  simp [route_Next.j0, route_Next.j1, route_Next.j2, h0, h1, h2, h3, h4, h5, h6, h7, h8, h9, h10]
theorem ref_next_eq (k : Nat) (e a : Int) : careenref19_Next.f (k + 9) e a = some (nextV e a) := by
  have r0 : rd ([0, 1, 22, 50, 70, 71, 81] : List Int) 0 = 0 := rfl
  have r1 : rd ([0, 1, 22, 50, 70, 71, 81] : List Int) 1 = 1 := rfl
  have r2 : rd ([0, 1, 22, 50, 70, 71, 81] : List Int) 2 = 22 := rfl
  have r3 : rd ([0, 1, 22, 50, 70, 71, 81] : List Int) 3 = 50 := rfl
  have r4 : rd ([0, 1, 22, 50, 70, 71, 81] : List Int) 4 = 70 := rfl
  have r5 : rd ([0, 1, 22, 50, 70, 71, 81] : List Int) 5 = 71 := rfl
  have r6 : rd ([0, 1, 22, 50, 70, 71, 81] : List Int) 6 = 81 := rfl
  have st : ∀ (K : Nat) (i : Int), 0 ≤ i → i < 7 → careenref19_Next.l0 (K + 1) e a ([0, 1, 22, 50, 70, 71, 81] : List Int) i = if rd ([0, 1, 22, 50, 70, 71, 81] : List Int) i = e then some 0 else careenref19_Next.l0 K e a ([0, 1, 22, 50, 70, 71, 81] : List Int) (i + 1) := by
    intro K i h0 h7
    rw [careenref19_Next.l0, if_pos (show i < (([0, 1, 22, 50, 70, 71, 81] : List Int).length : Int) from h7), if_pos h0, wrap64_id (n := i + 1) (by omega) (by omega)]
  have fin : careenref19_Next.l0 (k + 2) e a ([0, 1, 22, 50, 70, 71, 81] : List Int) 7 = if a ≥ 5 then some 3 else if e = 80 ∨ e = 83 ∨ e = 90 then some 2 else if e = 82 then some 1 else some 3 := by
    rw [careenref19_Next.l0, if_neg (by decide)]
    by_cases ha : a ≥ 5
    · rw [if_pos ha, if_pos ha]
    rw [if_neg ha, if_neg ha]
    by_cases h7 : e = 80
    · subst h7; simp [careenref19_Next.j1]
    by_cases h8 : e = 83
    · subst h8; simp [careenref19_Next.j1]
    by_cases h9 : e = 90
    · subst h9; simp [careenref19_Next.j1]
    simp [careenref19_Next.j1, h7, h8, h9]
  unfold careenref19_Next.f nextV
  rw [st (k + 8) 0 (by decide) (by decide), st (k + 7) _ (by decide) (by decide), st (k + 6) _ (by decide) (by decide), st (k + 5) _ (by decide) (by decide), st (k + 4) _ (by decide) (by decide), st (k + 3) _ (by decide) (by decide), st (k + 2) _ (by decide) (by decide)]
  simp only [show (0 : Int) + 1 = 1 from rfl, show (1 : Int) + 1 = 2 from rfl, show (2 : Int) + 1 = 3 from rfl, show (3 : Int) + 1 = 4 from rfl, show (4 : Int) + 1 = 5 from rfl, show (5 : Int) + 1 = 6 from rfl, show (6 : Int) + 1 = 7 from rfl, r0, r1, r2, r3, r4, r5, r6, fin]
  by_cases h0 : e = 0
  · subst h0; simp
  by_cases h1 : e = 1
  · subst h1; simp
  by_cases h2 : e = 22
  · subst h2; simp
  by_cases h3 : e = 50
  · subst h3; simp
  by_cases h4 : e = 70
  · subst h4; simp
  by_cases h5 : e = 71
  · subst h5; simp
  by_cases h6 : e = 81
  · subst h6; simp
  have hn : ¬ (e = 0 ∨ e = 1 ∨ e = 22 ∨ e = 50 ∨ e = 70 ∨ e = 71 ∨ e = 81) := by omega
  rw [if_neg (fun h => h0 h.symm), if_neg (fun h => h1 h.symm), if_neg (fun h => h2 h.symm), if_neg (fun h => h3 h.symm), if_neg (fun h => h4 h.symm), if_neg (fun h => h5 h.symm), if_neg (fun h => h6 h.symm), if_neg hn]
  by_cases ha : a ≥ 5
  · rw [if_pos ha, if_pos ha]
  rw [if_neg ha, if_neg ha]
  by_cases hb : e = 80 ∨ e = 83 ∨ e = 90
  · rw [if_pos hb, if_pos hb]
  rw [if_neg hb, if_neg hb]
  by_cases hc : e = 82
  · rw [if_pos hc, if_pos hc]
  rw [if_neg hc, if_neg hc]
theorem look_both (l : List S32) (s : Int) : ∃ a b c, route_Look.f l s = some (a, b, c) ∧ careenref19_Look.f l s = some (a, b, c) := by
  have e : careenref19_Look.f l s = route_Look.f l s := rfl
  rw [e]
  by_cases h0 : s < 0
  · exact ⟨0, 0, false, by unfold route_Look.f; rw [if_pos h0], by unfold route_Look.f; rw [if_pos h0]⟩
  obtain ⟨t, rfl⟩ := Int.eq_ofNat_of_zero_le (by omega : 0 ≤ s)
  exact ⟨_, _, _, look_eq l t, look_eq l t⟩
theorem learn_eq' (l : List S32) (hl : l.length < 8796093022208) (s : Nat) (hs : s < 8) (o e : Int) (ho : 1 ≤ o) (he : 1 ≤ e) (he2 : e ≤ 9007199254740992) (k : Nat) : route_Learn.f (k + 20) l (s : Int) o e = some (learn l s o e) := by
  unfold route_Learn.f api_Way.f learn
  rw [if_pos (by simp; omega), Option.bind_some, look_eq, Option.bind_some, if_neg (by omega), if_neg (by omega), if_neg (by omega), if_neg (by omega), if_neg (by omega)]
  split
  · rfl
  · have := learn_loop o e s hs (s + 1 - l.length) l (k + 19 - (s + 1 - l.length)) rfl
    rw [show k + 19 - (s + 1 - l.length) + (s + 1 - l.length) + 1 = k + 20 from by omega] at this
    exact this
theorem ref_learn_eq' (l : List S32) (hl : l.length < 8796093022208) (s : Nat) (hs : s < 8) (o e : Int) (ho : 1 ≤ o) (he : 1 ≤ e) (he2 : e ≤ 9007199254740992) (k : Nat) : careenref19_Learn.f (k + 20) l (s : Int) o e = some (learn l s o e) := by
  have fin : careenref19_Learn.l0 (k + 18) (s : Int) o e l = some (put l s o e) := by
    have := ref_loop o e s hs (s + 1 - l.length) l (k + 17 - (s + 1 - l.length)) rfl
    rw [show k + 17 - (s + 1 - l.length) + (s + 1 - l.length) + 1 = k + 18 from by omega] at this
    exact this
  unfold careenref19_Learn.f learn
  rw [if_pos (by simp; omega), Option.bind_some, List.nil_append, if_neg (by omega), if_neg (by omega), if_neg (by omega), if_neg (by omega), careenref19_Learn.j0, if_neg (by simp; omega)]
  by_cases h : s < l.length
  · rw [if_pos (by omega), if_pos (by omega), rd_way, careenref19_Learn.j1, fin]
    unfold lookV
    by_cases g : (way l s).f1 < 1
    · rw [if_neg (by simp; omega), if_pos g, if_neg (show ¬ (0 : Int) ≥ e by omega)]
    · rw [if_neg g]
      by_cases q : (way l s).f1 ≥ e
      · rw [if_pos (decide_eq_true q), if_pos q]
      · rw [if_neg (by simpa using q), if_neg q]
  · rw [if_neg (by omega), careenref19_Learn.j1, if_neg (by decide), fin, way_out l s (by omega), show (lookV (⟨0, 0⟩ : S32)).2.1 = 0 from rfl, if_neg (show ¬ (0 : Int) ≥ e by omega)]
theorem ref_refused (l : List S32) (hl : l.length < 8796093022208) (s o e : Int) (h : s < 0 ∨ s > 7 ∨ o < 1 ∨ e < 1 ∨ e > 9007199254740992) (k : Nat) : careenref19_Learn.f (k + 20) l s o e = some l := by
  have j : careenref19_Learn.j0 (k + 20) l s o e l true = some l := by rw [careenref19_Learn.j0, if_pos rfl]
  unfold careenref19_Learn.f
  rw [if_pos (by simp; omega), Option.bind_some, List.nil_append]
  by_cases h1 : s < 0
  · rw [if_pos h1, j]
  by_cases h2 : s > 7
  · rw [if_neg h1, if_pos h2, j]
  by_cases h3 : o < 1
  · rw [if_neg h1, if_neg h2, if_pos h3, j]
  by_cases h4 : e < 1
  · rw [if_neg h1, if_neg h2, if_neg h3, if_pos h4, j]
  rw [if_neg h1, if_neg h2, if_neg h3, if_neg h4, decide_eq_true (by omega), j]
theorem refused (l : List S32) (hl : l.length < 8796093022208) (s o e : Int) (h : s < 0 ∨ s > 7 ∨ o < 1 ∨ e < 1 ∨ e > 9007199254740992) (k : Nat) : route_Learn.f k l s o e = some l := by
  obtain ⟨a, b, c, h0, _⟩ := look_both l s
  unfold route_Learn.f api_Way.f
  rw [if_pos (by simp; omega), Option.bind_some, h0, Option.bind_some]
  by_cases h1 : s < 0
  · rw [if_pos h1]
  by_cases h2 : s ≥ 8
  · rw [if_neg h1, if_pos h2]
  by_cases h3 : o < 1
  · rw [if_neg h1, if_neg h2, if_pos h3]
  by_cases h4 : e < 1
  · rw [if_neg h1, if_neg h2, if_neg h3, if_pos h4]
  rw [if_neg h1, if_neg h2, if_neg h3, if_neg h4, if_pos (by omega)]
theorem learn_both (l : List S32) (hl : l.length < 8796093022208) (s o e : Int) (k : Nat) : ∃ L, route_Learn.f (k + 20) l s o e = some L ∧ careenref19_Learn.f (k + 20) l s o e = some L ∧ L.length ≤ l.length + 8 := by
  by_cases h : s < 0 ∨ s > 7 ∨ o < 1 ∨ e < 1 ∨ e > 9007199254740992
  · exact ⟨l, refused l hl s o e h _, ref_refused l hl s o e h k, by omega⟩
  · obtain ⟨t, rfl⟩ := Int.eq_ofNat_of_zero_le (by omega : 0 ≤ s)
    refine ⟨_, learn_eq' l hl t (by omega) o e (by omega) (by omega) (by omega) k, ref_learn_eq' l hl t (by omega) o e (by omega) (by omega) (by omega) k, ?_⟩
    unfold learn
    split
    · omega
    · rw [put_len]; omega
theorem same_loop (l : List S32) (hl : l.length < 9000000000000) : ∀ (d i k : Nat), i + d = l.length → d < k → careenref19_Same.l0 k l l (i : Int) = some true := by
  intro d
  induction d with
  | zero =>
    intro i k hi hk
    obtain ⟨k, rfl⟩ : ∃ m, k = m + 1 := ⟨k - 1, by omega⟩
    rw [careenref19_Same.l0, if_neg (by omega)]
  | succ d ih =>
    intro i k hi hk
    obtain ⟨k, rfl⟩ : ∃ m, k = m + 1 := ⟨k - 1, by omega⟩
    rw [careenref19_Same.l0, if_pos (by omega), if_pos (by omega), if_pos (by omega), if_neg (by simp), wrap64_id (by omega) (by omega), show (i : Int) + 1 = ((i + 1 : Nat) : Int) from by omega]
    exact ih (i + 1) k (by omega) (by omega)
theorem same_eq (l : List S32) (hl : l.length < 9000000000000) (k : Nat) (hk : l.length < k) : careenref19_Same.f k l l = some true := by
  unfold careenref19_Same.f
  rw [if_pos rfl]
  exact same_loop l hl l.length 0 k (by omega) hk
end Go.Proofs.Ytpkcofmoplnahaa.Tells
