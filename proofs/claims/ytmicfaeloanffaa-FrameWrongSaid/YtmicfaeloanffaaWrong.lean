/- One byte of a frame's data, or of its sum, is another one: it is told so, at that frame. -/
import Derived.Test.YtmicfaeloanffaaFrs3
import Derived.Test.YtmicfaeloanffaaByts
import Derived.Test.YtmicfaeloanffaaSam
namespace Go.Proofs.Ytmicfaeloanffaa.Frs
open Go.RowKit Go.Proofs.YtmicfaeloanffaaW.PrintWords Go.Proofs.YtmicfaeloanffaaW.PrintLast Go.Proofs.YtmicfaeloanffaaW.PrintMore Go.Proofs.Ytmicfaeloanffaa.PAll Go.Proofs.Ytmicfaeloanffaa.Base Go.Proofs.Ytmicfaeloanffaa.Crc Go.Proofs.Ytmicfaeloanffaa.Sums Go.Proofs.Ytmicfaeloanffaa.Vari Go.Proofs.Ytmicfaeloanffaa.Vars Go.Proofs.Ytmicfaeloanffaa.HandPut
theorem byte_bv_inj {b b' : UInt8} (h : BitVec.ofNat 32 b.toNat = BitVec.ofNat 32 b'.toNat) : b = b' := by
  have h2 := congrArg BitVec.toNat h
  rw [BitVec.toNat_ofNat, BitVec.toNat_ofNat] at h2
  have := b.toNat_lt
  have := b'.toNat_lt
  exact UInt8.toNat_inj.mp (by omega)
/-- Texts that are unlike in one byte have unlike sums. -/
theorem sum_one_byte (A C : List UInt8) (b b' : UInt8) (h : sum (A ++ b :: C) = sum (A ++ b' :: C)) : b = b' := by
  rw [show A ++ b :: C = (A ++ [b]) ++ C from by simp, show A ++ b' :: C = (A ++ [b']) ++ C from by simp, sum_behind, sum_iff, run_append, run_append] at h
  have h1 : stp (run ones A) b = stp (run ones A) b' := h
  have h2 := T8_inj h1
  have h3 : run ones A ^^^ (run ones A ^^^ BitVec.ofNat 32 b.toNat) = run ones A ^^^ (run ones A ^^^ BitVec.ofNat 32 b'.toNat) := by rw [h2]
  rw [← BitVec.xor_assoc, ← BitVec.xor_assoc, BitVec.xor_self, BitVec.zero_xor, BitVec.zero_xor] at h3
  exact byte_bv_inj h3
theorem bytes4_inj {x y : Nat} (hx : x < 4294967296) (hy : y < 4294967296) (h : bytes4 x = bytes4 y) : x = y := by
  unfold bytes4 at h
  simp only [List.cons.injEq, and_true] at h
  obtain ⟨h0, h1, h2, h3⟩ := h
  have e := word_bytes x
  rw [h0, h1, h2, h3, word_bytes] at e
  have e2 := congrArg BitVec.toNat e
  rw [BitVec.toNat_ofNat, BitVec.toNat_ofNat] at e2
  omega
/-- A text and its sum, with one byte that is another one: the sum does not fit. -/
theorem burst (T : List UInt8) (p : Nat) (b' : UInt8) (hp : p < T.length + 4) (hne : (T ++ bytes4 (sum T))[p]? ≠ some b')
    (h : bytes4 (sum (((T ++ bytes4 (sum T)).set p b').take T.length)) = ((T ++ bytes4 (sum T)).set p b').drop T.length) : False := by
  by_cases c : p < T.length
  · rw [List.set_append, if_pos c, List.take_left' (by rw [List.length_set]), List.drop_left' (by rw [List.length_set])] at h
    have h2 := bytes4_inj (sum_lt _) (sum_lt _) h
    have e : T = T.take p ++ T[p] :: T.drop (p + 1) := by rw [← List.drop_eq_getElem_cons, List.take_append_drop]
    have e2 : T.set p b' = T.take p ++ b' :: T.drop (p + 1) := List.set_eq_take_append_cons_drop.trans (if_pos c)
    rw [e2] at h2
    have h3 : sum (T.take p ++ b' :: T.drop (p + 1)) = sum (T.take p ++ T[p] :: T.drop (p + 1)) := by rw [← e]; exact h2
    have h4 := sum_one_byte _ _ _ _ h3
    apply hne
    rw [List.getElem?_append_left c, List.getElem?_eq_getElem c, h4]
  · rw [List.set_append, if_neg c, List.take_left' rfl, List.drop_left' rfl] at h
    have hl : p - T.length < (bytes4 (sum T)).length := by show p - T.length < 4; omega
    apply hne
    rw [List.getElem?_append_right (by omega), h, List.getElem?_set_self hl]
theorem tl_bl {a b : ByteArray} (R : List Nat) (h : bl a = bl b ++ R) : a.extract 0 b.size = b := by
  apply bl_inj
  rw [bl_take, h, List.take_left' (bl_len b)]
/-- A text that begins with a frame's bytes, one of which, behind the head, is another one. -/
theorem take_wrong (v : Int) (f : S23) (h : Okay v f) (s o : ByteArray) (R : List Nat) (hs : bl s = bl o ++ R) (p : Nat) (hp1 : (hB v f).size ≤ p) (hp2 : p < (encB v f).size) (b' : UInt8) (h1 : o.toList = (encB v f).toList.set p b') (hne : (encB v f).toList[p]? ≠ some b') : ∃ x y d, frame_take.f v s = some (x, y, d, 0, 11) := by
  have hm : f.f2.size ≤ 4000 := h.2.2.2.2.2.1
  have hb := hB_size v f hm
  have hez := encB_size v f
  have hoz : o.size = (encB v f).size := by rw [tl_size, h1, List.length_set, ← tl_size]
  have hlen := congrArg List.length hs
  rw [List.length_append, bl_len, bl_len, hoz] at hlen
  obtain ⟨a, ha⟩ : ∃ a, (hB v f).size = a := ⟨_, rfl⟩
  obtain ⟨m, hmm⟩ : ∃ m, f.f2.size = m := ⟨_, rfl⟩
  rw [ha] at hp1 hb hez
  rw [hmm] at hm hez
  have hobl : bl o = (bl (encB v f)).set p b'.toNat := by
    unfold bl
    rw [h1, List.map_set]
  have hoa : (bl o).take a = bl (hB v f) := by
    rw [hobl, List.take_set_of_le hp1, bl_encB, List.append_assoc, List.take_left' (by rw [bl_len, ha])]
  have hsa : bl s = bl (hB v f) ++ (bl s).drop a := by
    have : (bl s).take a = bl (hB v f) := by
      rw [hs, List.take_append_of_le_length (by rw [bl_len, hoz]; omega), hoa]
    rw [← this, List.take_append_drop]
  generalize (bl s).drop a = X at hsa
  have h0 : bt s 0 = (((if v = 1 then 97 else 98 : Nat)) : Int) := by
    have hl := letter_of v f h
    rw [bl_encB, List.append_assoc, getD_app (by rw [bl_len, ha]; omega)] at hl
    rw [bt_zero, hsa, getD_app (by rw [bl_len, ha]; omega), hl]
  have hsz : a + m + 4 ≤ s.size := by omega
  have hr : readF v s = some (f.f0, f.f1, (a : Int), (m : Int), true) := by
    rcases h.1 with e | e
    · subst e
      have e4 := hb.2.2 rfl
      rw [bl_hB1 f h, hmm] at hsa
      have k : (bl s).getD 1 0 = f.f0.toNat ∧ (bl s).getD 2 0 = m / 256 ∧ (bl s).getD 3 0 = m % 256 := by rw [hsa]; exact ⟨rfl, rfl, rfl⟩
      have hf1 : f.f1 = 0 := by have := h.2.2.2.2.2.2; omega
      rw [read_one s (by omega), k.1, k.2.1, k.2.2, okay_f0 h, hf1, e4, show m / 256 * 256 + m % 256 = m from by omega]
    · subst e
      have hz2 : a = 3 + (dg m).length := by rw [← ha, ← bl_len, bl_hB2 f h, List.length_append, hmm]; rfl
      rw [bl_hB2 f h, hmm] at hsa
      have k : (bl s).getD 1 0 = f.f1.toNat ∧ (bl s).getD 2 0 = f.f0.toNat := by rw [hsa]; exact ⟨rfl, rfl⟩
      have hd : (bl s).drop 3 = dg m ++ X := by rw [hsa]; rfl
      rw [read_two s (by omega) m (dg m).length (by omega) (by omega) (by rw [hd]; exact take_put _ (by omega) _), k.1, k.2, okay_f0 h, okay_f1 h, hz2]
  have hso : s.extract 0 (a + m + 4) = o := by
    have := tl_bl R hs
    rw [hoz, hez] at this
    exact this
  have hET : (encB v f).toList = (hB v f ++ f.f2).toList ++ bytes4 (sum (hB v f ++ f.f2).toList) := by
    unfold encB
    rw [tl_append, sB_tl]
  have hTl : (hB v f ++ f.f2).toList.length = a + m := by rw [← tl_size, ByteArray.size_append, ha, hmm]
  have ho2 : o.toList = s.toList.take (a + m + 4) := by rw [← hso, tl_extract, List.drop_zero]
  have hT' : (s.extract 0 (a + m)).toList = o.toList.take (a + m) := by rw [tl_extract, List.drop_zero, ho2, List.take_take, Nat.min_eq_left (by omega)]
  have hS' : (s.extract (a + m) (a + m + 4)).toList = o.toList.drop (a + m) := by rw [tl_extract, ho2]
  have hTs : (s.extract 0 (a + m)).size ≤ 4900 := by rw [ByteArray.size_extract]; omega
  have hsum := sum_eq (s.extract 0 (a + m)) hTs
  have hbytes := bytes_eq (s.extract 0 (a + m))
  have hno : ¬ ((sB (s.extract 0 (a + m))).toList == (s.extract (a + m) (a + m + 4)).toList) = true := by
    intro hc
    have hc2 := eq_of_beq hc
    rw [sB_tl, hT', hS', h1, hET] at hc2
    rw [hET] at hne
    rw [← hTl] at hc2
    refine burst _ p b' ?_ hne hc2
    rw [hTl]; omega
  have hD : (s.extract a (a + m)).size = m := by rw [ByteArray.size_extract]; omega
  have hright : frame_Right.f v f.f0 f.f1 (s.extract a (a + m)) = some true := by
    refine right_eq v f.f0 f.f1 _ ?_
    rw [hD, ← hmm]
    exact h
  have hg : goF v s = some (f.f0, f.f1, s.extract a (a + m), 0, 11) := by
    unfold goF
    rw [hr, Option.bind_some]
    dsimp only
    rw [if_neg (by simp), if_neg (by omega), if_neg (by omega), Int.toNat_natCast, Int.toNat_natCast, hright, Option.bind_some, if_neg (by simp), hsum, Option.bind_some, hbytes, Option.bind_some, if_neg hno]
  refine ⟨f.f0, f.f1, s.extract a (a + m), ?_⟩
  have hne0 : ¬ s.size = 0 := by omega
  unfold frame_take.f
  rw [if_neg hne0, h0]
  rcases h.1 with e | e
  · subst e
    rw [if_pos rfl, if_pos rfl, if_pos (by rfl)]
    exact hg
  · subst e
    rw [if_neg (show ¬ (2 : Int) = 1 by decide), if_pos rfl, if_neg (show ¬ (2 : Int) = 1 by decide), if_pos (by rfl)]
    exact hg
/-- What is scanned of whole frames, a wrong one, and anything. -/
theorem scan_wrong (v : Int) (hv : v = 1 ∨ v = 2) (P : List S23) (hP : ∀ f ∈ P, Okay v f) (hl : P.length ≤ 12) (f : S23) (h : Okay v f) (o r : ByteArray) (hr : r.size ≤ 1000000) (p : Nat) (hp1 : (hB v f).size ≤ p) (hp2 : p < (encB v f).size) (b' : UInt8) (h1 : o.toList = (encB v f).toList.set p b') (hne : (encB v f).toList[p]? ≠ some b') (k : Nat) (hk : 20 ≤ k) :
    frame_Scan.f k v (cat v P ++ o ++ r) = some (P, (((cat v P).size : Nat) : Int), 11) := by
  have hb := cat_bound v P hP hl
  have ho : o.size = (encB v f).size := by rw [tl_size, h1, List.length_set, ← tl_size]
  have hez := encB_pos v f h
  have hm : f.f2.size ≤ 4000 := h.2.2.2.2.2.1
  have hbs := (hB_size v f hm).1
  have hes := encB_size v f
  have hz : (cat v P ++ o ++ r).size = (cat v P).size + o.size + r.size := by rw [ByteArray.size_append, ByteArray.size_append]
  obtain ⟨m, rfl⟩ : ∃ m, k = m + 1 + P.length := ⟨k - P.length - 1, by omega⟩
  have hzl : (cat v P ++ o ++ r).size ≤ 4611686018427387904 := by
    rw [hz, ho, hes]
    generalize (hB v f).size = x at hbs ⊢
    generalize (cat v P).size = y at hb ⊢
    omega
  rw [scan_from v hv P hP hl _ hzl (bl o ++ bl r) (by rw [bl_append, bl_append, bl_cat, List.append_assoc])]
  have hx : bl ((cat v P ++ o ++ r).extract (cat v P).size (cat v P ++ o ++ r).size) = bl o ++ bl r := by
    rw [bl_drop, bl_append, bl_append, List.append_assoc, List.drop_left' (bl_len _)]
  obtain ⟨x, y, d, ht⟩ := take_wrong v f h _ o (bl r) hx p hp1 hp2 b' h1 hne
  have b1 : (((cat v P).size : Nat) : Int) < (((cat v P ++ o ++ r).size : Nat) : Int) := by
    rw [hz, ho]
    generalize (encB v f).size = x at hez ⊢
    generalize (cat v P).size = y
    omega
  rw [frame_Scan.l0, if_pos b1, if_pos (Int.natCast_nonneg _), if_pos (Int.le_of_lt b1), Int.toNat_natCast, ht, Option.bind_some]
  rfl
theorem xor_ne (a b : UInt8) (h : b ≠ 0) : a ^^^ b ≠ a := by
  intro e
  apply h
  have : a ^^^ (a ^^^ b) = a ^^^ a := by rw [e]
  rw [← UInt8.xor_assoc, UInt8.xor_self, UInt8.zero_xor] at this
  exact this
end Go.Proofs.Ytmicfaeloanffaa.Frs
