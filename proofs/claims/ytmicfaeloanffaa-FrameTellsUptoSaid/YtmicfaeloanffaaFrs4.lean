/- Any text: what is taken of it is a frame's bytes; what is scanned of it is frames' bytes. -/
import Derived.Test.YtmicfaeloanffaaFrs3
namespace Go.Proofs.Ytmicfaeloanffaa.Frs
open Go.RowKit Go.Proofs.YtmicfaeloanffaaW.PrintWords Go.Proofs.YtmicfaeloanffaaW.PrintLast Go.Proofs.YtmicfaeloanffaaW.PrintMore Go.Proofs.Ytmicfaeloanffaa.PAll Go.Proofs.Ytmicfaeloanffaa.Base Go.Proofs.Ytmicfaeloanffaa.Crc Go.Proofs.Ytmicfaeloanffaa.Sums Go.Proofs.Ytmicfaeloanffaa.Vari Go.Proofs.Ytmicfaeloanffaa.Vars Go.Proofs.Ytmicfaeloanffaa.HandPut
theorem take4 : ∀ (L : List Nat), 4 ≤ L.length → L.take 4 = [L.getD 0 0, L.getD 1 0, L.getD 2 0, L.getD 3 0]
 | a :: b :: c :: d :: L, _ => rfl
 | [], h => absurd h (by simp)
 | [_], h => absurd h (by simp)
 | [_, _], h => absurd h (by simp)
 | [_, _, _], h => absurd h (by simp)
theorem take3 : ∀ (L : List Nat), 3 ≤ L.length → L.take 3 = [L.getD 0 0, L.getD 1 0, L.getD 2 0]
 | a :: b :: c :: L, _ => rfl
 | [], h => absurd h (by simp)
 | [_], h => absurd h (by simp)
 | [_, _], h => absurd h (by simp)
theorem take_glue (L : List Nat) (p q : Nat) : L.take p ++ (L.take (p + q)).drop p = L.take (p + q) := by
 have e : (L.take (p + q)).take p = L.take p := by rw [List.take_take, Nat.min_eq_left (by omega)]
 rw [← e, List.take_append_drop]
theorem take_glue2 (L : List Nat) (p q : Nat) : L.take p ++ (L.drop p).take q = L.take (p + q) := by
 rw [← take_glue L p q, List.drop_take, Nat.add_sub_cancel_left]
theorem byte_of (s : ByteArray) (i : Nat) : (bl s).getD i 0 < 256 := by
 rw [List.getD_eq_getElem?_getD]
 cases h : (bl s)[i]? with
 | none => exact Nat.zero_lt_succ _
 | some x => exact bl_lt s x (List.mem_of_getElem? h)
/-- What a frame that was taken is. -/
def Whole (v : Int) (s : ByteArray) (kd fl : Int) (d : ByteArray) (n : Int) : Prop := Okay v ⟨kd, fl, d⟩ ∧ n = (((encB v ⟨kd, fl, d⟩).size : Nat) : Int) ∧ bl s = bl (encB v ⟨kd, fl, d⟩) ++ (bl s).drop (encB v ⟨kd, fl, d⟩).size
/-- The ways a taking ends. -/
def Ends (v : Int) (s : ByteArray) (o : Option (Int × Int × ByteArray × Int × Int)) : Prop := ∃ kd fl d n e, o = some (kd, fl, d, n, e) ∧ (e ≠ 0 ∧ n = 0 ∨ e = 0 ∧ n = 0 ∨ e = 0 ∧ Whole v s kd fl d n)
theorem goF_ends (v : Int) (s : ByteArray) (kd fl : Int) (a m : Nat) (ha : a ≤ 200) (hr : readF v s = some (kd, fl, (a : Int), (m : Int), true))
  (hh : a + m + 4 ≤ s.size → m ≤ 4000 → Okay v ⟨kd, fl, s.extract a (a + m)⟩ → bl (hB v ⟨kd, fl, s.extract a (a + m)⟩) = (bl s).take a) : Ends v s (goF v s) := by
 by_cases c1 : (m : Int) > 4000
 ·refine ⟨kd, fl, ⟨#[]⟩, 0, 11, ?_, .inl ⟨by decide, rfl⟩⟩
  unfold goF
  rw [hr, Option.bind_some]
  dsimp only
  rw [if_neg (by simp), if_pos c1]
 ·have hm : m ≤ 4000 := by omega
  by_cases c2 : s.size < a + m + 4
  ·exact ⟨kd, fl, ⟨#[]⟩, 0, 0, goF_short v s kd fl a m hm hr c2, .inr (.inl ⟨rfl, rfl⟩)⟩
  ·have hsz : a + m + 4 ≤ s.size := by omega
   have hD : (s.extract a (a + m)).size = m := by rw [ByteArray.size_extract]; omega
   have hTs : (s.extract 0 (a + m)).size ≤ 4900 := by rw [ByteArray.size_extract]; omega
   have hsum := sum_eq (s.extract 0 (a + m)) hTs
   have hbytes := bytes_eq (s.extract 0 (a + m))
   have c3 : ¬ (s.size : Int) < (a : Int) + (m : Int) + 4 := by omega
   by_cases c4 : may v kd fl (s.extract a (a + m)).size
   ·have hright := right_eq v kd fl _ c4
    by_cases c5 : ((sB (s.extract 0 (a + m))).toList == (s.extract (a + m) (a + m + 4)).toList) = true
    ·refine ⟨kd, fl, s.extract a (a + m), ((a + m + 4 : Nat) : Int), 0, ?_, .inr (.inr ⟨rfl, c4, ?_, ?_⟩)⟩
     ·have e5 := tl_inj (eq_of_beq c5)
      exact goF_ok v s kd fl a m ha hm hr hsz _ _ rfl rfl e5.symm c4
     ·have e := hh hsz hm c4
      have e2 := congrArg List.length e
      rw [bl_len, List.length_take, bl_len] at e2
      rw [encB_size, e2]
      show ((a + m + 4 : Nat) : Int) = ((min a s.size + (s.extract a (a + m)).size + 4 : Nat) : Int)
      rw [hD]
      clear hh hsum hbytes hright c5 e e2
      omega
     ·have e := hh hsz hm c4
      have e5 := tl_inj (eq_of_beq c5)
      have eT : hB v ⟨kd, fl, s.extract a (a + m)⟩ ++ s.extract a (a + m) = s.extract 0 (a + m) := by
       apply bl_inj
       rw [bl_append, e, bl_extract, bl_take, take_glue]
      have eB : bl (encB v ⟨kd, fl, s.extract a (a + m)⟩) = (bl s).take (a + m + 4) := by
       unfold encB
       show bl (hB v ⟨kd, fl, s.extract a (a + m)⟩ ++ s.extract a (a + m) ++ sB (hB v ⟨kd, fl, s.extract a (a + m)⟩ ++ s.extract a (a + m))) = _
       rw [eT, e5, bl_append, bl_take, bl_extract, take_glue]
      have eN : (encB v ⟨kd, fl, s.extract a (a + m)⟩).size = a + m + 4 := by
       rw [← bl_len, eB, List.length_take, bl_len]
       exact Nat.min_eq_left hsz
      rw [eN, eB, List.take_append_drop]
    ·refine ⟨kd, fl, s.extract a (a + m), 0, 11, ?_, .inl ⟨by decide, rfl⟩⟩
     unfold goF
     rw [hr, Option.bind_some]
     dsimp only
     rw [if_neg (by simp), if_neg c1, if_neg c3, Int.toNat_natCast, Int.toNat_natCast, hright, Option.bind_some, if_neg (by simp), hsum, Option.bind_some, hbytes, Option.bind_some, if_neg c5]
   ·refine ⟨kd, fl, s.extract a (a + m), 0, 11, ?_, .inl ⟨by decide, rfl⟩⟩
    have hright : frame_Right.f v kd fl (s.extract a (a + m)) = some false := by
     unfold frame_Right.f
     rw [decide_eq_false c4]
    unfold goF
    rw [hr, Option.bind_some]
    dsimp only
    rw [if_neg (by simp), if_neg c1, if_neg c3, Int.toNat_natCast, Int.toNat_natCast, hright, Option.bind_some, if_pos rfl]
theorem go_one (s : ByteArray) (hl : (bl s).getD 0 0 = 97) : Ends 1 s (goF 1 s) := by
 by_cases c : s.size < 4
 ·exact ⟨_, _, _, _, _, goF_cut 1 s _ _ _ _ (read_one_no s c), .inr (.inl ⟨rfl, rfl⟩)⟩
 ·refine goF_ends 1 s _ _ 4 ((bl s).getD 2 0 * 256 + (bl s).getD 3 0) (by decide) (read_one s (by omega)) ?_
  intro hsz hm hk
  have hD : (s.extract 4 (4 + ((bl s).getD 2 0 * 256 + (bl s).getD 3 0))).size = (bl s).getD 2 0 * 256 + (bl s).getD 3 0 := by rw [ByteArray.size_extract]; omega
  have h3 := byte_of s 3
  rw [bl_hB1 _ hk, take4 _ (by rw [bl_len]; omega), hl]
  dsimp only
  rw [hD, Int.toNat_natCast, show ((bl s).getD 2 0 * 256 + (bl s).getD 3 0) / 256 = (bl s).getD 2 0 from by omega, show ((bl s).getD 2 0 * 256 + (bl s).getD 3 0) % 256 = (bl s).getD 3 0 from by omega]
theorem go_two (s : ByteArray) (hl : (bl s).getD 0 0 = 98) : Ends 2 s (goF 2 s) := by
 by_cases c : s.size < 3
 ·exact ⟨_, _, _, _, _, goF_cut 2 s _ _ _ _ (read_two_no s (.inl c)), .inr (.inl ⟨rfl, rfl⟩)⟩
 ·rcases put_take ((bl s).drop 3) (fun x hx => bl_lt s x (List.mem_of_mem_drop hx)) with ⟨n, k, e, hn, hk1, hk2, hd⟩ | ⟨e, _⟩ | e
  ·have hk8 : k ≤ 8 := by
    have h1 := dg_len 7 n (by omega)
    have h2 := congrArg List.length hd
    rw [List.length_take, Nat.min_eq_left hk2] at h2
    omega
   refine goF_ends 2 s _ _ (3 + k) n (by omega) (read_two s (by omega) n k (by omega) hn e) ?_
   intro hsz hm hk
   have hD : (s.extract (3 + k) (3 + k + n)).size = n := by rw [ByteArray.size_extract]; omega
   rw [bl_hB2 _ hk]
   dsimp only
   rw [hD, Int.toNat_natCast, Int.toNat_natCast, hd, ← hl, ← take3 _ (by rw [bl_len]; omega), take_glue2]
  ·exact ⟨_, _, _, _, _, goF_cut 2 s _ _ _ _ (read_two_no s (.inr e)), .inr (.inl ⟨rfl, rfl⟩)⟩
  ·have hr : readF 2 s = some (bt s 2, bt s 1, ((3 : Nat) : Int), ((4001 : Nat) : Int), true) := by
    unfold readF
    rw [if_neg (by decide), if_neg (by omega), take_eq (s.extract 3 s.size) 180, bl_drop, e, Option.bind_some]
    rfl
   exact goF_ends 2 s _ _ 3 4001 (by decide) hr (fun _ h => absurd h (by decide))
theorem take_ends (v : Int) (hv : v = 1 ∨ v = 2) (s : ByteArray) (hz : 1 ≤ s.size) : Ends v s (frame_take.f v s) := by
 have h0 := bt_zero s
 have hne : ¬ s.size = 0 := by omega
 unfold frame_take.f
 rw [if_neg hne, h0]
 rcases hv with e | e
 ·subst e
  rw [if_pos rfl]
  by_cases c : (((bl s).getD 0 0 : Nat) : Int) = 97
  ·rw [if_pos c]
   exact go_one s (Int.ofNat_inj.mp c)
  ·rw [if_neg c]
   by_cases c2 : (((bl s).getD 0 0 : Nat) : Int) = 98
   ·rw [if_pos c2]
    exact ⟨_, _, _, _, _, rfl, .inl ⟨by decide, rfl⟩⟩
   ·rw [if_neg c2]
    exact ⟨_, _, _, _, _, rfl, .inl ⟨by decide, rfl⟩⟩
 ·subst e
  rw [if_neg (show ¬ (2 : Int) = 1 by decide), if_pos rfl]
  by_cases c : (((bl s).getD 0 0 : Nat) : Int) = 98
  ·rw [if_pos c]
   exact go_two s (Int.ofNat_inj.mp c)
  ·rw [if_neg c]
   by_cases c2 : (((bl s).getD 0 0 : Nat) : Int) = 97
   ·rw [if_pos c2]
    exact ⟨_, _, _, _, _, rfl, .inl ⟨by decide, rfl⟩⟩
   ·rw [if_neg c2]
    exact ⟨_, _, _, _, _, rfl, .inl ⟨by decide, rfl⟩⟩
theorem catL_one (v : Int) (f : S23) : catL v [f] = bl (encB v f) := by rw [catL, catL, List.append_nil]
/-- One round of a scan, where a whole frame stands. -/
theorem scan_step (v : Int) (s : ByteArray) (hs : s.size ≤ 4611686018427387904) (at_ k : Nat) (out : List S23) (ho : out.length < 4398046511104) (ha : at_ < s.size) (kd fl : Int) (d : ByteArray) (n : Nat) (hn : at_ + n ≤ s.size) (h0 : n ≠ 0) (ht : frame_take.f v (s.extract at_ s.size) = some (kd, fl, d, (n : Int), 0)) :
  frame_Scan.l0 (k + 1) v s out (at_ : Int) = frame_Scan.l0 k v s (out ++ [⟨kd, fl, d⟩]) ((at_ + n : Nat) : Int) := by
 have b1 : (at_ : Int) < (s.size : Int) := by omega
 have b2 : (0 : Int) ≤ (at_ : Int) := by omega
 have b3 : (at_ : Int) ≤ (s.size : Int) := by omega
 have b4 : ¬ (n : Int) = 0 := by omega
 have ew : wrap64 ((at_ : Int) + (n : Int)) = ((at_ + n : Nat) : Int) := by rw [wrap64_id (by omega) (by omega)]; omega
 rw [frame_Scan.l0, if_pos b1, if_pos b2, if_pos b3, Int.toNat_natCast, ht, Option.bind_some]
 dsimp only
 rw [if_pos (show (0 : Int) = 0 from rfl), if_neg b4, if_pos ho, ew]
/-- One round of a scan, where it ends. -/
theorem scan_stop (v : Int) (s : ByteArray) (at_ k : Nat) (out : List S23) (ha : at_ < s.size) (kd fl : Int) (d : ByteArray) (e : Int) (ht : frame_take.f v (s.extract at_ s.size) = some (kd, fl, d, 0, e)) :
  frame_Scan.l0 (k + 1) v s out (at_ : Int) = some (out, (at_ : Int), e) := by
 have b1 : (at_ : Int) < (s.size : Int) := by omega
 have b2 : (0 : Int) ≤ (at_ : Int) := by omega
 have b3 : (at_ : Int) ≤ (s.size : Int) := by omega
 rw [frame_Scan.l0, if_pos b1, if_pos b2, if_pos b3, Int.toNat_natCast, ht, Option.bind_some]
 dsimp only
 by_cases c : e = 0
 ·rw [if_pos c, if_pos (show (0 : Int) = 0 from rfl), c]
 ·rw [if_neg c]
theorem drop_size (s : ByteArray) (i : Nat) : (s.extract i s.size).size = s.size - i := by rw [ByteArray.size_extract]; omega
/-- What is scanned of any text: frames that may be, whose bytes stand there. -/
theorem scan_any (v : Int) (hv : v = 1 ∨ v = 2) (s : ByteArray) (hs : s.size ≤ 2000000) : ∀ (d at_ k : Nat) (out : List S23), at_ + d = s.size → d < k → (∀ f ∈ out, Okay v f) → catL v out = (bl s).take at_ → 8 * out.length ≤ at_ →
  ∃ L n e, frame_Scan.l0 k v s out (at_ : Int) = some (L, ((n : Nat) : Int), e) ∧ (∀ f ∈ L, Okay v f) ∧ catL v L = (bl s).take n ∧ n ≤ s.size ∧ 8 * L.length ≤ n := by
 intro d
 induction d using Nat.strongRecOn with
 | ind d ih =>
  intro at_ k out had hk hout hcat hlen
  obtain ⟨k, rfl⟩ : ∃ m, k = m + 1 := ⟨k - 1, by omega⟩
  by_cases c : at_ < s.size
  ·obtain ⟨kd, fl, dd, n, e, ht, h⟩ := take_ends v hv (s.extract at_ s.size) (by rw [drop_size]; omega)
   rcases h with ⟨_, rfl⟩ | ⟨_, rfl⟩ | ⟨rfl, hw1, rfl, hw3⟩
   ·exact ⟨out, at_, e, scan_stop v s at_ k out c kd fl dd e ht, hout, hcat, by omega, hlen⟩
   ·exact ⟨out, at_, e, scan_stop v s at_ k out c kd fl dd e ht, hout, hcat, by omega, hlen⟩
   ·have hp := encB_pos v _ hw1
    rw [bl_drop] at hw3
    have hl := congrArg List.length hw3
    rw [List.length_append, bl_len, List.length_drop, List.length_drop, bl_len] at hl
    generalize hE : encB v ⟨kd, fl, dd⟩ = E at *
    have hn : at_ + E.size ≤ s.size := by omega
    rw [scan_step v s (by omega) at_ k out (by omega) c kd fl dd E.size hn (by omega) ht]
    refine ih (d - E.size) (by omega) (at_ + E.size) k (out ++ [⟨kd, fl, dd⟩]) (by omega) (by omega) ?_ ?_ (by rw [List.length_append]; simp; omega)
    ·intro f hf
     rcases List.mem_append.mp hf with hf | hf
     ·exact hout f hf
     ·rw [List.mem_singleton.mp hf]; exact hw1
    ·rw [catL_append, hcat, catL_one, hE, ← take_glue2, hw3, List.take_left' (bl_len E)]
  ·obtain ⟨rfl⟩ : d = 0 := by omega
   exact ⟨out, at_, 0, scan_end v s out k _ (by omega), hout, hcat, by omega, hlen⟩
theorem scan_text (v : Int) (hv : v = 1 ∨ v = 2) (s : ByteArray) (hs : s.size ≤ 2000000) (k : Nat) (hk : 2000000 < k) : ∃ L n e, frame_Scan.f k v s = some (L, ((n : Nat) : Int), e) ∧ (∀ f ∈ L, Okay v f) ∧ cat v L = s.extract 0 n ∧ n ≤ s.size ∧ 8 * L.length ≤ n := by
 obtain ⟨L, n, e, h1, h2, h3, h4, h5⟩ := scan_any v hv s hs s.size 0 k [] (by omega) (by omega) (fun f hf => by cases hf) (by rw [List.take_zero]; rfl) (Nat.zero_le _)
 refine ⟨L, n, e, ?_, h2, ?_, h4, h5⟩
 ·rw [scan_v v hv]; exact h1
 ·apply bl_inj
  rw [bl_cat, h3, bl_take]
end Go.Proofs.Ytmicfaeloanffaa.Frs
