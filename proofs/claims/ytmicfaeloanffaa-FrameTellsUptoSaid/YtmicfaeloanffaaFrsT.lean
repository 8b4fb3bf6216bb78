/- The document's own answers are the program's: of a frame's bytes, and of what is scanned of any text. -/
import Derived.Test.YtmicfaeloanffaaFrs4
import Derived.Test.YtmicfaeloanffaaSums2
import Derived.Test.YtmicfaeloanffaaVars2
import Derived.Test.YtmicfaeloanffaaPAllx9
namespace Go.Proofs.Ytmicfaeloanffaa.Frs
open Go.RowKit Go.Proofs.YtmicfaeloanffaaW.PrintWords Go.Proofs.YtmicfaeloanffaaW.PrintLast Go.Proofs.YtmicfaeloanffaaW.PrintMore Go.Proofs.Ytmicfaeloanffaa.PAll Go.Proofs.Ytmicfaeloanffaa.Base Go.Proofs.Ytmicfaeloanffaa.Crc Go.Proofs.Ytmicfaeloanffaa.Sums Go.Proofs.Ytmicfaeloanffaa.Vari Go.Proofs.Ytmicfaeloanffaa.Vars Go.Proofs.Ytmicfaeloanffaa.HandPut
theorem may_iff {v k g : Int} {n : Nat} : may v k g n ↔ (v = 1 ∨ v = 2) ∧ 1 ≤ k ∧ k ≤ 255 ∧ 0 ≤ g ∧ g ≤ 255 ∧ n ≤ 4000 ∧ (v = 2 ∨ k ≤ 9 ∧ g = 0) := Iff.rfl
theorem ref_right (v k g : Int) (d : ByteArray) : careenref06_Right.f v k g d = some (decide (may v k g d.size)) := by
 unfold careenref06_Right.f
 by_cases c1 : k < 1
 ·rw [if_pos c1, decide_eq_false (fun h => by rw [may_iff] at h; omega)]
 rw [if_neg c1]
 by_cases c2 : k > 255
 ·rw [if_pos c2, decide_eq_false (fun h => by rw [may_iff] at h; omega)]
 rw [if_neg c2]
 by_cases c3 : g < 0
 ·rw [if_pos c3, decide_eq_false (fun h => by rw [may_iff] at h; omega)]
 rw [if_neg c3]
 by_cases c4 : g > 255
 ·rw [if_pos c4, decide_eq_false (fun h => by rw [may_iff] at h; omega)]
 rw [if_neg c4]
 by_cases c5 : (d.size : Int) > 4000
 ·rw [if_pos c5, decide_eq_false (fun h => by rw [may_iff] at h; omega)]
 rw [if_neg c5]
 by_cases c6 : v = 2
 ·rw [if_pos c6, decide_eq_true (may_iff.mpr (by omega))]
 rw [if_neg c6]
 by_cases c7 : v = 1
 ·rw [if_pos c7]
  by_cases c8 : k ≤ 9
  ·rw [if_pos c8]
   by_cases c9 : g = 0
   ·rw [decide_eq_true (may_iff.mpr (by omega)), c9]; rfl
   ·rw [decide_eq_false (fun h => by rw [may_iff] at h; omega), beq_eq_false_iff_ne.mpr c9]
  ·rw [if_neg c8, decide_eq_false (fun h => by rw [may_iff] at h; omega)]
 ·rw [if_neg c7, decide_eq_false (fun h => by rw [may_iff] at h; omega)]
theorem right_dec (v k g : Int) (d : ByteArray) : frame_Right.f v k g d = some (decide (may v k g d.size)) := rfl
theorem ref_head (v : Int) (f : S23) (h : Okay v f) (K : Nat) (hK : 12 ≤ K) : careenref06_head.f K v f.f0 f.f1 f.f2 = some (hB v f) := by
 have h6 : f.f2.size ≤ 4000 := h.2.2.2.2.2.1
 have hn := num_small f.f2.size h6
 unfold careenref06_head.f hB
 by_cases e : v = 1
 ·rw [if_pos e, if_pos e, wrap64_id (by omega) (by omega)]
 ·obtain ⟨m, rfl⟩ : ∃ m, K = m + 12 := ⟨K - 12, by omega⟩
  have e3 : (strOfNums [98, f.f1 % 256, f.f0 % 256]).size = 3 := rfl
  have hs : (strOfNums [98, f.f1 % 256, f.f0 % 256]).size + (num f.f2.size).size ≤ 9223372036854775807 := by
   rw [e3]; omega
  rw [if_neg e, if_neg e, ref_put, put_ok f.f2.size (by omega), Option.bind_some, Option.bind_some, if_pos hs]
theorem ref_sum (t : ByteArray) (ht : t.size ≤ 4900) (K : Nat) (hK : 50000 ≤ K) : careenref05_Of.f K t = some ((sum t.toList : Nat) : Int) := ref_of_tells t (by omega) K (by omega)
theorem ref_bytes (t : ByteArray) (K : Nat) (hK : 6 ≤ K) : careenref05_Bytes.f K ((sum t.toList : Nat) : Int) = some (sB t) := by
 have hl := sum_lt t.toList
 obtain ⟨b, hb, he⟩ := ref_bytes_tells ((sum t.toList : Nat) : Int) (by omega) (by omega) K hK
 rw [hb]
 rw [Int.toNat_natCast] at he
 rw [tl_inj (he.trans (sB_tl t).symm)]
theorem enc_no (v k g : Int) (d : ByteArray) (h : ¬ may v k g d.size) : frame_Encode.f v k g d = some (⟨#[]⟩, 1) := by
 unfold frame_Encode.f
 rw [right_dec, decide_eq_false h, Option.bind_some, if_neg (by decide)]
theorem ref_enc (v : Int) (f : S23) (h : Okay v f) (K : Nat) (hK : 50000 ≤ K) : careenref06_Encode.f K v f.f0 f.f1 f.f2 = some (encB v f, 0) := by
 have h6 : f.f2.size ≤ 4000 := h.2.2.2.2.2.1
 have hb := (hB_size v f h6).1
 have z1 : (hB v f ++ f.f2).size ≤ 4900 := by rw [ByteArray.size_append]; omega
 have hsum := ref_sum (hB v f ++ f.f2) z1 K hK
 have hbytes := ref_bytes (hB v f ++ f.f2) K (by omega)
 have z2 : (hB v f).size + f.f2.size ≤ 9223372036854775807 := by omega
 have z3 : (hB v f ++ f.f2).size + (sB (hB v f ++ f.f2)).size ≤ 9223372036854775807 := by rw [sB_size]; omega
 unfold careenref06_Encode.f
 rw [ref_right, decide_eq_true (show may v f.f0 f.f1 f.f2.size from h), Option.bind_some, if_pos rfl, ref_head v f h K (by omega), Option.bind_some, if_pos z2, hsum, Option.bind_some, hbytes, Option.bind_some, if_pos z3]
 rfl
theorem ref_enc_no (v k g : Int) (d : ByteArray) (h : ¬ may v k g d.size) (K : Nat) : careenref06_Encode.f K v k g d = some (⟨#[]⟩, 1) := by
 unfold careenref06_Encode.f
 rw [ref_right, decide_eq_false h, Option.bind_some, if_neg (by decide)]
/-- Two answers on a frame that a text begins with are alike. -/
def Alike (o1 o2 : Option (Int × Int × ByteArray × Int × Int)) : Prop := ∃ kd fl d n e kd' fl' d', o1 = some (kd, fl, d, n, e) ∧ o2 = some (kd', fl', d', n, e) ∧ (e = 0 → n ≠ 0 → kd' = kd ∧ fl' = fl ∧ d' = d)
/-- What stands behind the head, by the document's own answer. -/
theorem ref_rest (v : Int) (hv : v = 1 ∨ v = 2) (s : ByteArray) (hs : s.size ≤ 2000000) (kd fl : Int) (a m : Nat) (ha : a ≤ 200) (ha1 : 3 ≤ a) (hm : m ≤ 4000) (hr : readF v s = some (kd, fl, (a : Int), (m : Int), true)) (hk : v = 1 → kd = wrap64 (bt s 1) ∧ fl = 0) (hk2 : v = 2 → kd = wrap64 (bt s 2) ∧ fl = wrap64 (bt s 1)) (hz : a + m + 4 ≤ s.size) (K : Nat) (hK : 50000 ≤ K) :
  Alike (goF v s) (careenref06_one.j1 (K + 2) v s (a : Int) (m : Int) false) := by
 have w1 : wrap64 ((a : Int) + (m : Int)) = ((a + m : Nat) : Int) := by rw [wrap64_id (by omega) (by omega)]; omega
 have w2 : wrap64 (((a + m : Nat) : Int) + 4) = ((a + m + 4 : Nat) : Int) := by rw [wrap64_id (by omega) (by omega)]; omega
 have b1 : (1 : Int) < (s.size : Int) := by omega
 have b2 : (0 : Int) ≤ (a : Int) := by omega
 have b3 : (a : Int) ≤ ((a + m : Nat) : Int) := by omega
 have b4 : ((a + m : Nat) : Int) ≤ (s.size : Int) := by omega
 have b5 : (2 : Int) < (s.size : Int) := by omega
 have b6 : (0 : Int) ≤ ((a + m : Nat) : Int) := by omega
 have b7 : ((a + m : Nat) : Int) ≤ ((a + m + 4 : Nat) : Int) := by omega
 have b8 : ((a + m + 4 : Nat) : Int) ≤ (s.size : Int) := by omega
 have c1 : ¬ (m : Int) > 4000 := by omega
 have c3 : ¬ (s.size : Int) < (a : Int) + (m : Int) + 4 := by omega
 have hTs : (s.extract 0 (a + m)).size ≤ 4900 := by rw [ByteArray.size_extract]; omega
 have hsum := sum_eq (s.extract 0 (a + m)) hTs
 have hbytes := bytes_eq (s.extract 0 (a + m))
 have rsum := ref_sum (s.extract 0 (a + m)) hTs K hK
 have rbytes := ref_bytes (s.extract 0 (a + m)) K (by omega)
 have hj : careenref06_one.j1 (K + 2) v s (a : Int) (m : Int) false = careenref06_one.j2 (K + 1) v s (a : Int) (m : Int) kd fl (s.extract a (a + m)) := by
  rw [careenref06_one.j1, if_neg (by decide), if_pos b1, if_pos b2, w1, if_pos b3, if_pos b4, Int.toNat_natCast, Int.toNat_natCast]
  rcases hv with e | e
  ·obtain ⟨k1, k2⟩ := hk e
   rw [if_neg (by omega), k1, k2]
  ·obtain ⟨k1, k2⟩ := hk2 e
   rw [if_pos e, if_pos b5, k1, k2]
 rw [hj, careenref06_one.j2, ref_right, Option.bind_some, w1]
 have hg : goF v s = (frame_Right.f v kd fl (s.extract a (a + m))).bind fun r => if r = false then some (kd, fl, s.extract a (a + m), 0, 11)
  else (sum_Of.f 50000 (s.extract 0 (a + m))).bind fun u => (sum_Bytes.f 50000 u).bind fun b =>
   if (b.toList == (s.extract (a + m) (a + m + 4)).toList) = true then some (kd, fl, s.extract a (a + m), (a : Int) + (m : Int) + 4, 0)
   else some (kd, fl, s.extract a (a + m), 0, 11) := by
  unfold goF
  rw [hr, Option.bind_some]
  dsimp only
  rw [if_neg (by simp), if_neg c1, if_neg c3, Int.toNat_natCast, Int.toNat_natCast]
 rw [hg, right_dec, Option.bind_some]
 by_cases c4 : may v kd fl (s.extract a (a + m)).size
 ·rw [decide_eq_true c4, if_neg (by decide), if_pos rfl, hsum, Option.bind_some, hbytes, Option.bind_some, if_pos b6, if_pos b4, Int.toNat_natCast, rsum, Option.bind_some, rbytes, Option.bind_some, w2, if_pos b7, if_pos b8, Int.toNat_natCast]
  by_cases c5 : (sB (s.extract 0 (a + m))).toList = (s.extract (a + m) (a + m + 4)).toList
  ·rw [if_pos (beq_iff_eq.mpr c5), if_pos c5]
   refine ⟨kd, fl, _, _, _, kd, fl, _, rfl, ?_, fun _ _ => ⟨rfl, rfl, rfl⟩⟩
   rw [show (a : Int) + (m : Int) + 4 = ((a + m + 4 : Nat) : Int) from by omega]
  ·rw [if_neg (fun h => c5 (beq_iff_eq.mp h)), if_neg c5]
   exact ⟨kd, fl, _, _, _, 0, 0, _, rfl, rfl, fun h => absurd h (by decide)⟩
 ·rw [decide_eq_false c4, if_pos rfl, if_neg (by decide)]
  exact ⟨kd, fl, _, _, _, 0, 0, _, rfl, rfl, fun h => absurd h (by decide)⟩
/-- A head that is whole: what the document's own answer says behind it. -/
theorem ref_whole (v : Int) (hv : v = 1 ∨ v = 2) (s : ByteArray) (hs : s.size ≤ 2000000) (hz1 : 1 ≤ s.size) (hl : bt s 0 = if v = 1 then 97 else 98) (kd fl : Int) (a m : Nat) (ha : a ≤ 200) (ha1 : 3 ≤ a) (hm2 : m ≤ 9007199254740992) (hr : readF v s = some (kd, fl, (a : Int), (m : Int), true)) (hk : v = 1 → kd = wrap64 (bt s 1) ∧ fl = 0) (hk2 : v = 2 → kd = wrap64 (bt s 2) ∧ fl = wrap64 (bt s 1)) (K : Nat) (hK : 50000 ≤ K) (_q : Bool) (m' : Int)
  (hsz : careenref06_size.f (K + 2) v s = some ((a : Int), m', false, decide ((m : Int) > 4000))) (hm' : m ≤ 4000 → m' = (m : Int)) :
  Alike (goF v s) (careenref06_one.j0 (K + 3) v s false) := by
 have b0 : (0 : Int) < (s.size : Int) := by omega
 have hne : ¬ (((bt s 0) == 97) != (v == 1)) = true := by
  rcases hv with e | e
  ·subst e; rw [hl]; decide
  ·subst e; rw [hl]; decide
 rw [careenref06_one.j0, if_neg (by decide), if_pos b0, if_neg hne, hsz, Option.bind_some]
 dsimp only
 by_cases c1 : (m : Int) > 4000
 ·rw [if_pos (decide_eq_true c1)]
  refine ⟨kd, fl, ⟨#[]⟩, 0, 11, 0, 0, ⟨#[]⟩, ?_, rfl, fun h => absurd h (by decide)⟩
  unfold goF
  rw [hr, Option.bind_some]
  dsimp only
  rw [if_neg (by simp), if_pos c1]
 ·have hm : m ≤ 4000 := by omega
  rw [if_neg (by rw [decide_eq_false c1]; decide), if_neg (by decide), hm' hm]
  have w1 : wrap64 ((wrap64 ((a : Int) + (m : Int))) + 4) = (a : Int) + (m : Int) + 4 := by rw [wrap64_id (n := (a : Int) + (m : Int)) (by omega) (by omega), wrap64_id (by omega) (by omega)]
  rw [w1]
  by_cases c2 : s.size < a + m + 4
  ·rw [decide_eq_true (by omega), careenref06_one.j1, if_pos rfl]
   exact ⟨kd, fl, _, _, _, 0, 0, _, goF_short v s kd fl a m hm hr c2, rfl, fun _ h => absurd rfl h⟩
  ·rw [decide_eq_false (by omega)]
   exact ref_rest v hv s hs kd fl a m ha ha1 hm hr hk hk2 (by omega) K hK
theorem ref_cut (v : Int) (hv : v = 1 ∨ v = 2) (s : ByteArray) (hz1 : 1 ≤ s.size) (hl : bt s 0 = if v = 1 then 97 else 98) (kd fl a m : Int) (hr : readF v s = some (kd, fl, a, m, false)) (K : Nat) (hsz : careenref06_size.f (K + 2) v s = some (0, 0, true, false)) :
  Alike (goF v s) (careenref06_one.j0 (K + 3) v s false) := by
 have b0 : (0 : Int) < (s.size : Int) := by omega
 have hne : ¬ (((bt s 0) == 97) != (v == 1)) = true := by
  rcases hv with e | e
  ·subst e; rw [hl]; decide
  ·subst e; rw [hl]; decide
 rw [careenref06_one.j0, if_neg (by decide), if_pos b0, if_neg hne, hsz, Option.bind_some]
 dsimp only
 rw [if_neg (by decide), if_pos rfl, careenref06_one.j1, if_pos rfl]
 exact ⟨kd, fl, _, _, _, 0, 0, _, goF_cut v s _ _ _ _ hr, rfl, fun _ h => absurd rfl h⟩
theorem wb (s : ByteArray) (i : Nat) : wrap64 (bt s (i : Int)) = (((bl s).getD i 0 : Nat) : Int) := by
 have := byte_of s i
 rw [bt_bl s i, wrap64_id (by omega) (by omega)]
theorem ref_go_one (s : ByteArray) (hs : s.size ≤ 2000000) (hz1 : 1 ≤ s.size) (hl : bt s 0 = 97) (K : Nat) (hK : 50000 ≤ K) : Alike (goF 1 s) (careenref06_one.j0 (K + 3) 1 s false) := by
 by_cases c : s.size < 4
 ·refine ref_cut 1 (.inl rfl) s hz1 hl _ _ _ _ (read_one_no s c) K ?_
  unfold careenref06_size.f
  rw [if_pos rfl, if_pos (by omega)]
 ·have w1 := wb s 1
  have w2 := wb s 2
  have w3 := wb s 3
  have b2 := byte_of s 2
  have b3 := byte_of s 3
  refine ref_whole 1 (.inl rfl) s hs hz1 hl _ _ 4 ((bl s).getD 2 0 * 256 + (bl s).getD 3 0) (by decide) (by decide) (by omega) (read_one s (by omega)) (fun _ => ⟨w1.symm, rfl⟩) (fun h => absurd h (by decide)) K hK true (((bl s).getD 2 0 * 256 + (bl s).getD 3 0 : Nat) : Int) ?_ (fun _ => rfl)
  have e : wrap64 (wrap64 (wrap64 (bt s 2) * 256) + wrap64 (bt s 3)) = (((bl s).getD 2 0 * 256 + (bl s).getD 3 0 : Nat) : Int) := by
   have w2' : wrap64 (bt s 2) = (((bl s).getD 2 0 : Nat) : Int) := w2
   have w3' : wrap64 (bt s 3) = (((bl s).getD 3 0 : Nat) : Int) := w3
   rw [w2', w3']
   generalize (bl s).getD 2 0 = x at b2 ⊢
   generalize (bl s).getD 3 0 = y at b3 ⊢
   rw [wrap64_id (n := (x : Int) * 256) (by omega) (by omega), wrap64_id (by omega) (by omega)]
   omega
  unfold careenref06_size.f
  rw [if_pos rfl, if_neg (by omega), if_pos (by omega), if_pos (by omega), e]
  rfl
theorem ref_go_two (s : ByteArray) (hs : s.size ≤ 2000000) (hz1 : 1 ≤ s.size) (hl : bt s 0 = 98) (K : Nat) (hK : 50000 ≤ K) : Alike (goF 2 s) (careenref06_one.j0 (K + 3) 2 s false) := by
 by_cases c : s.size < 3
 ·refine ref_cut 2 (.inr rfl) s hz1 hl _ _ _ _ (read_two_no s (.inl c)) K ?_
  unfold careenref06_size.f
  rw [if_neg (by decide), if_pos (by omega)]
 ·obtain ⟨m, hm⟩ : ∃ m, K + 2 = m + 20 := ⟨K - 18, by omega⟩
  have hx : (s.extract 3 s.size).size ≤ 9223372036854775807 := by rw [drop_size]; omega
  have ht := ref_take (s.extract 3 s.size) hx m
  rw [← hm, bl_drop] at ht
  have w1 : wrap64 (bt s 1) = (((bl s).getD 1 0 : Nat) : Int) := wb s 1
  have w2 : wrap64 (bt s 2) = (((bl s).getD 2 0 : Nat) : Int) := wb s 2
  have hsz : ∀ n k e, takeP ((bl s).drop 3) = (n, k, e) → careenref06_size.f (K + 2) 2 s = if e = 10 then some (0, 0, true, false) else if e = 0 then some (wrap64 (3 + k), n, false, decide (n > 4000)) else some (wrap64 (3 + k), n, false, true) := by
   intro n k e h
   unfold careenref06_size.f
   rw [if_neg (by decide), if_neg (by omega), if_pos (by omega), ht, h, Option.bind_some]
  rcases put_take ((bl s).drop 3) (fun x hx => bl_lt s x (List.mem_of_mem_drop hx)) with ⟨n, k, e, hn, hk1, hk2, hd⟩ | ⟨e, _⟩ | e
  ·have hk8 : k ≤ 8 := by
    have h1 := dg_len 7 n (by omega)
    have h2 := congrArg List.length hd
    rw [List.length_take, Nat.min_eq_left hk2] at h2
    omega
   refine ref_whole 2 (.inr rfl) s hs hz1 hl _ _ (3 + k) n (by omega) (by omega) hn (read_two s (by omega) n k (by omega) hn e) (fun h => absurd h (by decide)) (fun _ => ⟨w2.symm, w1.symm⟩) K hK true (n : Int) ?_ (fun _ => rfl)
   rw [hsz _ _ _ e, if_neg (by decide), if_pos rfl, wrap64_id (by omega) (by omega), show (3 : Int) + (k : Int) = ((3 + k : Nat) : Int) from by omega]
  ·refine ref_cut 2 (.inr rfl) s hz1 hl _ _ _ _ (read_two_no s (.inr e)) K ?_
   rw [hsz _ _ _ e, if_pos rfl]
  ·have hr : readF 2 s = some (bt s 2, bt s 1, ((3 : Nat) : Int), ((4001 : Nat) : Int), true) := by
    unfold readF
    rw [if_neg (by decide), if_neg (by omega), take_eq (s.extract 3 s.size) 180, bl_drop, e, Option.bind_some]
    rfl
   have v1 : bt s 1 = (((bl s).getD 1 0 : Nat) : Int) := bt_bl s 1
   have v2 : bt s 2 = (((bl s).getD 2 0 : Nat) : Int) := bt_bl s 2
   refine ref_whole 2 (.inr rfl) s hs hz1 hl _ _ 3 4001 (by decide) (by decide) (by decide) hr (fun h => absurd h (by decide)) (fun _ => ⟨v2.trans w2.symm, v1.trans w1.symm⟩) K hK true 0 ?_ (fun h => absurd h (by decide))
   rw [hsz _ _ _ e, if_neg (by decide), if_neg (by decide), wrap64_id (by omega) (by omega)]
   rfl
theorem ref_take_one (v : Int) (hv : v = 1 ∨ v = 2) (s : ByteArray) (hs : s.size ≤ 2000000) (hz1 : 1 ≤ s.size) (K : Nat) (hK : 50000 ≤ K) : Alike (frame_take.f v s) (careenref06_one.f (K + 3) v s) := by
 have hne : ¬ s.size = 0 := by omega
 have b0 : (0 : Int) < (s.size : Int) := by omega
 unfold frame_take.f careenref06_one.f
 rw [if_neg hne, if_pos b0]
 have other : ∀ (x : Int), ((x == 97) != (v == 1)) = true → bt s 0 = x → careenref06_one.j0 (K + 3) v s false = some (0, 0, ⟨#[]⟩, 0, 22) := by
  intro x hx e
  rw [careenref06_one.j0, if_neg (by decide), if_pos b0, e, if_pos hx]
 rcases hv with e | e
 ·subst e
  rw [if_pos rfl]
  by_cases c : bt s 0 = 97
  ·rw [if_pos c, if_pos c]
   exact ref_go_one s hs hz1 c K hK
  ·rw [if_neg c, if_neg c]
   by_cases c2 : bt s 0 = 98
   ·rw [if_pos c2, bne_eq_false_iff_eq.mpr c2, other 98 (by decide) c2]
    exact ⟨_, _, _, _, _, _, _, _, rfl, rfl, fun h => absurd h (by decide)⟩
   ·rw [if_neg c2, bne_iff_ne.mpr c2, careenref06_one.j0, if_pos rfl]
    exact ⟨_, _, _, _, _, _, _, _, rfl, rfl, fun h => absurd h (by decide)⟩
 ·subst e
  rw [if_neg (show ¬ (2 : Int) = 1 by decide), if_pos rfl]
  by_cases c : bt s 0 = 98
  ·rw [if_pos c, if_neg (by rw [c]; decide), bne_eq_false_iff_eq.mpr c]
   exact ref_go_two s hs hz1 c K hK
  ·rw [if_neg c]
   by_cases c2 : bt s 0 = 97
   ·rw [if_pos c2, if_pos c2, other 97 (by decide) c2]
    exact ⟨_, _, _, _, _, _, _, _, rfl, rfl, fun h => absurd h (by decide)⟩
   ·rw [if_neg c2, if_neg c2, bne_iff_ne.mpr c, careenref06_one.j0, if_pos rfl]
    exact ⟨_, _, _, _, _, _, _, _, rfl, rfl, fun h => absurd h (by decide)⟩
/-- One round of the document's own scan, where a whole frame stands. -/
theorem ref_step (v : Int) (s : ByteArray) (hs : s.size ≤ 2000000) (at_ k : Nat) (out : List S23) (ho : out.length < 4398046511104) (ha : at_ < s.size) (kd fl : Int) (d : ByteArray) (n : Nat) (hn : at_ + n ≤ s.size) (h0 : n ≠ 0) (ht : careenref06_one.f k v (s.extract at_ s.size) = some (kd, fl, d, (n : Int), 0)) :
  careenref06_Scan.l0 (k + 1) v s out (at_ : Int) = careenref06_Scan.l0 k v s (out ++ [⟨kd, fl, d⟩]) ((at_ + n : Nat) : Int) := by
 have b1 : (at_ : Int) < (s.size : Int) := by omega
 have b2 : (0 : Int) ≤ (at_ : Int) := by omega
 have b3 : (at_ : Int) ≤ (s.size : Int) := by omega
 have b4 : ¬ (n : Int) = 0 := by omega
 have ew : wrap64 ((at_ : Int) + (n : Int)) = ((at_ + n : Nat) : Int) := by rw [wrap64_id (by omega) (by omega)]; omega
 rw [careenref06_Scan.l0, if_pos b1, if_pos b2, if_pos b3, Int.toNat_natCast, ht, Option.bind_some]
 dsimp only
 rw [if_pos (show (0 : Int) = 0 from rfl), if_neg b4, if_pos ho, ew]
theorem ref_stop (v : Int) (s : ByteArray) (at_ k : Nat) (out : List S23) (ha : at_ < s.size) (kd fl : Int) (d : ByteArray) (e : Int) (ht : careenref06_one.f k v (s.extract at_ s.size) = some (kd, fl, d, 0, e)) :
  careenref06_Scan.l0 (k + 1) v s out (at_ : Int) = some (out, (at_ : Int), e) := by
 have b1 : (at_ : Int) < (s.size : Int) := by omega
 have b2 : (0 : Int) ≤ (at_ : Int) := by omega
 have b3 : (at_ : Int) ≤ (s.size : Int) := by omega
 rw [careenref06_Scan.l0, if_pos b1, if_pos b2, if_pos b3, Int.toNat_natCast, ht, Option.bind_some]
 dsimp only
 by_cases c : e = 0
 ·rw [if_pos c, if_pos (show (0 : Int) = 0 from rfl), c]
 ·rw [if_neg c]
theorem ref_scan_loop (v : Int) (hv : v = 1 ∨ v = 2) (s : ByteArray) (hs : s.size ≤ 2000000) : ∀ (d at_ k : Nat) (out : List S23), at_ + d = s.size → d + 50100 < k → 8 * out.length ≤ at_ →
  careenref06_Scan.l0 k v s out (at_ : Int) = frame_Scan.l0 k v s out (at_ : Int) := by
 intro d
 induction d using Nat.strongRecOn with
 | ind d ih =>
  intro at_ k out had hk hlen
  obtain ⟨k, rfl⟩ : ∃ m, k = m + 1 := ⟨k - 1, by omega⟩
  by_cases c : at_ < s.size
  ·have hz := drop_size s at_
   have h1 : 1 ≤ (s.extract at_ s.size).size := by rw [hz]; omega
   have h2 : (s.extract at_ s.size).size ≤ 2000000 := by rw [hz]; omega
   clear hz
   obtain ⟨kd, fl, dd, n, e, ht, h⟩ := take_ends v hv (s.extract at_ s.size) h1
   obtain ⟨j, hj⟩ : ∃ j, k = j + 3 := ⟨k - 3, by omega⟩
   obtain ⟨x1, x2, x3, x4, x5, x6, x7, x8, g1, g2, g3⟩ := ref_take_one v hv (s.extract at_ s.size) h2 h1 j (by omega)
   rw [← hj] at g2
   rw [ht] at g1
   simp only [Option.some.injEq, Prod.mk.injEq] at g1
   obtain ⟨rfl, rfl, rfl, rfl, rfl⟩ := g1
   rcases h with ⟨_, rfl⟩ | ⟨_, rfl⟩ | ⟨rfl, hw1, rfl, hw3⟩
   ·rw [scan_stop v s at_ k out c kd fl dd e ht, ref_stop v s at_ k out c _ _ _ e g2]
   ·rw [scan_stop v s at_ k out c kd fl dd e ht, ref_stop v s at_ k out c _ _ _ e g2]
   ·have hp := encB_pos v _ hw1
    rw [bl_drop] at hw3
    have hl := congrArg List.length hw3
    rw [List.length_append, bl_len, List.length_drop, List.length_drop, bl_len] at hl
    generalize hE : encB v ⟨kd, fl, dd⟩ = E at *
    obtain ⟨rfl, rfl, rfl⟩ := g3 rfl (by omega)
    rw [scan_step v s (by omega) at_ k out (by omega) c _ _ _ E.size (by omega) (by omega) ht, ref_step v s hs at_ k out (by omega) c _ _ _ E.size (by omega) (by omega) g2]
    exact ih (d - E.size) (by omega) (at_ + E.size) k _ (by omega) (by omega) (by rw [List.length_append]; simp; omega)
  ·have b : ¬ (at_ : Int) < (s.size : Int) := by omega
   rw [careenref06_Scan.l0, if_neg b, frame_Scan.l0, if_neg b]
/-- Both scan any text alike, by any version. -/
theorem ref_scan (v : Int) (s : ByteArray) (hs : s.size ≤ 2000000) (K : Nat) (hK : 2100000 ≤ K) : ∃ L n e, frame_Scan.f K v s = some (L, n, e) ∧ careenref06_Scan.f K v s = some (L, n, e) ∧ L.length ≤ 250000 := by
 by_cases hv : v = 1 ∨ v = 2
 ·obtain ⟨k, rfl⟩ : ∃ m, K = m + 1 := ⟨K - 1, by omega⟩
  obtain ⟨L, n, e, h1, h2, h3, h4, h5⟩ := scan_text v hv s hs k (by omega)
  have hm := at_rounds (g := fun k => frame_Scan.f k v s) (fun k => frame_Scan.mono v s k) (k := k) (k' := k + 1) (by omega) h1
  refine ⟨L, _, e, hm, ?_, by omega⟩
  have hl := ref_scan_loop v hv s hs s.size 0 k [] (by omega) (by omega) (Nat.zero_le _)
  rw [scan_v v hv] at h1
  have h0 : careenref06_Scan.l0 k v s [] 0 = some (L, ((n : Nat) : Int), e) := hl.trans h1
  unfold careenref06_Scan.f
  rcases hv with e1 | e1
  ·rw [if_pos e1, careenref06_Scan.j0, if_neg (by decide), h0]
  ·subst e1
   rw [if_neg (by decide), careenref06_Scan.j0, if_neg (by decide), h0]
 ·have n1 : ¬ v = 1 := fun h => hv (.inl h)
  have n2 : ¬ v = 2 := fun h => hv (.inr h)
  obtain ⟨k, rfl⟩ : ∃ m, K = m + 1 := ⟨K - 1, by omega⟩
  refine ⟨[], 0, 1, ?_, ?_, Nat.zero_le _⟩
  ·unfold frame_Scan.f
   rw [if_neg n1, if_neg n2]
  ·unfold careenref06_Scan.f
   rw [if_neg n1, careenref06_Scan.j0, if_pos (bne_iff_ne.mpr n2)]
end Go.Proofs.Ytmicfaeloanffaa.Frs
