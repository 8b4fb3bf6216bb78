/- Frames in plain words: what a frame's bytes are, and what the printed functions answer at them. -/
import Derived.Test.YtmicfaeloanffaaBase
import Derived.Test.YtmicfaeloanffaaSums
import Derived.Test.YtmicfaeloanffaaVars
import Derived.Test.YtmicfaeloanffaaPAllx3
import Derived.Test.YtmicfaeloanffaaPAllx4
import Derived.Test.YtmicfaeloanffaaPAllx5
namespace Go.Proofs.Ytmicfaeloanffaa.Frs
open Go.RowKit Go.Proofs.YtmicfaeloanffaaW.PrintWords Go.Proofs.YtmicfaeloanffaaW.PrintLast Go.Proofs.YtmicfaeloanffaaW.PrintMore Go.Proofs.Ytmicfaeloanffaa.PAll Go.Proofs.Ytmicfaeloanffaa.Base Go.Proofs.Ytmicfaeloanffaa.Crc Go.Proofs.Ytmicfaeloanffaa.Sums Go.Proofs.Ytmicfaeloanffaa.Vari Go.Proofs.Ytmicfaeloanffaa.Vars Go.Proofs.Ytmicfaeloanffaa.HandPut
theorem bl_extract (s : ByteArray) (i j : Nat) : bl (s.extract i j) = ((bl s).take j).drop i := by
  unfold bl
  rw [tl_extract, List.map_drop, List.map_take]
theorem bl_str (xs : List Int) : bl (strOfNums xs) = xs.map fun n => n.toNat % 256 := by
  unfold bl
  rw [tl_nums, List.map_map]
  apply List.map_congr_left
  intro n _
  simp
/-- A text's sum, as bytes. -/
def sB (t : ByteArray) : ByteArray := ⟨(bytes4 (sum t.toList)).toArray⟩
theorem sB_tl (t : ByteArray) : (sB t).toList = bytes4 (sum t.toList) := tl_mk _
theorem sB_size (t : ByteArray) : (sB t).size = 4 := by rw [tl_size, sB_tl]; rfl
theorem sum_eq (t : ByteArray) (ht : t.size ≤ 4900) : sum_Of.f 50000 t = some ((sum t.toList : Nat) : Int) := of_tells t (by omega) 50000 (by omega)
theorem bytes_eq (t : ByteArray) : sum_Bytes.f 50000 ((sum t.toList : Nat) : Int) = some (sB t) := by
  have hl := sum_lt t.toList
  obtain ⟨b, hb, he⟩ := bytes_tells ((sum t.toList : Nat) : Int) (by omega) (by omega) 50000 (by decide)
  rw [hb]
  rw [Int.toNat_natCast] at he
  rw [tl_inj (he.trans (sB_tl t).symm)]
theorem right_eq (v k g : Int) (d : ByteArray) (h : may v k g d.size) : frame_Right.f v k g d = some true := by
  unfold frame_Right.f
  rw [decide_eq_true h]
/-- What stands ahead of a frame's data. -/
def hB (v : Int) (f : S23) : ByteArray := if v = 1 then strOfNums [97, f.f0 % 256, (f.f2.size : Int) / 256 % 256, (f.f2.size : Int) % 256] else strOfNums [98, f.f1 % 256, f.f0 % 256] ++ num f.f2.size
/-- A frame's bytes. -/
def encB (v : Int) (f : S23) : ByteArray := hB v f ++ f.f2 ++ sB (hB v f ++ f.f2)
/-- A frame may be. -/
def Okay (v : Int) (f : S23) : Prop := may v f.f0 f.f1 f.f2.size
theorem num_small (n : Nat) (h : n ≤ 4000) : (num n).size ≤ 2 ∧ 1 ≤ (num n).size := by
  rw [num_size]
  have := dg_len_mono n 4000 h
  have e : (dg 4000).length = 2 := by
    rw [dg, dg]; rfl
  exact ⟨by omega, shape_pos (dg_shape n)⟩
theorem hB_size (v : Int) (f : S23) (h : f.f2.size ≤ 4000) : (hB v f).size ≤ 5 ∧ 4 ≤ (hB v f).size ∧ (v = 1 → (hB v f).size = 4) := by
  unfold hB
  have := num_small f.f2.size h
  by_cases e : v = 1
  · rw [if_pos e]
    have e4 : (strOfNums [97, f.f0 % 256, (f.f2.size : Int) / 256 % 256, (f.f2.size : Int) % 256]).size = 4 := rfl
    omega
  · rw [if_neg e, ByteArray.size_append]
    have e3 : (strOfNums [98, f.f1 % 256, f.f0 % 256]).size = 3 := rfl
    exact ⟨by omega, by omega, fun h => absurd h e⟩
theorem encB_size (v : Int) (f : S23) : (encB v f).size = (hB v f).size + f.f2.size + 4 := by
  unfold encB
  rw [ByteArray.size_append, ByteArray.size_append, sB_size]
theorem enc_eq (v : Int) (f : S23) (h : Okay v f) : frame_Encode.f v f.f0 f.f1 f.f2 = some (encB v f, 0) := by
  have hm := h
  obtain ⟨h1, h2, h3, h4, h5, h6, h7⟩ := h
  have hs := hB_size v f h6
  have hh : headF v f.f0 f.f1 f.f2 = some (hB v f) := by
    unfold headF hB
    by_cases e : v = 1
    · rw [if_pos e, if_pos e]
    · rw [if_neg e, if_neg e, put_ok f.f2.size (by omega), Option.bind_some, if_pos ⟨rfl, by have := num_small f.f2.size h6; show (num f.f2.size).size ≤ 100; omega⟩]
  unfold frame_Encode.f
  rw [right_eq v f.f0 f.f1 f.f2 hm, Option.bind_some, if_pos rfl, hh, Option.bind_some, sum_eq (hB v f ++ f.f2) (by rw [ByteArray.size_append]; omega), Option.bind_some, bytes_eq, Option.bind_some, if_pos (by rw [sB_size]; omega)]
  rfl
theorem goF_ok (v : Int) (s : ByteArray) (kd fl : Int) (a m : Nat) (ha : a ≤ 200) (hm : m ≤ 4000) (hr : readF v s = some (kd, fl, (a : Int), (m : Int), true)) (hsz : a + m + 4 ≤ s.size) (D T : ByteArray) (hD : s.extract a (a + m) = D) (hT : s.extract 0 (a + m) = T) (hS : s.extract (a + m) (a + m + 4) = sB T) (hmay : may v kd fl D.size) :
    goF v s = some (kd, fl, D, ((a + m + 4 : Nat) : Int), 0) := by
  have hTs : T.size ≤ 4900 := by rw [← hT, ByteArray.size_extract]; omega
  unfold goF
  rw [hr, Option.bind_some]
  dsimp only
  rw [if_neg (by simp), if_neg (by omega), if_neg (by omega), Int.toNat_natCast, Int.toNat_natCast, hD, right_eq v kd fl D hmay, Option.bind_some, if_neg (by simp), hT, sum_eq T hTs, Option.bind_some, bytes_eq, Option.bind_some, hS, if_pos (by simp)]
  rw [show (a : Int) + (m : Int) + 4 = ((a + m + 4 : Nat) : Int) from by omega]
theorem goF_short (v : Int) (s : ByteArray) (kd fl : Int) (a m : Nat) (hm : m ≤ 4000) (hr : readF v s = some (kd, fl, (a : Int), (m : Int), true)) (hsz : s.size < a + m + 4) : goF v s = some (kd, fl, ⟨#[]⟩, 0, 0) := by
  unfold goF
  rw [hr, Option.bind_some]
  dsimp only
  rw [if_neg (by simp), if_neg (by omega), if_pos (by omega)]
theorem goF_cut (v : Int) (s : ByteArray) (kd fl a m : Int) (hr : readF v s = some (kd, fl, a, m, false)) : goF v s = some (kd, fl, ⟨#[]⟩, 0, 0) := by
  unfold goF
  rw [hr, Option.bind_some]
  dsimp only
  rw [if_pos rfl]
theorem read_one (s : ByteArray) (h : 4 ≤ s.size) : readF 1 s = some ((((bl s).getD 1 0 : Nat) : Int), 0, ((4 : Nat) : Int), (((bl s).getD 2 0 * 256 + (bl s).getD 3 0 : Nat) : Int), true) := by
  have e1 : bt s 1 = (((bl s).getD 1 0 : Nat) : Int) := bt_bl s 1
  have e2 : bt s 2 = (((bl s).getD 2 0 : Nat) : Int) := bt_bl s 2
  have e3 : bt s 3 = (((bl s).getD 3 0 : Nat) : Int) := bt_bl s 3
  unfold readF
  rw [if_pos rfl, if_neg (by omega), e1, e2, e3, Int.natCast_add, Int.natCast_mul]
  rfl
theorem read_one_no (s : ByteArray) (h : s.size < 4) : readF 1 s = some (0, 0, 0, 0, false) := by
  unfold readF
  rw [if_pos rfl, if_pos (by omega)]
theorem read_two (s : ByteArray) (h : 3 ≤ s.size) (n k : Nat) (hk : k ≤ 100) (hn : n ≤ 9007199254740992) (ht : takeP ((bl s).drop 3) = ((n : Int), (k : Int), 0)) : readF 2 s = some ((((bl s).getD 2 0 : Nat) : Int), (((bl s).getD 1 0 : Nat) : Int), ((3 + k : Nat) : Int), (n : Int), true) := by
  have e1 : bt s 1 = (((bl s).getD 1 0 : Nat) : Int) := bt_bl s 1
  have e2 : bt s 2 = (((bl s).getD 2 0 : Nat) : Int) := bt_bl s 2
  unfold readF
  rw [if_neg (by decide), if_neg (by omega), take_eq (s.extract 3 s.size) 180, bl_drop, ht, Option.bind_some]
  dsimp only
  rw [if_neg (by decide), if_pos ⟨by omega, by omega, by omega, by omega⟩, if_pos rfl, e1, e2, show (3 : Int) + (k : Int) = ((3 + k : Nat) : Int) from by omega]
theorem read_two_no (s : ByteArray) (h : s.size < 3 ∨ takeP ((bl s).drop 3) = (0, 0, 10)) : readF 2 s = some (0, 0, 0, 0, false) := by
  unfold readF
  rw [if_neg (by decide)]
  by_cases c : (s.size : Int) < 3
  · rw [if_pos c]
  · rw [if_neg c]
    rcases h with h | h
    · omega
    · rw [take_eq (s.extract 3 s.size) 180, bl_drop, h, Option.bind_some]
      dsimp only
      rw [if_pos rfl]
end Go.Proofs.Ytmicfaeloanffaa.Frs
