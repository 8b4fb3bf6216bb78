/- Frames one behind the other: what the printed functions answer at their bytes. -/
import Derived.Test.YtmicfaeloanffaaFrs
import Derived.Test.YtmicfaeloanffaaRaws
namespace Go.Proofs.Ytmicfaeloanffaa.Frs
open Go.RowKit Go.Proofs.YtmicfaeloanffaaW.PrintWords Go.Proofs.YtmicfaeloanffaaW.PrintLast Go.Proofs.YtmicfaeloanffaaW.PrintMore Go.Proofs.Ytmicfaeloanffaa.PAll Go.Proofs.Ytmicfaeloanffaa.Base Go.Proofs.Ytmicfaeloanffaa.Crc Go.Proofs.Ytmicfaeloanffaa.Sums Go.Proofs.Ytmicfaeloanffaa.Vari Go.Proofs.Ytmicfaeloanffaa.Vars Go.Proofs.Ytmicfaeloanffaa.HandPut
theorem bl_hB1 (f : S23) (h : Okay 1 f) : bl (hB 1 f) = [97, f.f0.toNat, f.f2.size / 256, f.f2.size % 256] := by
 obtain ⟨_, h2, h3, _, _, h6, _⟩ := h
 unfold hB
 rw [if_pos rfl, bl_str]
 have e1 : (f.f0 % 256).toNat % 256 = f.f0.toNat := by omega
 have e2 : ((f.f2.size : Int) / 256 % 256).toNat % 256 = f.f2.size / 256 := by omega
 have e3 : ((f.f2.size : Int) % 256).toNat % 256 = f.f2.size % 256 := by omega
 simp only [List.map_cons, List.map_nil, e1, e2, e3]
 rfl
theorem bl_hB2 (f : S23) (h : Okay 2 f) : bl (hB 2 f) = [98, f.f1.toNat, f.f0.toNat] ++ dg f.f2.size := by
 obtain ⟨_, h2, h3, h4, h5, h6, _⟩ := h
 unfold hB
 rw [if_neg (by decide), bl_append, bl_str, bl_num]
 have e1 : (f.f0 % 256).toNat % 256 = f.f0.toNat := by omega
 have e2 : (f.f1 % 256).toNat % 256 = f.f1.toNat := by omega
 simp only [List.map_cons, List.map_nil, e1, e2]
 rfl
theorem list_mid {A D X : List Nat} {a m : Nat} (hA : A.length = a) (hD : D.length = m) : ((A ++ D ++ X).take (a + m)).drop a = D := by
 rw [List.take_left' (by rw [List.length_append]; omega), List.drop_left' hA]
theorem list_end {A S X : List Nat} {a : Nat} (hA : A.length = a) (hS : S.length = 4) : ((A ++ S ++ X).take (a + 4)).drop a = S := list_mid hA hS
theorem bl_encB (v : Int) (f : S23) : bl (encB v f) = bl (hB v f) ++ bl f.f2 ++ bl (sB (hB v f ++ f.f2)) := by
 unfold encB
 rw [bl_append, bl_append]
/-- What stands ahead and the data of a frame, where a text begins with it. -/
theorem parts (v : Int) (f : S23) (s : ByteArray) (R : List Nat) (hs : bl s = bl (encB v f) ++ R) :
  s.extract (hB v f).size ((hB v f).size + f.f2.size) = f.f2 ∧ s.extract 0 ((hB v f).size + f.f2.size) = hB v f ++ f.f2 ∧ s.extract ((hB v f).size + f.f2.size) ((hB v f).size + f.f2.size + 4) = sB (hB v f ++ f.f2) ∧ (hB v f).size + f.f2.size + 4 ≤ s.size := by
 have e : bl s = bl (hB v f) ++ bl f.f2 ++ (bl (sB (hB v f ++ f.f2)) ++ R) := by rw [hs, bl_encB, List.append_assoc, List.append_assoc]
 refine ⟨?_, ?_, ?_, ?_⟩
 ·apply bl_inj
  rw [bl_extract, e, list_mid (bl_len _) (bl_len _)]
 ·apply bl_inj
  rw [bl_extract, e, bl_append, List.drop_zero, List.take_left' (by rw [List.length_append, bl_len, bl_len])]
 ·apply bl_inj
  rw [bl_extract, e, ← List.append_assoc, list_end (by rw [List.length_append, bl_len, bl_len]) (by rw [bl_len, sB_size])]
 ·have := congrArg List.length e
  rw [List.length_append, List.length_append, List.length_append, bl_len, bl_len, bl_len, bl_len, sB_size] at this
  omega
theorem encB_pos (v : Int) (f : S23) (h : Okay v f) : 8 ≤ (encB v f).size := by
 have := hB_size v f h.2.2.2.2.2.1
 rw [encB_size]; omega
theorem bt_zero (s : ByteArray) : bt s 0 = (((bl s).getD 0 0 : Nat) : Int) := bt_bl s 0
/-- Frames' bytes, one behind the other. -/
def catL (v : Int) : List S23 → List Nat
 | [] => []
 | f :: L => bl (encB v f) ++ catL v L
theorem catL_append (v : Int) (L M : List S23) : catL v (L ++ M) = catL v L ++ catL v M := by
 induction L with
 | nil => rfl
 | cons f L ih => rw [List.cons_append, catL, catL, ih, List.append_assoc]
theorem scan_v (v : Int) (hv : v = 1 ∨ v = 2) (s : ByteArray) (k : Nat) : frame_Scan.f k v s = frame_Scan.l0 k v s [] 0 := by
 unfold frame_Scan.f
 rcases hv with e | e
 ·rw [if_pos e]
 ·subst e; rw [if_neg (by decide), if_pos rfl]
/-- Frames one behind the other, as the law's own function lays them. -/
def cat (v : Int) : List S23 → ByteArray
 | [] => ⟨#[]⟩
 | f :: L => encB v f ++ cat v L
theorem bl_cat (v : Int) (L : List S23) : bl (cat v L) = catL v L := by
 induction L with
 | nil => unfold cat catL bl; rw [tl_nil]; rfl
 | cons f L ih => rw [cat, catL, bl_append, ih]
end Go.Proofs.Ytmicfaeloanffaa.Frs
