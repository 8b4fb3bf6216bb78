/- The reference's Take answers as the plain law says. -/
import Derived.Test.YtmicfaeloanffaaVars
import Derived.Test.YtmicfaeloanffaaPAllx7
namespace Go.Proofs.Ytmicfaeloanffaa.Vars
open Go.RowKit Go.Proofs.YtmicfaeloanffaaW.PrintWords Go.Proofs.YtmicfaeloanffaaW.PrintLast Go.Proofs.YtmicfaeloanffaaW.PrintMore Go.Proofs.Ytmicfaeloanffaa.PAll Go.Proofs.Ytmicfaeloanffaa.Base Go.Proofs.Ytmicfaeloanffaa.Vari Go.Proofs.Ytmicfaeloanffaa.HandPut

theorem stepNum (A B P : Nat) (hA : A < P) (hP : P ≤ 562949953421312) (hB : B < 256) :
  wrap64 ((A : Int) + wrap64 (Int.tmod (wrap64 (B : Int)) 128 * (P : Int))) = ((A + B % 128 * P : Nat) : Int) ∧ wrap64 ((P : Int) * 128) = ((P * 128 : Nat) : Int) := by
 have hmul : B % 128 * P ≤ 127 * 562949953421312 := Nat.mul_le_mul (by omega) hP
 have e1 : Int.tmod (wrap64 (B : Int)) 128 = ((B % 128 : Nat) : Int) := by
  rw [wrap64_id (by omega) (by omega), Int.tmod_eq_emod_of_nonneg (by omega)]; omega
 rw [e1, ← Int.natCast_mul]
 generalize B % 128 * P = M at *
 refine ⟨?_, ?_⟩
 ·rw [wrap64_id (n := (M : Int)) (by omega) (by omega), wrap64_id (by omega) (by omega)]; omega
 ·rw [wrap64_id (by omega) (by omega)]; omega
/-- One byte more. -/
theorem fin_byte (S : List Nat) (i V B x5 : Nat) (hV : val (S.take (i + 1)) = V) (hB : S.getD i 0 = B) (hx : x5 = i + 1) :
  (if (V : Int) > 9007199254740992 then some ((0 : Int), (0 : Int), (11 : Int)) else (if (i : Int) > 0 then (if (B : Int) = 0 then some (0, 0, 11) else some ((V : Int), (x5 : Int), 0)) else some ((V : Int), (x5 : Int), 0))) = some (takeN S (i + 1)) := by
 unfold takeN
 rw [if_neg (show ¬ i + 1 = 0 by omega), show i + 1 - 1 = i from rfl, hV, hB, hx]
 clear hV hB
 by_cases w : 9007199254740992 < V
 ·rw [if_pos (show (V : Int) > 9007199254740992 by omega), if_pos w]
  split <;> rfl
 ·rw [if_neg (show ¬ (V : Int) > 9007199254740992 by omega), if_neg w]
  by_cases u : i > 0
  ·rw [if_pos (show (i : Int) > 0 by omega)]
   by_cases z : B = 0
   ·rw [if_pos (show (B : Int) = 0 by omega), if_pos (show 1 < i + 1 ∧ B = 0 from ⟨by omega, z⟩)]
   ·rw [if_neg (show ¬ (B : Int) = 0 by omega), if_neg (show ¬ (1 < i + 1 ∧ B = 0) from fun h => z h.2)]
  ·rw [if_neg (show ¬ (i : Int) > 0 by omega), if_neg (show ¬ (1 < i + 1 ∧ B = 0) from fun h => u (by omega))]
theorem ref_take_loop (s : ByteArray) (hs : s.size ≤ 9223372036854775807) : ∀ (d i : Nat) (k : Nat), i + d = 8 → i ≤ s.size →
  careenref01_Take.l0 (k + 2 * d + 2) s ((val ((bl s).take i) : Nat) : Int) ((128 ^ i : Nat) : Int) (i : Int) =
   some (takeN (bl s) (if scan d ((bl s).drop i) = 0 then 0 else i + scan d ((bl s).drop i))) := by
 intro d
 induction d with
 | zero =>
  intro i k hi hz
  obtain rfl : i = 8 := by omega
  have fin : careenref01_Take.j1 (k + 2 * 0 + 1) s ((val ((bl s).take 8) : Nat) : Int) ((128 ^ 8 : Nat) : Int) (8 : Nat) false = some (takeN (bl s) 0) := by
   rw [careenref01_Take.j1, if_neg (by decide), if_pos (by omega)]
   unfold takeN
   rw [if_pos rfl, if_neg (by rw [bl_len]; omega)]
  rw [careenref01_Take.l0, show scan 0 ((bl s).drop 8) = 0 from rfl, if_pos rfl]
  split
  ·rw [decide_eq_false (by omega)]; exact fin
  ·exact fin
 | succ d ih =>
  intro i k hi hz
  rw [careenref01_Take.l0]
  by_cases g : i < s.size
  ·have hlt : i < (bl s).length := by rw [bl_len]; exact g
   have hb : (bl s).getD i 0 < 256 := by
    rw [List.getD_eq_getElem?_getD]
    cases h : (bl s)[i]? with
    | none => simp
    | some u => exact bl_lt s u (List.mem_of_getElem? h)
   have hv := val_lt ((bl s).take i)
   rw [List.length_take, Nat.min_eq_left (by omega)] at hv
   have hp : 128 ^ i ≤ 562949953421312 := Nat.le_trans (Nat.pow_le_pow_right (by decide) (show i ≤ 7 by omega)) (by decide)
   have htk : (bl s).take (i + 1) = (bl s).take i ++ [(bl s).getD i 0] := by
    rw [List.take_add_one, List.getD_eq_getElem?_getD, List.getElem?_eq_getElem hlt]; rfl
   have hva : val ((bl s).take (i + 1)) = val ((bl s).take i) + (bl s).getD i 0 % 128 * 128 ^ i := by
    rw [htk, val_append, List.length_take, Nat.min_eq_left (by omega)]
   obtain ⟨e3, e4⟩ := stepNum _ _ _ hv hp hb
   rw [← hva] at e3
   rw [← Nat.pow_succ] at e4
   have e5 : wrap64 ((i : Int) + 1) = ((i + 1 : Nat) : Int) := by clear e3 e4 hva htk hv hp ih hb; rw [wrap64_id (by omega) (by omega)]; omega
   have d1 : (i : Int) < (s.size : Int) := by clear e3 e4 hva htk hv hp ih hb; omega
   have d2 : (i : Int) < 8 := by clear e3 e4 hva htk hv hp ih hb; omega
   rw [if_pos d1, decide_eq_true d2, careenref01_Take.j1, if_pos rfl, if_pos (Int.natCast_nonneg i), if_pos d1, bt_bl, e3, e4, e5, drop_cons (bl s) i hlt, scan]
   have hi2 : i + 1 + d = 8 := by clear e3 e4 hva htk hv hp ih hb; omega
   have hi3 : i + 1 ≤ s.size := g
   have := ih (i + 1) k hi2 hi3
   clear e3 e4 hva htk hv hp ih
   rw [show k + 2 * (d + 1) = k + 2 * d + 2 from rfl]
   generalize hBv : (bl s).getD i 0 = B at *
   by_cases q : B < 128
   ·rw [if_neg (show ¬ ((B : Nat) : Int) ≥ 128 by clear this hBv; omega), if_pos q, if_neg (show ¬ (1 : Nat) = 0 by decide)]
    exact fin_byte (bl s) i _ B (i + 1) rfl hBv rfl
   ·rw [if_pos (show ((B : Nat) : Int) ≥ 128 by clear this hBv; omega), if_neg q, this]
    congr 2
    clear this hBv
    generalize scan d ((bl s).drop (i + 1)) = c
    by_cases r : c = 0
    ·rw [if_pos r, if_pos r, if_pos rfl]
    ·rw [if_neg r, if_neg r, if_neg (by omega)]; omega
  ·have e : scan (d + 1) ((bl s).drop i) = 0 := by rw [List.drop_of_length_le (by rw [bl_len]; omega)]; rfl
   rw [if_neg (by omega), careenref01_Take.j1, if_neg (by decide), e, if_pos rfl, if_neg (by omega)]
   unfold takeN
   rw [if_pos rfl, if_pos (by rw [bl_len]; omega)]
theorem ref_take (s : ByteArray) (hs : s.size ≤ 9223372036854775807) (k : Nat) : careenref01_Take.f (k + 20) s = some (takeP (bl s)) := by
 unfold careenref01_Take.f takeP
 have := ref_take_loop s hs 8 0 (k + 2) (by omega) (by omega)
 rw [List.drop_zero, Nat.zero_add] at this
 have this2 : careenref01_Take.l0 (k + 20) s 0 1 0 = _ := this
 rw [this2]
 by_cases g : scan 8 (bl s) = 0
 ·rw [if_pos g, g]
 ·rw [if_neg g]
end Go.Proofs.Ytmicfaeloanffaa.Vars
