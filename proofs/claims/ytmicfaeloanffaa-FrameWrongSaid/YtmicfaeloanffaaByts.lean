/- The law's own bytes of frames. -/
import Derived.Test.YtmicfaeloanffaaFrs2
import Derived.Test.YtmicfaeloanffaaPByt
namespace Go.Proofs.Ytmicfaeloanffaa.Frs
open Go.RowKit Go.Proofs.YtmicfaeloanffaaW.PrintWords Go.Proofs.YtmicfaeloanffaaW.PrintLast Go.Proofs.YtmicfaeloanffaaW.PrintMore Go.Proofs.Ytmicfaeloanffaa.PAll Go.Proofs.Ytmicfaeloanffaa.Base Go.Proofs.Ytmicfaeloanffaa.Crc Go.Proofs.Ytmicfaeloanffaa.Sums Go.Proofs.Ytmicfaeloanffaa.Vari Go.Proofs.Ytmicfaeloanffaa.Vars Go.Proofs.Ytmicfaeloanffaa.HandPut
theorem bytes_loop (v : Int) (x : List S23) (h : ∀ f ∈ x, Okay v f) (hx : x.length < 1000000) : ∀ (d i k : Nat) (acc : ByteArray), i + d = x.length → d < k → bl acc = catL v (x.take i) → careenlaw06_bytes.l0 k v x acc (i : Int) = some (cat v x, true) := by
  intro d
  induction d with
  | zero =>
    intro i k acc hi hk ha
    obtain ⟨k, rfl⟩ : ∃ m, k = m + 1 := ⟨k - 1, by omega⟩
    have e : acc = cat v x := by
      apply bl_inj
      rw [ha, bl_cat, List.take_of_length_le (by omega)]
    rw [careenlaw06_bytes.l0, if_neg (by omega), e]
  | succ d ih =>
    intro i k acc hi hk ha
    obtain ⟨k, rfl⟩ : ∃ m, k = m + 1 := ⟨k - 1, by omega⟩
    have hix : i < x.length := by omega
    have hf := h _ (List.getElem_mem hix)
    have hsz := encB_size v x[i]
    have hb := hB_size v x[i] hf.2.2.2.2.2.1
    have h6 : x[i].f2.size ≤ 4000 := hf.2.2.2.2.2.1
    have hac : acc.size ≤ 4100 * x.length := by
      rw [← bl_len, ha]
      have := catL_len v (x.take i) (fun g hg => h g (List.mem_of_mem_take hg))
      rw [List.length_take] at this
      omega
    have b1 : (i : Int) < (x.length : Int) := by omega
    have b2 : (0 : Int) ≤ (i : Int) := by omega
    have b3 : acc.size + (encB v x[i]).size ≤ 9223372036854775807 := by omega
    have hacc : bl (acc ++ encB v x[i]) = catL v (x.take (i + 1)) := by
      rw [bl_append, ha, List.take_succ_eq_append_getElem hix, catL_append]
      simp [catL]
    have ew : wrap64 ((i : Int) + 1) = ((i + 1 : Nat) : Int) := by rw [wrap64_id (by omega) (by omega)]; omega
    rw [careenlaw06_bytes.l0, if_pos b1, if_pos b2, rd23 x i hix, enc_eq v x[i] hf, Option.bind_some]
    dsimp only
    rw [if_pos rfl, if_pos b3, ew]
    exact ih (i + 1) k _ (by omega) (by omega) hacc
theorem bytes_of (v : Int) (x : List S23) (h : ∀ f ∈ x, Okay v f) (hx : x.length < 1000000) (k : Nat) (hk : x.length < k) : careenlaw06_bytes.f k v x = some (cat v x, true) :=
  bytes_loop v x h hx x.length 0 k _ (by omega) hk (by rw [List.take_zero]; unfold catL bl; rw [tl_nil]; rfl)
end Go.Proofs.Ytmicfaeloanffaa.Frs
