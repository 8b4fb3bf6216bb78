/- Frames one behind the other, cut off anywhere: what is scanned. -/
import Derived.Test.YtmicfaeloanffaaFrs2
import Derived.Test.YtmicfaeloanffaaRaws
namespace Go.Proofs.Ytmicfaeloanffaa.Frs
open Go.RowKit Go.Proofs.YtmicfaeloanffaaW.PrintWords Go.Proofs.YtmicfaeloanffaaW.PrintLast Go.Proofs.YtmicfaeloanffaaW.PrintMore Go.Proofs.Ytmicfaeloanffaa.PAll Go.Proofs.Ytmicfaeloanffaa.Base Go.Proofs.Ytmicfaeloanffaa.Crc Go.Proofs.Ytmicfaeloanffaa.Sums Go.Proofs.Ytmicfaeloanffaa.Vari Go.Proofs.Ytmicfaeloanffaa.Vars Go.Proofs.Ytmicfaeloanffaa.HandPut
theorem scan_end (v : Int) (s : ByteArray) (out : List S23) (k : Nat) (i : Int) (h : ¬ i < (s.size : Int)) : frame_Scan.l0 (k + 1) v s out i = some (out, i, 0) := by
  rw [frame_Scan.l0, if_neg h]
theorem cat_bound (v : Int) (L : List S23) (h : ∀ f ∈ L, Okay v f) (hl : L.length ≤ 12) : (cat v L).size ≤ 49200 := by
  rw [cat_size]
  have := catL_len v L h
  omega
theorem scan_from (v : Int) (hv : v = 1 ∨ v = 2) (L : List S23) (h : ∀ f ∈ L, Okay v f) (hl : L.length ≤ 12) (s : ByteArray) (hz : s.size ≤ 4611686018427387904) (R : List Nat) (hs : bl s = catL v L ++ R) (k : Nat) : frame_Scan.f (k + L.length) v s = frame_Scan.l0 k v s L (((cat v L).size : Nat) : Int) := by
  rw [scan_v v hv, cat_size]
  have := scan_frames v s hz L [] 0 k R h (by rw [List.drop_zero]; exact hs) (Nat.zero_le _) (by simp; omega)
  rw [List.nil_append, Nat.zero_add] at this
  exact this
theorem scan_cat (v : Int) (hv : v = 1 ∨ v = 2) (L : List S23) (h : ∀ f ∈ L, Okay v f) (hl : L.length ≤ 12) (k : Nat) (hk : 20 ≤ k) : frame_Scan.f k v (cat v L) = some (L, (((cat v L).size : Nat) : Int), 0) := by
  have hb := cat_bound v L h hl
  obtain ⟨m, rfl⟩ : ∃ m, k = m + 1 + L.length := ⟨k - L.length - 1, by omega⟩
  rw [scan_from v hv L h hl (cat v L) (by omega) [] (by rw [bl_cat, List.append_nil]), scan_end _ _ _ _ _ (by omega)]
theorem whole_of (v : Int) : ∀ (L : List S23) (kk : Nat), kk ≤ (catL v L).length → ∃ n, n ≤ L.length ∧ (catL v (L.take n)).length ≤ kk ∧ (n < L.length → kk < (catL v (L.take (n + 1))).length) := by
  intro L
  induction L with
  | nil => intro kk _; exact ⟨0, Nat.le_refl _, Nat.zero_le _, fun h => absurd h (by simp)⟩
  | cons f L ih =>
    intro kk h
    by_cases c : kk < (bl (encB v f)).length
    · refine ⟨0, Nat.zero_le _, Nat.zero_le _, fun _ => ?_⟩
      rw [Nat.zero_add, List.take_succ_cons, List.take_zero, catL, catL, List.append_nil]
      exact c
    · rw [catL, List.length_append] at h
      obtain ⟨n, h1, h2, h3⟩ := ih (kk - (bl (encB v f)).length) (by omega)
      refine ⟨n + 1, by rw [List.length_cons]; omega, ?_, fun hn => ?_⟩
      · rw [List.take_succ_cons, catL, List.length_append]; omega
      · rw [List.length_cons] at hn
        have := h3 (by omega)
        rw [List.take_succ_cons, catL, List.length_append]; omega
theorem scan_torn (v : Int) (hv : v = 1 ∨ v = 2) (L : List S23) (h : ∀ f ∈ L, Okay v f) (hl : L.length ≤ 12) (kk : Nat) (hk : kk ≤ (cat v L).size) (k : Nat) (hk2 : 20 ≤ k) :
    ∃ n, n ≤ L.length ∧ frame_Scan.f k v ((cat v L).extract 0 kk) = some (L.take n, (((cat v (L.take n)).size : Nat) : Int), 0) ∧ (cat v (L.take n)).size ≤ kk ∧ (n < L.length → kk < (cat v (L.take (n + 1))).size) := by
  have hb := cat_bound v L h hl
  have hz : (cat v L).size = (catL v L).length := cat_size v L
  obtain ⟨n, h1, h2, h3⟩ := whole_of v L kk (by omega)
  have ht : ∀ f ∈ L.take n, Okay v f := fun f hf => h f (List.mem_of_mem_take hf)
  have hn : (L.take n).length = n := by rw [List.length_take]; omega
  have hsz : ((cat v L).extract 0 kk).size = kk := by rw [ByteArray.size_extract]; omega
  have hbl : bl ((cat v L).extract 0 kk) = (catL v L).take kk := by rw [bl_extract, List.drop_zero, bl_cat]
  have hsplit : catL v L = catL v (L.take n) ++ catL v (L.drop n) := by rw [← catL_append, List.take_append_drop]
  have hR : bl ((cat v L).extract 0 kk) = catL v (L.take n) ++ (catL v (L.drop n)).take (kk - (catL v (L.take n)).length) := by
    rw [hbl, hsplit, List.take_append, List.take_of_length_le h2]
  obtain ⟨m, rfl⟩ : ∃ m, k = m + 1 + (L.take n).length := ⟨k - n - 1, by omega⟩
  refine ⟨n, h1, ?_, by rw [cat_size]; exact h2, fun hn => by rw [cat_size]; exact h3 hn⟩
  rw [scan_from v hv (L.take n) ht (by omega) _ (by omega) _ hR]
  by_cases c : (cat v (L.take n)).size < kk
  · have hnl : n < L.length := by
      rcases Nat.lt_or_ge n L.length with c' | c'
      · exact c'
      · rw [List.take_of_length_le c'] at c; omega
    have h4 := h3 hnl
    rw [List.take_succ_eq_append_getElem hnl, catL_append, List.length_append] at h4
    have hone : (catL v [L[n]]).length = (encB v L[n]).size := by rw [catL, catL, List.append_nil, bl_len]
    rw [hone] at h4
    have hf := h _ (List.getElem_mem hnl)
    have hcs : (cat v (L.take n)).size = (catL v (L.take n)).length := cat_size _ _
    have hd : L.drop n = L[n] :: L.drop (n + 1) := List.drop_eq_getElem_cons hnl
    have hx : bl (((cat v L).extract 0 kk).extract (cat v (L.take n)).size ((cat v L).extract 0 kk).size) = (bl (encB v L[n])).take (kk - (catL v (L.take n)).length) := by
      rw [bl_drop, hR, List.drop_left' hcs.symm, hd, catL, List.take_append_of_le_length (by rw [bl_len]; omega)]
    obtain ⟨x, y, ht⟩ := take_torn v L[n] hf _ (kk - (catL v (L.take n)).length) (by omega) (by omega) hx
    have b1 : (((cat v (L.take n)).size : Nat) : Int) < ((((cat v L).extract 0 kk).size : Nat) : Int) := by omega
    rw [frame_Scan.l0, if_pos b1, if_pos (by omega), if_pos (by omega), Int.toNat_natCast, ht, Option.bind_some]
    dsimp only
    rw [if_pos rfl, if_pos rfl]
  · rw [scan_end _ _ _ _ _ (by omega)]
theorem scan_other (v v' : Int) (hv : v = 1 ∧ v' = 2 ∨ v = 2 ∧ v' = 1) (L : List S23) (h : ∀ f ∈ L, Okay v f) (k : Nat) : (L = [] ∧ frame_Scan.f (k + 1) v' (cat v L) = some ([], 0, 0)) ∨ (1 ≤ (cat v L).size ∧ frame_Scan.f (k + 1) v' (cat v L) = some ([], 0, 22)) := by
  have hv' : v' = 1 ∨ v' = 2 := by omega
  rw [scan_v v' hv']
  cases L with
  | nil => exact .inl ⟨rfl, scan_end _ _ _ _ _ (by show ¬ (0 : Int) < (((⟨#[]⟩ : ByteArray).size : Nat) : Int); decide)⟩
  | cons f L =>
    have hf := h f (List.mem_cons_self)
    have hp := encB_pos v f hf
    have hz : (cat v (f :: L)).size = (encB v f).size + (cat v L).size := by rw [cat, ByteArray.size_append]
    refine .inr ⟨by omega, ?_⟩
    have hx : bl ((cat v (f :: L)).extract 0 (cat v (f :: L)).size) = bl (encB v f) ++ catL v L := by rw [bl_drop, List.drop_zero, bl_cat, catL]
    rw [frame_Scan.l0, if_pos (by omega), if_pos (by decide), if_pos (by omega), show ((0 : Int)).toNat = 0 from rfl, take_other v v' hv f hf _ _ hx, Option.bind_some]
    rfl
end Go.Proofs.Ytmicfaeloanffaa.Frs
