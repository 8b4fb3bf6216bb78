/- Frames one behind the other: what the printed functions answer at their bytes. -/
import Derived.Test.YtmicfaeloanffaaFrs
import Derived.Test.YtmicfaeloanffaaRaws
namespace Go.Proofs.Ytmicfaeloanffaa.Frs
open Go.RowKit Go.Proofs.YtmicfaeloanffaaW.PrintWords Go.Proofs.YtmicfaeloanffaaW.PrintLast Go.Proofs.YtmicfaeloanffaaW.PrintMore Go.Proofs.Ytmicfaeloanffaa.PAll Go.Proofs.Ytmicfaeloanffaa.Base Go.Proofs.Ytmicfaeloanffaa.Crc Go.Proofs.Ytmicfaeloanffaa.Sums Go.Proofs.Ytmicfaeloanffaa.Vari Go.Proofs.Ytmicfaeloanffaa.Vars Go.Proofs.Ytmicfaeloanffaa.HandPut
theorem bl_hB1 (f : S23) (h : Okay 1 f) : bl (hB 1 f) = [97, f.f0.toNat, f.f2.size / 256, f.f2.size % 256] := by
  obtain ⟨_, h2, h3, _, _, h6, _⟩ := h
  unfold hB
  rw [if_pos rfl, bl_str]
  have e1 : (f.f0 % 256).toNat % 256 = f.f0.toNat := by omega
  have e2 : ((f.f2.size : Int) / 256 % 256).toNat % 256 = f.f2.size / 256 := by omega
  have e3 : ((f.f2.size : Int) % 256).toNat % 256 = f.f2.size % 256 := by omega
  simp only [List.map_cons, List.map_nil, e1, e2, e3]
  rfl
theorem bl_hB2 (f : S23) (h : Okay 2 f) : bl (hB 2 f) = [98, f.f1.toNat, f.f0.toNat] ++ dg f.f2.size := by
  obtain ⟨_, h2, h3, h4, h5, h6, _⟩ := h
  unfold hB
  rw [if_neg (by decide), bl_append, bl_str, bl_num]
  have e1 : (f.f0 % 256).toNat % 256 = f.f0.toNat := by omega
  have e2 : (f.f1 % 256).toNat % 256 = f.f1.toNat := by omega
  simp only [List.map_cons, List.map_nil, e1, e2]
  rfl
theorem list_mid {A D X : List Nat} {a m : Nat} (hA : A.length = a) (hD : D.length = m) : ((A ++ D ++ X).take (a + m)).drop a = D := by
  rw [List.take_left' (by rw [List.length_append]; omega), List.drop_left' hA]
theorem list_end {A S X : List Nat} {a : Nat} (hA : A.length = a) (hS : S.length = 4) : ((A ++ S ++ X).take (a + 4)).drop a = S := list_mid hA hS
theorem bl_encB (v : Int) (f : S23) : bl (encB v f) = bl (hB v f) ++ bl f.f2 ++ bl (sB (hB v f ++ f.f2)) := by
  unfold encB
  rw [bl_append, bl_append]
/-- What stands ahead and the data of a frame, where a text begins with it. -/
theorem parts (v : Int) (f : S23) (s : ByteArray) (R : List Nat) (hs : bl s = bl (encB v f) ++ R) :
    s.extract (hB v f).size ((hB v f).size + f.f2.size) = f.f2 ∧ s.extract 0 ((hB v f).size + f.f2.size) = hB v f ++ f.f2 ∧ s.extract ((hB v f).size + f.f2.size) ((hB v f).size + f.f2.size + 4) = sB (hB v f ++ f.f2) ∧ (hB v f).size + f.f2.size + 4 ≤ s.size := by
  have e : bl s = bl (hB v f) ++ bl f.f2 ++ (bl (sB (hB v f ++ f.f2)) ++ R) := by rw [hs, bl_encB, List.append_assoc, List.append_assoc]
  refine ⟨?_, ?_, ?_, ?_⟩
  · apply bl_inj
    rw [bl_extract, e, list_mid (bl_len _) (bl_len _)]
  · apply bl_inj
    rw [bl_extract, e, bl_append, List.drop_zero, List.take_left' (by rw [List.length_append, bl_len, bl_len])]
  · apply bl_inj
    rw [bl_extract, e, ← List.append_assoc, list_end (by rw [List.length_append, bl_len, bl_len]) (by rw [bl_len, sB_size])]
  · have := congrArg List.length e
    rw [List.length_append, List.length_append, List.length_append, bl_len, bl_len, bl_len, bl_len, sB_size] at this
    omega
theorem letter_of (v : Int) (f : S23) (h : Okay v f) : (bl (encB v f)).getD 0 0 = if v = 1 then 97 else 98 := by
  rw [bl_encB]
  rcases h.1 with e | e
  · subst e
    rw [bl_hB1 f h, if_pos rfl]; rfl
  · subst e
    rw [bl_hB2 f h, if_neg (by decide)]; rfl
theorem encB_pos (v : Int) (f : S23) (h : Okay v f) : 8 ≤ (encB v f).size := by
  have := hB_size v f h.2.2.2.2.2.1
  rw [encB_size]; omega
theorem getD_app {A X : List Nat} {i : Nat} (h : i < A.length) : (A ++ X).getD i 0 = A.getD i 0 := by
  rw [List.getD_eq_getElem?_getD, List.getElem?_append_left h, ← List.getD_eq_getElem?_getD]
theorem getD_take {L : List Nat} {i j : Nat} (h : i < j) : (L.take j).getD i 0 = L.getD i 0 := by
  rw [List.getD_eq_getElem?_getD, List.getElem?_take, if_pos h, ← List.getD_eq_getElem?_getD]
theorem bt_zero (s : ByteArray) : bt s 0 = (((bl s).getD 0 0 : Nat) : Int) := bt_bl s 0
theorem okay_f0 {v : Int} {f : S23} (h : Okay v f) : ((f.f0.toNat : Nat) : Int) = f.f0 := by have := h.2.1; omega
theorem okay_f1 {v : Int} {f : S23} (h : Okay v f) : ((f.f1.toNat : Nat) : Int) = f.f1 := by have := h.2.2.2.1; omega
/-- A text that begins with a frame's bytes. -/
theorem take_enc (v : Int) (f : S23) (h : Okay v f) (s : ByteArray) (R : List Nat) (hs : bl s = bl (encB v f) ++ R) : frame_take.f v s = some (f.f0, f.f1, f.f2, ((encB v f).size : Int), 0) := by
  obtain ⟨hD, hT, hS, hz⟩ := parts v f s R hs
  have hb := hB_size v f h.2.2.2.2.2.1
  have h0 : bt s 0 = (((if v = 1 then 97 else 98 : Nat)) : Int) := by
    rw [bt_zero, hs, getD_app (by rw [bl_len]; have := encB_pos v f h; omega), letter_of v f h]
  have hm : f.f2.size ≤ 4000 := h.2.2.2.2.2.1
  have hg : goF v s = some (f.f0, f.f1, f.f2, ((encB v f).size : Int), 0) := by
    rw [encB_size]
    refine goF_ok v s f.f0 f.f1 (hB v f).size f.f2.size (by omega) hm ?_ hz f.f2 _ hD hT hS h
    have hs2 : bl s = bl (hB v f) ++ (bl f.f2 ++ bl (sB (hB v f ++ f.f2)) ++ R) := by rw [hs, bl_encB, List.append_assoc, List.append_assoc, List.append_assoc]
    rcases h.1 with e | e
    · subst e
      have e4 := hb.2.2 rfl
      rw [bl_hB1 f h] at hs2
      have k : (bl s).getD 1 0 = f.f0.toNat ∧ (bl s).getD 2 0 = f.f2.size / 256 ∧ (bl s).getD 3 0 = f.f2.size % 256 := by rw [hs2]; exact ⟨rfl, rfl, rfl⟩
      have h1 : f.f1 = 0 := by have := h.2.2.2.2.2.2; omega
      rw [read_one s (by omega), k.1, k.2.1, k.2.2, okay_f0 h, h1, e4, show f.f2.size / 256 * 256 + f.f2.size % 256 = f.f2.size from by omega]
    · subst e
      have hz2 : (hB 2 f).size = 3 + (dg f.f2.size).length := by rw [← bl_len, bl_hB2 f h, List.length_append]; rfl
      rw [bl_hB2 f h] at hs2
      have k : (bl s).getD 1 0 = f.f1.toNat ∧ (bl s).getD 2 0 = f.f0.toNat := by rw [hs2]; exact ⟨rfl, rfl⟩
      have hd : (bl s).drop 3 = dg f.f2.size ++ (bl f.f2 ++ bl (sB (hB 2 f ++ f.f2)) ++ R) := by rw [hs2]; rfl
      rw [read_two s (by omega) f.f2.size (dg f.f2.size).length (by omega) (by omega) (by rw [hd]; exact take_put _ (by omega) _), k.1, k.2, okay_f0 h, okay_f1 h, hz2]
  have hne : ¬ s.size = 0 := by omega
  unfold frame_take.f
  rw [if_neg hne, h0]
  rcases h.1 with e | e
  · subst e
    rw [if_pos rfl, if_pos rfl, if_pos (by rfl)]
    exact hg
  · subst e
    rw [if_neg (show ¬ (2 : Int) = 1 by decide), if_pos rfl, if_neg (show ¬ (2 : Int) = 1 by decide), if_pos (by rfl)]
    exact hg
/-- A frame's bytes that are cut off. -/
theorem take_torn (v : Int) (f : S23) (h : Okay v f) (s : ByteArray) (j : Nat) (hj0 : 0 < j) (hj : j < (encB v f).size) (hs : bl s = (bl (encB v f)).take j) : ∃ x y, frame_take.f v s = some (x, y, ⟨#[]⟩, 0, 0) := by
  have hz : s.size = j := by
    have := congrArg List.length hs
    rw [bl_len, List.length_take, bl_len] at this
    omega
  have hb := hB_size v f h.2.2.2.2.2.1
  rw [encB_size] at hj
  have hm : f.f2.size ≤ 4000 := h.2.2.2.2.2.1
  have h0 : bt s 0 = (((if v = 1 then 97 else 98 : Nat)) : Int) := by
    rw [bt_zero, hs, getD_take hj0, letter_of v f h]
  have hg : ∃ x y, goF v s = some (x, y, ⟨#[]⟩, 0, 0) := by
    rcases h.1 with e | e
    · subst e
      have e4 := hb.2.2 rfl
      by_cases c : s.size < 4
      · exact ⟨_, _, goF_cut 1 s _ _ _ _ (read_one_no s c)⟩
      · have k : (bl s).getD 2 0 = f.f2.size / 256 ∧ (bl s).getD 3 0 = f.f2.size % 256 := by
          rw [hs, getD_take (by omega), getD_take (by omega), bl_encB, bl_hB1 f h]; exact ⟨rfl, rfl⟩
        have hr := read_one s (by omega)
        rw [k.1, k.2, show f.f2.size / 256 * 256 + f.f2.size % 256 = f.f2.size from by omega] at hr
        exact ⟨_, _, goF_short 1 s _ _ 4 f.f2.size hm hr (by omega)⟩
    · subst e
      have hz2 : (hB 2 f).size = 3 + (dg f.f2.size).length := by rw [← bl_len, bl_hB2 f h, List.length_append]; rfl
      by_cases c : s.size < 3
      · exact ⟨_, _, goF_cut 2 s _ _ _ _ (read_two_no s (.inl c))⟩
      · have hd : (bl s).drop 3 = (dg f.f2.size ++ (bl f.f2 ++ bl (sB (hB 2 f ++ f.f2)))).take (j - 3) := by
          rw [hs, bl_encB, bl_hB2 f h, List.drop_take]
          simp
        by_cases c2 : j - 3 < (dg f.f2.size).length
        · refine ⟨_, _, goF_cut 2 s _ _ _ _ (read_two_no s (.inr ?_))⟩
          rw [hd, List.take_append_of_le_length (by omega)]
          exact take_cut _ (by omega) _ c2
        · have hr := read_two s (by omega) f.f2.size (dg f.f2.size).length (by omega) (by omega) (by
            rw [hd, List.take_append, List.take_of_length_le (by omega)]
            exact take_put _ (by omega) _)
          exact ⟨_, _, goF_short 2 s _ _ _ f.f2.size hm hr (by omega)⟩
  obtain ⟨x, y, hg⟩ := hg
  refine ⟨x, y, ?_⟩
  unfold frame_take.f
  rw [if_neg (by omega), h0]
  rcases h.1 with e | e
  · subst e
    rw [if_pos rfl, if_pos rfl, if_pos (by rfl)]
    exact hg
  · subst e
    rw [if_neg (show ¬ (2 : Int) = 1 by decide), if_pos rfl, if_neg (show ¬ (2 : Int) = 1 by decide), if_pos (by rfl)]
    exact hg
/-- What one version wrote the other one tells at once. -/
theorem take_other (v v' : Int) (hv : v = 1 ∧ v' = 2 ∨ v = 2 ∧ v' = 1) (f : S23) (h : Okay v f) (s : ByteArray) (R : List Nat) (hs : bl s = bl (encB v f) ++ R) : frame_take.f v' s = some (0, 0, ⟨#[]⟩, 0, 22) := by
  have hz : s.size ≠ 0 := by
    have := congrArg List.length hs
    rw [bl_len, List.length_append, bl_len] at this
    have := encB_pos v f h
    omega
  have h0 : bt s 0 = (((if v = 1 then 97 else 98 : Nat)) : Int) := by
    rw [bt_zero, hs, getD_app (by rw [bl_len]; have := encB_pos v f h; omega), letter_of v f h]
  unfold frame_take.f
  rw [if_neg hz, h0]
  rcases hv with ⟨e, e'⟩ | ⟨e, e'⟩
  · subst e; subst e'
    rw [if_neg (show ¬ (2 : Int) = 1 by decide), if_pos rfl, if_pos rfl]
    rfl
  · subst e; subst e'
    rw [if_pos rfl, if_neg (show ¬ (2 : Int) = 1 by decide)]
    rfl
/-- Frames' bytes, one behind the other. -/
def catL (v : Int) : List S23 → List Nat
  | [] => []
  | f :: L => bl (encB v f) ++ catL v L
theorem catL_append (v : Int) (L M : List S23) : catL v (L ++ M) = catL v L ++ catL v M := by
  induction L with
  | nil => rfl
  | cons f L ih => rw [List.cons_append, catL, catL, ih, List.append_assoc]
theorem scan_frames (v : Int) (s : ByteArray) (hz : s.size ≤ 4611686018427387904) : ∀ (L : List S23) (out : List S23) (at_ k : Nat) (R : List Nat), (∀ f ∈ L, Okay v f) → (bl s).drop at_ = catL v L ++ R → at_ ≤ s.size → out.length + L.length < 1000000 →
    frame_Scan.l0 (k + L.length) v s out (at_ : Int) = frame_Scan.l0 k v s (out ++ L) ((at_ + (catL v L).length : Nat) : Int) := by
  intro L
  induction L with
  | nil => intro out at_ k R _ _ _ _; simp [catL]
  | cons f L ih =>
    intro out at_ k R hL hd ha hn
    have hf := hL f (List.mem_cons_self)
    have hp := encB_pos v f hf
    rw [catL, List.append_assoc] at hd
    have hlen := congrArg List.length hd
    rw [List.length_drop, bl_len, List.length_append, bl_len] at hlen
    have hx : bl (s.extract at_ s.size) = bl (encB v f) ++ (catL v L ++ R) := by rw [bl_drop, hd]
    have ht := take_enc v f hf (s.extract at_ s.size) _ hx
    have hd2 : (bl s).drop (at_ + (encB v f).size) = catL v L ++ R := by rw [← List.drop_drop, hd, List.drop_left' (bl_len _)]
    rw [List.length_cons] at hn
    have hi := ih (out ++ [f]) (at_ + (encB v f).size) k R (fun g hg => hL g (List.mem_cons_of_mem _ hg)) hd2 (by omega) (by rw [List.length_append]; simp; omega)
    have b1 : (at_ : Int) < (s.size : Int) := by omega
    have b2 : (0 : Int) ≤ (at_ : Int) := by omega
    have b3 : (at_ : Int) ≤ (s.size : Int) := by omega
    have b4 : ¬ ((encB v f).size : Int) = 0 := by omega
    have b5 : out.length < 4398046511104 := by omega
    have ew : wrap64 ((at_ : Int) + ((encB v f).size : Int)) = ((at_ + (encB v f).size : Nat) : Int) := by rw [wrap64_id (by omega) (by omega)]; omega
    rw [List.length_cons, show k + (L.length + 1) = k + L.length + 1 from rfl, frame_Scan.l0, if_pos b1, if_pos b2, if_pos b3, Int.toNat_natCast, ht, Option.bind_some]
    dsimp only
    rw [if_pos rfl, if_neg b4, if_pos b5, ew]
    rw [List.append_assoc] at hi
    rw [catL, List.length_append, bl_len, ← Nat.add_assoc]
    exact hi
theorem scan_v (v : Int) (hv : v = 1 ∨ v = 2) (s : ByteArray) (k : Nat) : frame_Scan.f k v s = frame_Scan.l0 k v s [] 0 := by
  unfold frame_Scan.f
  rcases hv with e | e
  · rw [if_pos e]
  · subst e; rw [if_neg (by decide), if_pos rfl]
/-- Frames one behind the other, as the law's own function lays them. -/
def cat (v : Int) : List S23 → ByteArray
  | [] => ⟨#[]⟩
  | f :: L => encB v f ++ cat v L
theorem bl_cat (v : Int) (L : List S23) : bl (cat v L) = catL v L := by
  induction L with
  | nil => unfold cat catL bl; rw [tl_nil]; rfl
  | cons f L ih => rw [cat, catL, bl_append, ih]
theorem cat_size (v : Int) (L : List S23) : (cat v L).size = (catL v L).length := by rw [← bl_len, bl_cat]
theorem catL_len (v : Int) (L : List S23) (h : ∀ f ∈ L, Okay v f) : (catL v L).length ≤ 4100 * L.length := by
  induction L with
  | nil => exact Nat.zero_le _
  | cons f L ih =>
    have hf := h f (List.mem_cons_self)
    have := hB_size v f hf.2.2.2.2.2.1
    have h6 := hf.2.2.2.2.2.1
    have := ih (fun g hg => h g (List.mem_cons_of_mem _ hg))
    rw [catL, List.length_append, bl_len, encB_size, List.length_cons]
    omega
end Go.Proofs.Ytmicfaeloanffaa.Frs
