/- FrameTells: what its printed answer is, in plain words, where the texts are of at most 1048576 bytes. -/
import Derived.Test.YtmicfaeloanffaaFrsT
import Derived.Test.YtmicfaeloanffaaSam
import Derived.Test.YtmicfaeloanffaaPAllx10
namespace Go.Proofs.Ytmicfaeloanffaa.Pure
open Go.RowKit Go.Proofs.YtmicfaeloanffaaW.PrintWords Go.Proofs.YtmicfaeloanffaaW.PrintLast Go.Proofs.YtmicfaeloanffaaW.PrintMore Go.Proofs.Ytmicfaeloanffaa.PAll Go.Proofs.Ytmicfaeloanffaa.Base Go.Proofs.Ytmicfaeloanffaa.Frs
theorem rdOf_get (Y : List ByteArray) (i : Nat) (h : i < Y.length) : rdOf ByteArray.empty Y (i : Int) = Y[i] := by
 unfold rdOf
 rw [Int.toNat_natCast, List.getD_eq_getElem?_getD, List.getElem?_eq_getElem h]; rfl
theorem tells_text (x2 : List S57) (x3 : List ByteArray) (x4 : ByteArray) (x5 : Int) (x6 : ByteArray) (w : Int) (x38 : List Int) (x39 x40 : Int) (Y : List ByteArray) (n : Int) (a b : Int) (c : ByteArray) (i : Nat) (hi : i < Y.length) (hn : n = (Y.length : Int)) (hl : Y.length < 100) (hY : Y[i].size ≤ 2000000) (K : Nat) (hK : 2100000 ≤ K) :
  careenlaw06_FrameTells.l2 (K + 1) x2 x3 x4 x5 x6 true w x38 x39 x40 Y n (i : Int) a b c = careenlaw06_FrameTells.l2 K x2 x3 x4 x5 x6 true w x38 x39 x40 Y n ((i + 1 : Nat) : Int) a b c := by
 have ew : wrap64 ((i : Int) + 1) = ((i + 1 : Nat) : Int) := by rw [wrap64_id (by omega) (by omega)]; omega
 have b1 : (i : Int) < n := by omega
 have b2 : (0 : Int) ≤ (i : Int) := by omega
 have b3 : (i : Int) < (Y.length : Int) := by omega
 obtain ⟨L, m, e, h1, h2, h3⟩ := ref_scan w Y[i] hY K hK
 have hs := same_eq L (by omega) K (by omega)
 rw [careenlaw06_FrameTells.l2, if_pos b1, if_pos b2, if_pos b3, rdOf_get Y i hi, h1, Option.bind_some, h2, Option.bind_some]
 dsimp only
 rw [hs, Option.bind_some, if_pos (show true = true from rfl), if_pos (show m = m from rfl), if_pos (show e = e from rfl), ew]
theorem tells_texts (x2 : List S57) (x3 : List ByteArray) (x4 : ByteArray) (x5 : Int) (x6 : ByteArray) (w : Int) (x38 : List Int) (x39 x40 : Int) (Y : List ByteArray) (a b : Int) (c : ByteArray) (hl : Y.length = 5) (hY : ∀ i (h : i < Y.length), Y[i].size ≤ 2000000) (K : Nat) (hK : 2100000 ≤ K) :
  careenlaw06_FrameTells.l2 (K + 6) x2 x3 x4 x5 x6 true w x38 x39 x40 Y (Y.length : Int) 0 a b c = careenlaw06_FrameTells.l0 K x2 x3 x4 x5 x6 true x38 x39 (wrap64 (x40 + 1)) a b c := by
 have g := fun i (hi : i < Y.length) K hK => tells_text x2 x3 x4 x5 x6 w x38 x39 x40 Y (Y.length : Int) a b c i hi rfl (by omega) (hY i hi) K hK
 have g0 := g 0 (by omega) (K + 5) (by omega)
 have z0 : ((0 : Nat) : Int) = 0 := rfl
 rw [z0] at g0
 rw [show K + 6 = K + 5 + 1 from rfl, g0, show K + 5 = K + 4 + 1 from rfl, g 1 (by omega) (K + 4) (by omega), show K + 4 = K + 3 + 1 from rfl, g 2 (by omega) (K + 3) (by omega), show K + 3 = K + 2 + 1 from rfl, g 3 (by omega) (K + 2) (by omega), show K + 2 = K + 1 + 1 from rfl, g 4 (by omega) (K + 1) (by omega), careenlaw06_FrameTells.l2, if_neg (by omega)]
theorem glue_size (c more : ByteArray) (hc : c.size ≤ 100000) (hm : more.size ≤ 1048576) (p j : Nat) : (c.extract 0 p ++ more ++ c.extract j c.size).size ≤ 2000000 := by
 rw [ByteArray.size_append, ByteArray.size_append, ByteArray.size_extract, ByteArray.size_extract]; omega
theorem room_facts (c more : ByteArray) (hc : c.size ≤ 100000) (hm : more.size ≤ 1048576) (p : Nat) : (c.extract 0 p).size + more.size ≤ 9223372036854775807 ∧ ∀ j, (c.extract 0 p ++ more).size + (c.extract j c.size).size ≤ 9223372036854775807 := by
 constructor
 ·rw [ByteArray.size_extract]; omega
 ·intro j
  rw [ByteArray.size_append, ByteArray.size_extract, ByteArray.size_extract]; omega
/-- Behind the frames: the five texts. -/
theorem tells_end (x2 : List S57) (x3 : List ByteArray) (s : ByteArray) (at_ : Int) (more : ByteArray) (w : Int) (c : ByteArray) (x38 : List Int) (x39 x40 : Int) (L : List S23) (a b : Int) (d : ByteArray) (hs : s.size ≤ 1048576) (hat : (Lit.int .i64 at_).wf = true) (hm : more.size ≤ 1048576) (hc : c.size ≤ 100000) (i : Int) (hi : ¬ i < (L.length : Int)) (K : Nat) (hK : 2100000 ≤ K) :
  careenlaw06_FrameTells.l1 (K + 7) x2 x3 s at_ more true w c x38 x39 x40 L (L.length : Int) i a b d = careenlaw06_FrameTells.l0 K x2 x3 s at_ more true x38 x39 (wrap64 (x40 + 1)) a b d := by
 have e1 : wrap64 ((c.size : Int) + 1) = (c.size : Int) + 1 := wrap64_id (by omega) (by omega)
 have ep := pick_eq at_ ((c.size : Int) + 1) hat (by omega)
 obtain ⟨p0, p1⟩ := pickN_lt (c := at_) (n := (c.size : Int) + 1) (by omega)
 generalize pickN at_ ((c.size : Int) + 1) = p at ep p0 p1
 obtain ⟨kk, rfl⟩ := Int.eq_ofNat_of_zero_le p0
 have b5 : (kk : Int) ≤ (c.size : Int) := Int.lt_add_one_iff.mp p1
 obtain ⟨j, hj, c1, c2⟩ : ∃ j : Nat, ((min (kk + more.size) c.size : Nat) : Int) = (j : Int) ∧ (0 : Int) ≤ (j : Int) ∧ (j : Int) ≤ (c.size : Int) := ⟨_, rfl, Int.natCast_nonneg _, Int.ofNat_le.mpr (Nat.min_le_right _ _)⟩
 have e2 : mn (wrap64 ((kk : Int) + (more.size : Int))) (c.size : Int) = ((j : Nat) : Int) := by
  rw [← hj, mn_eq, wrap64_id (by omega) (by omega)]
  clear hj ep e1
  omega
 obtain ⟨d1, d2⟩ := room_facts c more hc hm kk
 have d3 := d2 kk
 have d4 := d2 j
 clear d2
 rw [careenlaw06_FrameTells.l1, if_neg hi, e1, ep, Option.bind_some, if_pos p0, if_pos b5, Int.toNat_natCast, if_pos d1, e2, if_pos c1, if_pos c2, Int.toNat_natCast, if_pos d4, if_pos d3, Option.bind_some]
 refine tells_texts x2 x3 s at_ more w x38 x39 x40 _ a b d rfl ?_ K hK
 have z : (c.extract 0 kk).size ≤ 2000000 := by rw [ByteArray.size_extract]; clear hj ep e1 e2; omega
 clear hj ep e1 e2 d1 d3 d4
 intro i hi
 have g1 := glue_size c more hc hm kk j
 have g2 := glue_size c more hc hm kk kk
 have hi5 : i < 5 := hi
 match i, hi5 with
 | 0, _ => exact Nat.le_trans hs (by decide)
 | 1, _ => exact Nat.le_trans hc (by decide)
 | 2, _ => exact z
 | 3, _ => exact g1
 | 4, _ => exact g2
theorem enc_room (v : Int) (f : S23) (h : Okay v f) (acc : ByteArray) (n : Nat) (ha : acc.size ≤ n) (hn : n ≤ 90000) : acc.size + (encB v f).size ≤ 9223372036854775807 ∧ (acc ++ encB v f).size ≤ n + 4100 := by
 have h6 : f.f2.size ≤ 4000 := h.2.2.2.2.2.1
 have h5 := (hB_size v f h6).1
 rw [ByteArray.size_append, encB_size]
 generalize (hB v f).size = x at h5 ⊢
 omega
theorem tells_frames (x2 : List S57) (x3 : List ByteArray) (s : ByteArray) (at_ : Int) (more : ByteArray) (w : Int) (hw : (Lit.int .i64 w).wf = true) (x38 : List Int) (x39 x40 : Int) (L : List S23) (a b : Int) (d : ByteArray) (hs : s.size ≤ 1048576) (hat : (Lit.int .i64 at_).wf = true) (hm : more.size ≤ 1048576) (hL : ∀ f ∈ L, Okay (1 + pickN w 2) f) (hl : L.length ≤ 12) (K : Nat) (hK : 2100000 ≤ K) : ∀ (r i : Nat) (c : ByteArray), i + r = L.length → c.size ≤ 10000 + 4100 * i →
  careenlaw06_FrameTells.l1 (K + 7 + r) x2 x3 s at_ more true w c x38 x39 x40 L (L.length : Int) (i : Int) a b d = careenlaw06_FrameTells.l0 K x2 x3 s at_ more true x38 x39 (wrap64 (x40 + 1)) a b d := by
 intro r
 induction r with
 | zero =>
  intro i c hi hc
  exact tells_end x2 x3 s at_ more w c x38 x39 x40 L a b d hs hat hm (by omega) i (by omega) K hK
 | succ r ih =>
  intro i c hi hc
  have hiL : i < L.length := by omega
  have b1 : (i : Int) < (L.length : Int) := by omega
  have b2 : (0 : Int) ≤ (i : Int) := by omega
  have ew : wrap64 ((i : Int) + 1) = ((i + 1 : Nat) : Int) := by rw [wrap64_id (by omega) (by omega)]; omega
  have hf := hL _ (List.getElem_mem hiL)
  obtain ⟨z1, z2⟩ := enc_room _ _ hf c (10000 + 4100 * i) hc (by omega)
  have go := ih (i + 1) (c ++ encB (1 + pickN w 2) L[i]) (by omega) (Nat.le_trans z2 (by omega))
  have e2 : wrap64 (1 + pickN w 2) = 1 + pickN w 2 := by
   obtain ⟨p0, p1⟩ := pickN_lt (c := w) (n := 2) (by decide)
   exact wrap64_id (by omega) (by omega)
  rw [show K + 7 + (r + 1) = K + 7 + r + 1 from rfl, careenlaw06_FrameTells.l1, if_pos b1, if_pos b2, if_pos b1, pick_eq w 2 hw (by decide), Option.bind_some, e2, rd23 L i hiL, ref_enc _ _ hf (K + 7 + r) (by clear e2; omega), Option.bind_some]
  dsimp only
  rw [if_pos z1, ew]
  exact go
theorem enc_both (v : Int) (f : S23) (K : Nat) (hK : 50000 ≤ K) : ∃ b e, frame_Encode.f v f.f0 f.f1 f.f2 = some (b, e) ∧ careenref06_Encode.f K v f.f0 f.f1 f.f2 = some (b, e) ∧ b.size ≤ 10000 := by
 by_cases h : may v f.f0 f.f1 f.f2.size
 ·have h1 : Okay v f := h
  refine ⟨_, _, enc_eq v f h1, ref_enc v f h1 K hK, ?_⟩
  have h6 : f.f2.size ≤ 4000 := h1.2.2.2.2.2.1
  have h5 := (hB_size v f h6).1
  rw [encB_size]
  generalize (hB v f).size = x at h5 ⊢
  omega
 ·exact ⟨_, _, enc_no v _ _ _ h, ref_enc_no v _ _ _ h K, Nat.zero_le _⟩
theorem tells_round (l : List S57) (texts : List ByteArray) (s : ByteArray) (at_ : Int) (more : ByteArray) (x38 : List Int) (f : S23) (hw : ∀ x ∈ l, (Lit.int .i64 x.f0).wf = true ∧ (Lit.int .i64 x.f1).wf = true ∧ (Lit.int .i64 x.f2).wf = true) (hs : s.size ≤ 1048576) (hat : (Lit.int .i64 at_).wf = true) (hm : more.size ≤ 1048576) (i : Nat) (h3 : x38.length = 3) (hi : i < 3) (hwf : (Lit.int .i64 (rd x38 (i : Int))).wf = true) (F : Nat) (hF : 2100040 ≤ F) :
  ∃ F', F ≤ F' + 30 ∧ careenlaw06_FrameTells.l0 F l texts s at_ more true x38 3 (i : Int) f.f0 f.f1 f.f2 = careenlaw06_FrameTells.l0 F' l texts s at_ more true x38 3 ((i + 1 : Nat) : Int) f.f0 f.f1 f.f2 := by
 generalize hwv : rd x38 (i : Int) = w at hwf
 have b1 : (i : Int) < 3 := by omega
 have b2 : (0 : Int) ≤ (i : Int) := by omega
 have b3 : (i : Int) < (x38.length : Int) := by omega
 have ew : wrap64 ((i : Int) + 1) = ((i + 1 : Nat) : Int) := by rw [wrap64_id (by omega) (by omega)]; omega
 obtain ⟨b, e, h1, h2, hb⟩ := enc_both w f (F - 1) (by omega)
 have hv : 1 + pickN w 2 = 1 ∨ 1 + pickN w 2 = 2 := by
  obtain ⟨p0, p1⟩ := pickN_lt (c := w) (n := 2) (by decide)
  omega
 have e2 : wrap64 (1 + pickN w 2) = 1 + pickN w 2 := by
  obtain ⟨p0, p1⟩ := pickN_lt (c := w) (n := 2) (by decide)
  exact wrap64_id (by omega) (by omega)
 have ep := pick_eq w 2 hwf (by decide)
 have hl := raws_len (1 + pickN w 2) texts l
 have hok := okay_all hv texts l
 obtain ⟨K, hK⟩ : ∃ K, F = K + 7 + (raws (1 + pickN w 2) texts l).length + 2 := ⟨F - 9 - (raws (1 + pickN w 2) texts l).length, by clear e2 ep hv ew; omega⟩
 have hK2 : 2100000 ≤ K := by clear e2 ep hv ew; omega
 have hf1 := frames_eq (1 + pickN w 2) l texts hw (K + 7 + (raws (1 + pickN w 2) texts l).length) (by clear e2 ep hv ew; omega)
 refine ⟨K, by clear e2 ep hv ew; omega, ?_⟩
 have go := tells_frames l texts s at_ more w hwf x38 3 (i : Int) _ f.f0 f.f1 f.f2 hs hat hm hok hl K hK2 (raws (1 + pickN w 2) texts l).length 0 b (Nat.zero_add _) (by omega)
 rw [show F - 1 = K + 7 + (raws (1 + pickN w 2) texts l).length + 1 from by clear e2 ep hv ew; omega] at h2
 subst hK
 have hbeq : (decide (may w f.f0 f.f1 f.f2.size) != decide (may w f.f0 f.f1 f.f2.size)) = false := bne_self_eq_false _
 rw [careenlaw06_FrameTells.l0, if_pos b1, if_pos b2, if_pos b3, hwv, h1, Option.bind_some, h2, Option.bind_some]
 dsimp only
 rw [if_pos (show b.toList = b.toList from rfl), if_pos (show e = e from rfl), right_dec, Option.bind_some, ref_right, Option.bind_some, hbeq, careenlaw06_FrameTells.j1, if_neg (by decide), ep, Option.bind_some, e2, hf1, Option.bind_some]
 rw [ew] at go
 exact go
theorem FrameTells (a0 a1 : Int) (a2 : ByteArray) (v : Int) (l : List S57) (texts : List ByteArray) (s : ByteArray) (at_ : Int) (more : ByteArray) (_ : (Lit.int .i64 a0).wf = true) (_ : (Lit.int .i64 a1).wf = true) (_ : a2.size ≤ 9223372036854775807) (hv : (Lit.int .i64 v).wf = true) (_ : l.length * 24 ≤ 140737488351232) (hw : ∀ x ∈ l, (Lit.int .i64 x.f0).wf = true ∧ (Lit.int .i64 x.f1).wf = true ∧ (Lit.int .i64 x.f2).wf = true) (_ : texts.length * 16 ≤ 140737488351232) (_ : ∀ x ∈ texts, x.size ≤ 9223372036854775807) (hs : s.size ≤ 1048576) (hat : (Lit.int .i64 at_).wf = true) (hm : more.size ≤ 1048576) : ∃ k, careenlaw06_FrameTells.f k a0 a1 a2 v l texts s at_ more = some true := by
 refine ⟨2100200, ?_⟩
 have r := fun i h => tells_round l texts s at_ more [v, 1, 2] ⟨a0, a1, a2⟩ hw hs hat hm i rfl h
 obtain ⟨F1, g1, e1⟩ := r 0 (by decide) hv 2100200 (by decide)
 obtain ⟨F2, g2, e2⟩ := r 1 (by decide) (by rfl) F1 (by omega)
 obtain ⟨F3, g3, e3⟩ := r 2 (by decide) (by rfl) F2 (by omega)
 obtain ⟨F4, h4⟩ : ∃ F4, F3 = F4 + 1 := ⟨F3 - 1, by omega⟩
 unfold careenlaw06_FrameTells.f
 rw [awake_eq _ (by decide), Option.bind_some, Option.bind_some]
 refine (e1.trans (e2.trans (e3.trans ?_)))
 rw [h4, careenlaw06_FrameTells.l0, if_neg (by decide)]
#print axioms FrameTells
end Go.Proofs.Ytmicfaeloanffaa.Pure
