/- FrameAgain: what its printed answer is, in plain words, where the texts are of at most 1048576 bytes. -/
import Derived.Test.YtmicfaeloanffaaFrs4
import Derived.Test.YtmicfaeloanffaaPAga
namespace Go.Proofs.Ytmicfaeloanffaa.Pure
open Go.RowKit Go.Proofs.YtmicfaeloanffaaW.PrintWords Go.Proofs.YtmicfaeloanffaaW.PrintLast Go.Proofs.YtmicfaeloanffaaW.PrintMore Go.Proofs.Ytmicfaeloanffaa.PAll Go.Proofs.Ytmicfaeloanffaa.Base Go.Proofs.Ytmicfaeloanffaa.Frs
theorem rdOf_get (Y : List ByteArray) (i : Nat) (h : i < Y.length) : rdOf ByteArray.empty Y (i : Int) = Y[i] := by
  unfold rdOf
  rw [Int.toNat_natCast, List.getD_eq_getElem?_getD, List.getElem?_eq_getElem h]; rfl
theorem again_round (v : Int) (hv : v = 1 ∨ v = 2) (x0 : ByteArray) (x1 : List S57) (x2 : List ByteArray) (x3 : Int) (x4 : ByteArray) (Y : List ByteArray) (n : Int) (i : Nat) (hi : i < Y.length) (hn : n = (Y.length : Int)) (hl : Y.length < 100) (hY : Y[i].size ≤ 2000000) (K : Nat) (hK : 2000001 ≤ K) :
    careenlaw06_FrameAgain.l1 (K + 1) x0 x1 x2 x3 x4 true v Y n (i : Int) = careenlaw06_FrameAgain.l1 K x0 x1 x2 x3 x4 true v Y n ((i + 1 : Nat) : Int) := by
  have ew : wrap64 ((i : Int) + 1) = ((i + 1 : Nat) : Int) := by rw [wrap64_id (by omega) (by omega)]; omega
  have b1 : (i : Int) < n := by omega
  have b2 : (0 : Int) ≤ (i : Int) := by omega
  have b3 : (i : Int) < (Y.length : Int) := by omega
  obtain ⟨L, m, e, h1, h2, h3, h4, h5⟩ := scan_text v hv Y[i] hY K (by omega)
  have c1 : ¬ ((m : Nat) : Int) < 0 := by omega
  have c2 : ¬ ((m : Nat) : Int) > ((Y[i].size : Nat) : Int) := by omega
  have c3 : (0 : Int) ≤ ((m : Nat) : Int) := by omega
  have c4 : ((m : Nat) : Int) ≤ ((Y[i].size : Nat) : Int) := by omega
  have hb := bytes_of v L h2 (by omega) K (by omega)
  rw [careenlaw06_FrameAgain.l1, if_pos b1, if_pos b2, if_pos b3, rdOf_get Y i hi, h1, Option.bind_some]
  dsimp only
  rw [hb, Option.bind_some]
  dsimp only
  rw [if_pos (show true = true from rfl), if_neg c1, if_neg c2, if_pos c3, if_pos c4, Int.toNat_natCast, h3, if_pos rfl, ew]
theorem again_all (v : Int) (hv : v = 1 ∨ v = 2) (x0 : ByteArray) (x1 : List S57) (x2 : List ByteArray) (x3 : Int) (x4 : ByteArray) (Y : List ByteArray) (hl : Y.length = 4) (hY : ∀ i (h : i < Y.length), Y[i].size ≤ 2000000) (K : Nat) (hK : 2000001 ≤ K) :
    careenlaw06_FrameAgain.l1 (K + 5) x0 x1 x2 x3 x4 true v Y (Y.length : Int) 0 = careenlaw06_FrameAgain.l0 K x0 x1 x2 x3 x4 true (v + 1) := by
  have ew : wrap64 (v + 1) = v + 1 := wrap64_id (by omega) (by omega)
  have g := fun i (hi : i < Y.length) K hK => again_round v hv x0 x1 x2 x3 x4 Y (Y.length : Int) i hi rfl (by omega) (hY i hi) K hK
  have g0 := g 0 (by omega) (K + 4) (by omega)
  have z0 : ((0 : Nat) : Int) = 0 := rfl
  rw [z0] at g0
  rw [show K + 5 = K + 4 + 1 from rfl, g0, show K + 4 = K + 3 + 1 from rfl, g 1 (by omega) (K + 3) (by omega), show K + 3 = K + 2 + 1 from rfl, g 2 (by omega) (K + 2) (by omega), show K + 2 = K + 1 + 1 from rfl, g 3 (by omega) (K + 1) (by omega), careenlaw06_FrameAgain.l1, if_neg (by omega), ew]
/-- The texts that stand for a raw place: cut, with more in its place, or ahead of it. -/
theorem glue_size (c more : ByteArray) (hc : c.size ≤ 49200) (hm : more.size ≤ 1048576) (p j : Nat) : (c.extract 0 p ++ more ++ c.extract j c.size).size ≤ 2000000 := by
  rw [ByteArray.size_append, ByteArray.size_append, ByteArray.size_extract, ByteArray.size_extract]; omega
theorem room_facts (c more : ByteArray) (hc : c.size ≤ 49200) (hm : more.size ≤ 1048576) (p : Nat) : (c.extract 0 p).size + more.size ≤ 9223372036854775807 ∧ ∀ j, (c.extract 0 p ++ more).size + (c.extract j c.size).size ≤ 9223372036854775807 := by
  constructor
  · rw [ByteArray.size_extract]; omega
  · intro j
    rw [ByteArray.size_append, ByteArray.size_extract, ByteArray.size_extract]; omega
theorem again_v (s : ByteArray) (l : List S57) (texts : List ByteArray) (a : Int) (more : ByteArray) (hs : s.size ≤ 1048576) (hw : ∀ x ∈ l, (Lit.int .i64 x.f0).wf = true ∧ (Lit.int .i64 x.f1).wf = true ∧ (Lit.int .i64 x.f2).wf = true) (ha : (Lit.int .i64 a).wf = true) (hm : more.size ≤ 1048576) (v : Int) (hv : v = 1 ∨ v = 2) (K : Nat) (hK : 2000001 ≤ K) :
    careenlaw06_FrameAgain.l0 (K + 6) s l texts a more true v = careenlaw06_FrameAgain.l0 K s l texts a more true (v + 1) := by
  have b6 : v ≤ 2 := by omega
  have ho := okay_all hv texts l
  have hl := raws_len v texts l
  have hf1 := frames_eq v l texts hw (K + 5) (by omega)
  generalize raws v texts l = L at ho hl hf1
  have hb1 := bytes_of v L ho (by omega) (K + 5) (by omega)
  have hb := cat_bound v _ ho hl
  generalize hc : cat v L = c at hb hb1
  have e1 : wrap64 ((c.size : Int) + 1) = (c.size : Int) + 1 := wrap64_id (by omega) (by omega)
  have ep := pick_eq a ((c.size : Int) + 1) ha (by omega)
  obtain ⟨p0, p1⟩ := pickN_lt (c := a) (n := (c.size : Int) + 1) (by omega)
  generalize pickN a ((c.size : Int) + 1) = p at ep p0 p1
  obtain ⟨kk, rfl⟩ := Int.eq_ofNat_of_zero_le p0
  have b5 : (kk : Int) ≤ (c.size : Int) := by omega
  obtain ⟨j, hj, c1, c2⟩ : ∃ j : Nat, ((min (kk + more.size) c.size : Nat) : Int) = (j : Int) ∧ (0 : Int) ≤ (j : Int) ∧ (j : Int) ≤ (c.size : Int) := ⟨_, rfl, Int.natCast_nonneg _, Int.ofNat_le.mpr (Nat.min_le_right _ _)⟩
  have e2 : mn (wrap64 ((kk : Int) + (more.size : Int))) (c.size : Int) = ((j : Nat) : Int) := by
    rw [← hj, mn_eq, wrap64_id (by omega) (by omega)]
    clear hj ep e1
    omega
  obtain ⟨d1, d2⟩ := room_facts c more hb hm kk
  have d3 := d2 kk
  have d4 := d2 j
  clear d2
  rw [careenlaw06_FrameAgain.l0, if_pos b6, hf1, Option.bind_some, hb1, Option.bind_some]
  dsimp only
  rw [e1, ep, Option.bind_some, if_pos p0, if_pos b5, Int.toNat_natCast, if_pos d1, e2, if_pos c1, if_pos c2, Int.toNat_natCast, if_pos d4, if_pos d3, Option.bind_some]
  refine again_all v hv s l texts a more _ rfl ?_ K hK
  intro i hi
  have g1 := glue_size c more hb hm kk j
  have g2 := glue_size c more hb hm kk kk
  have hi4 : i < 4 := hi
  match i, hi4 with
  | 0, _ => show s.size ≤ 2000000; omega
  | 1, _ => show c.size ≤ 2000000; omega
  | 2, _ => exact g1
  | 3, _ => exact g2
theorem FrameAgain (s : ByteArray) (l : List S57) (texts : List ByteArray) (a : Int) (more : ByteArray) (hs : s.size ≤ 1048576) (_ : l.length * 24 ≤ 140737488351232) (hw : ∀ x ∈ l, (Lit.int .i64 x.f0).wf = true ∧ (Lit.int .i64 x.f1).wf = true ∧ (Lit.int .i64 x.f2).wf = true) (_ : texts.length * 16 ≤ 140737488351232) (_ : ∀ x ∈ texts, x.size ≤ 9223372036854775807) (ha : (Lit.int .i64 a).wf = true) (hm : more.size ≤ 1048576) : ∃ k, careenlaw06_FrameAgain.f k s l texts a more = some true := by
  refine ⟨2000014 + 6, ?_⟩
  unfold careenlaw06_FrameAgain.f
  rw [awake_eq _ (by omega), Option.bind_some, again_v s l texts a more hs hw ha hm 1 (.inl rfl) 2000014 (by omega), show 2000014 = 2000008 + 6 from rfl, again_v s l texts a more hs hw ha hm (1 + 1) (.inr rfl) 2000008 (by omega), careenlaw06_FrameAgain.l0, if_neg (by decide)]
#print axioms FrameAgain
end Go.Proofs.Ytmicfaeloanffaa.Pure
