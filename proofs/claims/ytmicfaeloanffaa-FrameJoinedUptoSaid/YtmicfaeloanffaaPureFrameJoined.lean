/- FrameJoined: what its printed answer is, in plain words, where the text is of at most 1048576 bytes. -/
import Derived.Test.YtmicfaeloanffaaFrs4
import Derived.Test.YtmicfaeloanffaaSam
import Derived.Test.YtmicfaeloanffaaPJoi
namespace Go.Proofs.Ytmicfaeloanffaa.Pure
open Go.RowKit Go.Proofs.YtmicfaeloanffaaW.PrintWords Go.Proofs.YtmicfaeloanffaaW.PrintLast Go.Proofs.YtmicfaeloanffaaW.PrintMore Go.Proofs.Ytmicfaeloanffaa.PAll Go.Proofs.Ytmicfaeloanffaa.Base Go.Proofs.Ytmicfaeloanffaa.Frs Go.Proofs.Ytmicfaeloanffaa.Vars
/-- The facts on what was scanned of a text by itself, and behind whole frames. -/
theorem joined_scan (v : Int) (hv : v = 1 ∨ v = 2) (L : List S23) (h : ∀ f ∈ L, Okay v f) (hl : L.length ≤ 12) (more : ByteArray) (hm : more.size ≤ 1048576) (K : Nat) (hK : 2000050 ≤ K) :
    ∃ A n e, frame_Scan.f K v more = some (A, ((n : Nat) : Int), e) ∧ frame_Scan.f K v (cat v L ++ more) = some (L ++ A, (((cat v L).size + n : Nat) : Int), e) ∧ n ≤ 1048576 ∧ A.length ≤ 200000 := by
  have hb := cat_bound v L h hl
  obtain ⟨A, n, e, h1, h2, h3, h4, h5⟩ := scan_text v hv more (by omega) (K - L.length) (by omega)
  have hsame : frame_Scan.f K v more = some (A, ((n : Nat) : Int), e) := at_rounds (g := fun k => frame_Scan.f k v more) (fun k => frame_Scan.mono v more k) (k := K - L.length) (k' := K) (by omega) h1
  refine ⟨A, n, e, hsame, ?_, by omega, by omega⟩
  have e1 := scan_from v hv L h hl (cat v L ++ more) (by rw [ByteArray.size_append]; omega) (bl more) (by rw [bl_append, bl_cat]) (K - L.length)
  rw [show K - L.length + L.length = K from by omega] at e1
  have e2 := scan_shift v hv (cat v L) more (by omega) (by omega) L hl (K - L.length) 0 [] (Nat.zero_le _) (Nat.zero_le _)
  rw [List.append_nil, Nat.add_zero] at e2
  rw [e1, e2]
  have e3 : frame_Scan.l0 (K - L.length) v more [] ((0 : Nat) : Int) = some (A, ((n : Nat) : Int), e) := by
    rw [← h1, scan_v v hv]; rfl
  rw [e3, Option.map_some]
  show some (L ++ A, ((cat v L).size : Int) + (n : Int), e) = _
  rw [Int.natCast_add]
theorem joined_round (l : List S57) (texts : List ByteArray) (more : ByteArray) (hw : ∀ x ∈ l, (Lit.int .i64 x.f0).wf = true ∧ (Lit.int .i64 x.f1).wf = true ∧ (Lit.int .i64 x.f2).wf = true) (hm : more.size ≤ 1048576) (v : Int) (hv : v = 1 ∨ v = 2) (K : Nat) (hK : 2000050 ≤ K) :
    careenlaw06_FrameJoined.l0 (K + 1) l texts more true v = careenlaw06_FrameJoined.l0 K l texts more true (v + 1) := by
  have b6 : v ≤ 2 := by omega
  have ew : wrap64 (v + 1) = v + 1 := wrap64_id (by omega) (by omega)
  have ho := okay_all hv texts l
  have hl := raws_len v texts l
  have hf1 := frames_eq v l texts hw K (by omega)
  generalize raws v texts l = L at ho hl hf1
  have hb1 := bytes_of v L ho (by omega) K (by omega)
  have hb := cat_bound v _ ho hl
  obtain ⟨A, n, e, h1, h2, h3, h4⟩ := joined_scan v hv L ho hl more hm K hK
  have hsL := same_eq L (by omega) K (by omega)
  have hsA := same_eq A (by omega) K (by omega)
  generalize cat v L = c at hb hb1 h2
  have d1 : c.size + more.size ≤ 9223372036854775807 := by omega
  have e1 : ((c.size + n : Nat) : Int) = wrap64 ((c.size : Int) + ((n : Nat) : Int)) := by rw [wrap64_id (by omega) (by omega)]; omega
  have e2 : (((L ++ A).length : Nat) : Int) = wrap64 ((L.length : Int) + (A.length : Int)) := by rw [List.length_append, wrap64_id (by omega) (by omega)]; omega
  have e3 : mn (L.length : Int) (((L ++ A).length : Nat) : Int) = (L.length : Int) := by rw [mn_eq, List.length_append]; omega
  have c1 : (0 : Int) ≤ (L.length : Int) := by omega
  have c2 : (L.length : Int) ≤ (((L ++ A).length : Nat) : Int) := by rw [List.length_append]; omega
  have t1 : (L ++ A).take L.length = L := List.take_left' rfl
  have t2 : (L ++ A).drop L.length = A := List.drop_left' rfl
  rw [careenlaw06_FrameJoined.l0, if_pos b6, hf1, Option.bind_some, hb1, Option.bind_some]
  dsimp only
  rw [h1, Option.bind_some, if_pos d1, h2, Option.bind_some]
  dsimp only
  rw [if_pos (show true = true from rfl), if_pos (show e = e from rfl), if_pos e1, if_pos e2, e3, if_pos c1, if_pos c2, Int.toNat_natCast, t1, hsL, Option.bind_some, if_pos (show true = true from rfl), t2, hsA, Option.bind_some, if_pos (show true = true from rfl), ew]
theorem FrameJoined (l : List S57) (texts : List ByteArray) (more : ByteArray) (_ : l.length * 24 ≤ 140737488351232) (hw : ∀ x ∈ l, (Lit.int .i64 x.f0).wf = true ∧ (Lit.int .i64 x.f1).wf = true ∧ (Lit.int .i64 x.f2).wf = true) (_ : texts.length * 16 ≤ 140737488351232) (_ : ∀ x ∈ texts, x.size ≤ 9223372036854775807) (hm : more.size ≤ 1048576) : ∃ k, careenlaw06_FrameJoined.f k l texts more = some true := by
  refine ⟨2000053, ?_⟩
  unfold careenlaw06_FrameJoined.f
  rw [awake_eq _ (by omega), Option.bind_some, joined_round l texts more hw hm 1 (.inl rfl) 2000052 (by omega), joined_round l texts more hw hm (1 + 1) (.inr rfl) 2000051 (by omega), careenlaw06_FrameJoined.l0, if_neg (by decide)]
#print axioms FrameJoined
end Go.Proofs.Ytmicfaeloanffaa.Pure
