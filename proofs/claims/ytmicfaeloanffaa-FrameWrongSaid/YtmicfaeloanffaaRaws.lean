/- Frames of raw numbers, in plain words; the first calls whose answers are fixed. -/
import Derived.Test.YtmicfaeloanffaaFrs
import Derived.Test.YtmicfaeloanffaaPAllx6
import Derived.Test.YtmicfaeloanffaaPFrx
namespace Go.Proofs.Ytmicfaeloanffaa.Frs
open Go.RowKit Go.Proofs.YtmicfaeloanffaaW.PrintWords Go.Proofs.YtmicfaeloanffaaW.PrintLast Go.Proofs.YtmicfaeloanffaaW.PrintMore Go.Proofs.Ytmicfaeloanffaa.PAll Go.Proofs.Ytmicfaeloanffaa.Base Go.Proofs.Ytmicfaeloanffaa.Crc Go.Proofs.Ytmicfaeloanffaa.Sums Go.Proofs.Ytmicfaeloanffaa.Vari Go.Proofs.Ytmicfaeloanffaa.Vars Go.Proofs.Ytmicfaeloanffaa.HandPut
theorem awake_eq (k : Nat) (hk : 60 ≤ k) : careenlaw06_awake.f k = some true :=
  at_rounds (fun k => careenlaw06_awake.mono k) hk (by decide +kernel)
theorem pick_eq (c n : Int) (hc : (Lit.int .i64 c).wf = true) (hn : 0 < n) : careenlaw06_pick.f c n = some (pickN c n) := by
  obtain ⟨h0, h1⟩ := wf_i64 hc
  exact pick_tells h0 h1 hn
/-- A raw frame's data. -/
def dat (texts : List ByteArray) (c : Int) : ByteArray := if (texts.length : Int) > 0 then (rdOf ByteArray.empty texts (pickN c (texts.length : Int))).extract 0 (mn ((rdOf ByteArray.empty texts (pickN c (texts.length : Int))).size : Int) 300).toNat else ⟨#[]⟩
theorem dat_size (texts : List ByteArray) (c : Int) : (dat texts c).size ≤ 300 := by
  unfold dat
  by_cases h : (texts.length : Int) > 0
  · rw [if_pos h, mn_eq, ByteArray.size_extract]; omega
  · rw [if_neg h]; exact Nat.zero_le _
/-- A raw frame. -/
def one (v : Int) (texts : List ByteArray) (x : S57) : S23 := if v = 2 then ⟨1 + pickN x.f0 255, pickN x.f1 256, dat texts x.f2⟩ else ⟨1 + pickN x.f0 9, 0, dat texts x.f2⟩
theorem one_okay (v : Int) (hv : v = 1 ∨ v = 2) (texts : List ByteArray) (x : S57) : Okay v (one v texts x) ∧ (one v texts x).f2.size ≤ 300 := by
  have hd := dat_size texts x.f2
  unfold one
  by_cases h : v = 2
  · obtain ⟨p0, p1⟩ := pickN_lt (c := x.f0) (n := 255) (by decide)
    obtain ⟨q0, q1⟩ := pickN_lt (c := x.f1) (n := 256) (by decide)
    rw [if_pos h]
    refine ⟨⟨hv, ?_, ?_, ?_, ?_, ?_, .inl h⟩, hd⟩ <;> dsimp only <;> omega
  · obtain ⟨p0, p1⟩ := pickN_lt (c := x.f0) (n := 9) (by decide)
    rw [if_neg h]
    refine ⟨⟨hv, ?_, ?_, ?_, ?_, ?_, .inr ⟨?_, rfl⟩⟩, hd⟩ <;> dsimp only <;> omega
/-- Raw frames: at most twelve. -/
def raws (v : Int) (texts : List ByteArray) (l : List S57) : List S23 := (l.take 12).map (one v texts)
theorem raws_okay (v : Int) (hv : v = 1 ∨ v = 2) (texts : List ByteArray) (l : List S57) : ∀ f ∈ raws v texts l, Okay v f ∧ f.f2.size ≤ 300 := by
  intro f hf
  obtain ⟨x, _, rfl⟩ := List.mem_map.mp hf
  exact one_okay v hv texts x
theorem raws_len (v : Int) (texts : List ByteArray) (l : List S57) : (raws v texts l).length ≤ 12 := by
  unfold raws
  rw [List.length_map, List.length_take]; omega
theorem rd57 (x : List S57) (i : Nat) (h : i < x.length) : rd_T57 x (i : Int) = x[i] := by
  unfold rd_T57
  rw [Int.toNat_natCast, List.getD_eq_getElem?_getD, List.getElem?_eq_getElem h]; rfl
theorem frames_round (v : Int) (l : List S57) (texts : List ByteArray) (i : Nat) (hi : i < l.length) (h12 : i < 12) (hw : (Lit.int .i64 l[i].f0).wf = true ∧ (Lit.int .i64 l[i].f1).wf = true ∧ (Lit.int .i64 l[i].f2).wf = true) (out : List S23) (ho : out.length < 4398046511104) (k : Nat) :
    careenlaw06_Frames.l0 (k + 2) v l texts out (i : Int) = careenlaw06_Frames.l0 k v l texts (out ++ [one v texts l[i]]) ((i + 1 : Nat) : Int) := by
  have b1 : (i : Int) < (l.length : Int) := by omega
  have b2 : (0 : Int) ≤ (i : Int) := by omega
  have b3 : (i : Int) < 12 := by omega
  have ew : wrap64 ((i : Int) + 1) = ((i + 1 : Nat) : Int) := by rw [wrap64_id (by omega) (by omega)]; omega
  obtain ⟨p0, p1⟩ := pickN_lt (c := l[i].f0) (n := 255) (by decide)
  obtain ⟨s0, s1⟩ := pickN_lt (c := l[i].f0) (n := 9) (by decide)
  have ea : wrap64 (1 + pickN l[i].f0 255) = 1 + pickN l[i].f0 255 := wrap64_id (by omega) (by omega)
  have eb : wrap64 (1 + pickN l[i].f0 9) = 1 + pickN l[i].f0 9 := wrap64_id (by omega) (by omega)
  clear p0 p1 s0 s1
  rw [show k + 2 = k + 1 + 1 from rfl, careenlaw06_Frames.l0, if_pos b1, decide_eq_true b3, careenlaw06_Frames.j1, if_pos rfl, if_pos b2, if_pos b1, rd57 l i hi, pick_eq _ 9 hw.1 (by decide), Option.bind_some, ew]
  unfold one
  by_cases ht : (texts.length : Int) > 0
  · obtain ⟨q0, q1⟩ := pickN_lt (c := l[i].f2) (n := (texts.length : Int)) (by omega)
    have ed : dat texts l[i].f2 = (rdOf ByteArray.empty texts (pickN l[i].f2 (texts.length : Int))).extract 0 (mn ((rdOf ByteArray.empty texts (pickN l[i].f2 (texts.length : Int))).size : Int) 300).toNat := if_pos ht
    rw [ed]
    have hm : (0 : Int) ≤ mn ((rdOf ByteArray.empty texts (pickN l[i].f2 (texts.length : Int))).size : Int) 300 ∧ mn ((rdOf ByteArray.empty texts (pickN l[i].f2 (texts.length : Int))).size : Int) 300 ≤ ((rdOf ByteArray.empty texts (pickN l[i].f2 (texts.length : Int))).size : Int) := by rw [mn_eq]; omega
    by_cases h : v = 2
    · rw [if_pos h, if_pos h, pick_eq _ 255 hw.1 (by decide), Option.bind_some, pick_eq _ 256 hw.2.1 (by decide), Option.bind_some, if_pos ht, pick_eq _ _ hw.2.2 ht, Option.bind_some, if_pos q0, if_pos q1, if_pos hm.1, if_pos hm.2, if_pos ho, ea]
    · rw [if_neg h, if_neg h, if_pos ht, pick_eq _ _ hw.2.2 ht, Option.bind_some, if_pos q0, if_pos q1, if_pos hm.1, if_pos hm.2, if_pos ho, eb]
  · have ed : dat texts l[i].f2 = ⟨#[]⟩ := if_neg ht
    rw [ed]
    by_cases h : v = 2
    · rw [if_pos h, if_pos h, pick_eq _ 255 hw.1 (by decide), Option.bind_some, pick_eq _ 256 hw.2.1 (by decide), Option.bind_some, if_neg ht, if_pos ho, ea]
    · rw [if_neg h, if_neg h, if_neg ht, if_pos ho, eb]
theorem frames_loop (v : Int) (l : List S57) (texts : List ByteArray) (hw : ∀ x ∈ l, (Lit.int .i64 x.f0).wf = true ∧ (Lit.int .i64 x.f1).wf = true ∧ (Lit.int .i64 x.f2).wf = true) : ∀ (d i k : Nat) (out : List S23), i + d = min l.length 12 → 2 * d + 2 ≤ k → out = ((l.take i).map (one v texts)) →
    careenlaw06_Frames.l0 k v l texts out (i : Int) = some (raws v texts l) := by
  intro d
  induction d with
  | zero =>
    intro i k out hi hk ho
    obtain ⟨k, rfl⟩ : ∃ m, k = m + 1 + 1 := ⟨k - 2, by omega⟩
    have e : out = raws v texts l := by
      rw [ho]
      unfold raws
      by_cases h : l.length ≤ 12
      · rw [List.take_of_length_le (by omega), List.take_of_length_le (by omega)]
      · rw [show i = 12 from by omega]
    rw [careenlaw06_Frames.l0, e]
    by_cases h : (i : Int) < (l.length : Int)
    · rw [if_pos h, decide_eq_false (by omega), careenlaw06_Frames.j1, if_neg (by decide)]
    · rw [if_neg h, careenlaw06_Frames.j1, if_neg (by decide)]
  | succ d ih =>
    intro i k out hi hk ho
    obtain ⟨k, rfl⟩ : ∃ m, k = m + 2 := ⟨k - 2, by omega⟩
    have hil : i < l.length := by omega
    have hol : out.length < 4398046511104 := by rw [ho, List.length_map, List.length_take]; omega
    rw [frames_round v l texts i hil (by omega) (hw _ (List.getElem_mem hil)) out hol k]
    apply ih (i + 1) k _ (by omega) (by omega)
    rw [ho, List.take_succ_eq_append_getElem hil, List.map_append]; rfl
theorem frames_eq (v : Int) (l : List S57) (texts : List ByteArray) (hw : ∀ x ∈ l, (Lit.int .i64 x.f0).wf = true ∧ (Lit.int .i64 x.f1).wf = true ∧ (Lit.int .i64 x.f2).wf = true) (k : Nat) (hk : 30 ≤ k) : careenlaw06_Frames.f k v l texts = some (raws v texts l) :=
  frames_loop v l texts hw (min l.length 12) 0 k [] (by omega) (by omega) rfl
theorem okay_all {v : Int} (hv : v = 1 ∨ v = 2) (texts : List ByteArray) (l : List S57) : ∀ f ∈ raws v texts l, Okay v f := fun f hf => (raws_okay v hv texts l f hf).1
theorem rd23 (x : List S23) (i : Nat) (h : i < x.length) : rd_T23 x (i : Int) = x[i] := by
  unfold rd_T23
  rw [Int.toNat_natCast, List.getD_eq_getElem?_getD, List.getElem?_eq_getElem h]; rfl
end Go.Proofs.Ytmicfaeloanffaa.Frs
