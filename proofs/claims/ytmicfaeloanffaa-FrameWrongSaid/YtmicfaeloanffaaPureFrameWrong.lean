/- What the calls of a round of FrameWrong answer, in plain words. -/
import Derived.Test.YtmicfaeloanffaaWrong
import Derived.Test.YtmicfaeloanffaaWrongw
namespace Go.Proofs.Ytmicfaeloanffaa.Pure
open Go.RowKit Go.Proofs.YtmicfaeloanffaaW.PrintWords Go.Proofs.YtmicfaeloanffaaW.PrintLast Go.Proofs.YtmicfaeloanffaaW.PrintMore Go.Proofs.Ytmicfaeloanffaa.PAll Go.Proofs.Ytmicfaeloanffaa.Base Go.Proofs.Ytmicfaeloanffaa.Vars Go.Proofs.Ytmicfaeloanffaa.Frs Go.Proofs.Ytmicfaeloanffaa.WrongW
theorem cat_one (v : Int) (f : S23) : cat v [f] = encB v f := by
  apply bl_inj
  rw [bl_cat, catL, catL, List.append_nil]
theorem raws_pos (v : Int) (texts : List ByteArray) (l : List S57) (h : l ≠ []) : 0 < (raws v texts l).length := by
  have : 0 < l.length := List.length_pos_iff.mpr h
  unfold raws
  rw [List.length_map, List.length_take]; omega
/-- A byte of a text, turned by a number. -/
theorem turned (O : ByteArray) (p y : Nat) (hp : p < O.toList.length) (hy : y < 255) : (strOfNums ((nums O).set p (Go.bits .xor .u8 ((nums O)[p]?.getD 0) ((1 + (y : Int)) % 256)))).toList = O.toList.set p (O.toList[p] ^^^ UInt8.ofNat (1 + y)) ∧ O.toList[p]? ≠ some (O.toList[p] ^^^ UInt8.ofNat (1 + y)) := by
  have e : nums O = numsL O.toList := rfl
  have hb : ((UInt8.ofNat (1 + y)).toNat : Int) = (1 + (y : Int)) % 256 := by
    have : (UInt8.ofNat (1 + y)).toNat = (1 + y) % 256 := by simp
    rw [this]; omega
  constructor
  · rw [e, numsL_set O.toList p hp (UInt8.ofNat (1 + y)) _ hb.symm, numsL_back]
  · rw [List.getElem?_eq_getElem hp]
    intro h
    have hn : UInt8.ofNat (1 + y) ≠ 0 := by
      intro h0
      have h1 := congrArg UInt8.toNat h0
      have h2 : (UInt8.ofNat (1 + y)).toNat = (1 + y) % 256 := by simp
      rw [h2] at h1
      have h3 : (0 : UInt8).toNat = 0 := rfl
      omega
    exact xor_ne _ _ hn (Option.some.inj h).symm
theorem facts_of (l : List S57) (texts : List ByteArray) (wh at_ by_ : Int) (hl0 : l ≠ []) (hw : ∀ x ∈ l, (Lit.int .i64 x.f0).wf = true ∧ (Lit.int .i64 x.f1).wf = true ∧ (Lit.int .i64 x.f2).wf = true) (h1 : (Lit.int .i64 wh).wf = true) (h2 : (Lit.int .i64 at_).wf = true) (h3 : (Lit.int .i64 by_).wf = true) (v : Int) (hv : v = 1 ∨ v = 2) :
    ∃ L P M D i q y H O R, Facts v l texts wh at_ by_ L P M D i q y H O R := by
  have ho := okay_all hv texts l
  have hl := raws_len v texts l
  have hf := frames_eq v l texts hw 100 (by decide)
  have hp := raws_pos v texts l hl0
  generalize raws v texts l = L at ho hl hf hp
  have hLp : (0 : Int) < (L.length : Int) := by omega
  have e1 := pick_eq wh (L.length : Int) h1 hLp
  obtain ⟨p0, p1⟩ := pickN_lt (c := wh) (n := (L.length : Int)) hLp
  generalize pickN wh (L.length : Int) = pw at e1 p0 p1
  obtain ⟨i, rfl⟩ := Int.eq_ofNat_of_zero_le p0
  have hi : i < L.length := by omega
  have hD0 : rd_T23 L (i : Int) = L[i] := rd23 L i hi
  have hok := ho _ (List.getElem_mem hi)
  have h6 : L[i].f2.size ≤ 4000 := hok.2.2.2.2.2.1
  have hM : (L.take (i + 1)).drop i = [L[i]] := by
    rw [List.take_succ_eq_append_getElem hi, List.drop_left' (by rw [List.length_take]; omega)]
  have hoP : ∀ f ∈ L.take i, Okay v f := fun f h => ho f (List.mem_of_mem_take h)
  have hoD : ∀ f ∈ L.drop (i + 1), Okay v f := fun f h => ho f (List.mem_of_mem_drop h)
  have hoM : ∀ f ∈ [L[i]], Okay v f := fun f h => by rw [List.mem_singleton.mp h]; exact hok
  have lP : (L.take i).length ≤ 12 := by rw [List.length_take]; omega
  have lD : (L.drop (i + 1)).length ≤ 12 := by rw [List.length_drop]; omega
  have bP := bytes_of v _ hoP (by omega) 100 (by omega)
  have bD := bytes_of v _ hoD (by omega) 100 (by omega)
  have bM := bytes_of v _ hoM (by rw [List.length_singleton]; omega) 100 (by rw [List.length_singleton]; omega)
  rw [cat_one] at bM
  have sP := cat_bound v _ hoP lP
  have sD := cat_bound v _ hoD lD
  have hbs := hB_size v L[i] h6
  have hes := encB_size v L[i]
  have hmp : (0 : Int) < (L[i].f2.size : Int) + 4 := by omega
  have e2 := pick_eq at_ ((L[i].f2.size : Int) + 4) h2 hmp
  obtain ⟨q0, q1⟩ := pickN_lt (c := at_) (n := (L[i].f2.size : Int) + 4) hmp
  generalize pickN at_ ((L[i].f2.size : Int) + 4) = pq at e2 q0 q1
  obtain ⟨q, rfl⟩ := Int.eq_ofNat_of_zero_le q0
  have e3 := pick_eq by_ 255 h3 (by decide)
  obtain ⟨y0, y1⟩ := pickN_lt (c := by_) (n := 255) (by decide)
  generalize pickN by_ 255 = py at e3 y0 y1
  obtain ⟨y, rfl⟩ := Int.eq_ofNat_of_zero_le y0
  have hq : q < L[i].f2.size + 4 := by omega
  have hy : y < 255 := by omega
  clear q0 q1 y0 y1 p0 p1 hmp hLp
  have hsz : (encB v L[i]).size ≤ 5000 := by omega
  have hpl : (encB v L[i]).size - 1 - q < (encB v L[i]).toList.length := by rw [← tl_size]; omega
  obtain ⟨t1, t2⟩ := turned (encB v L[i]) ((encB v L[i]).size - 1 - q) y hpl hy
  have hscan := scan_wrong v hv (L.take i) hoP lP L[i] hok _ (cat v (L.drop (i + 1))) (by omega) ((encB v L[i]).size - 1 - q) (by omega) (by omega) _ t1 t2 100 (by decide)
  refine ⟨L, L.take i, [L[i]], L.drop (i + 1), i, q, y, cat v (L.take i), encB v L[i], cat v (L.drop (i + 1)), ?_⟩
  exact ⟨rfl, hM.symm, rfl, hf, hi, hl, e1, bP, bM, bD, by omega, hsz, by omega, by rw [hD0]; omega, by rw [hD0]; exact e2, by rw [hD0]; exact hq, e3, hy, hscan, same_eq _ (by omega) 100 (by omega)⟩
theorem frames_none (texts : List ByteArray) (v : Int) : careenlaw06_Frames.f 100 v [] texts = some [] := frames_eq v [] texts (fun _ h => by cases h) 100 (by decide)
#print axioms facts_of
end Go.Proofs.Ytmicfaeloanffaa.Pure
