/- The walk of the law FrameWrong: frames' bytes, one of which is written anew between two conversions. -/
import Derived.Test.YtmicfaeloanffaaPAllx5
import Derived.Test.YtmicfaeloanffaaPAllx6
import Derived.Test.YtmicfaeloanffaaPFrx
import Derived.Test.YtmicfaeloanffaaPByt
import Derived.Test.YtmicfaeloanffaaPAllx9
import Derived.Test.YtmicfaeloanffaaBase
import Derived.LoopN
import Derived.StillTailTactics
import Derived.Deep.RegionWith
import Derived.Lib.ConvBytes
namespace Go.Proofs.Ytmicfaeloanffaa.WrongW
open Go.RowKit Go.Proofs.YtmicfaeloanffaaW.PrintWords Go.Proofs.YtmicfaeloanffaaW.PrintLast Go.Proofs.YtmicfaeloanffaaW.PrintMore Go.Proofs.Ytmicfaeloanffaa.PAll Go.Proofs.Ytmicfaeloanffaa.Base
set_option linter.unusedVariables false
set_option linter.unusedSimpArgs false
/-- Block g begins with these bytes, which may be written. -/
def Row (W : World) (g : Nat) (xs : List Int) : Prop := ∀ j, j < xs.length → W.cell? ⟨g, j, none⟩ = some (.int .u8 (xs.getD j 0)) ∧ W.frozen? ⟨g, j, none⟩ = false
theorem Row.set {W : World} {g : Nat} {xs : List Int} (h : Row W g xs) (i : Nat) (hi : i < xs.length) (v : Int) : Row (W.setCell ⟨g, i, none⟩ (.int .u8 v)) g (xs.set i v) := by
  intro j hj
  rw [List.length_set] at hj
  rw [World.frozen?_setCell, List.getD_eq_getElem?_getD, List.getElem?_set]
  refine ⟨?_, (h j hj).2⟩
  by_cases e : i = j
  · subst e
    rw [if_pos rfl, if_pos hi]
    exact World.cell?_setCell_same _ _ _ (h i hi).1
  · rw [if_neg e, World.cell?_setCell_other _ _ _ _ (by simp), ← List.getD_eq_getElem?_getD]
    exact (h j hj).1
theorem Row.drew {W : World} {g : Nat} {xs : List Int} (h : Row W g xs) : Row W.drew g xs := h
theorem Row.drewN {W : World} {g : Nat} {xs : List Int} (h : Row W g xs) (n : Nat) : Row (W.drewN n) g xs := h
def nums (t : ByteArray) : List Int := t.toList.map fun b => (b.toNat : Int)
theorem conv_facts (w1 : World) (t : ByteArray) : Row (Go.Lib.bytesWorld w1 5 t) w1.heap.size (nums t) ∧ ∀ B, B ≤ w1.heap.size → Below B w1 (Go.Lib.bytesWorld w1 5 t) := by
  have hz : (Go.Lib.bytesCells w1 5 t).size = t.size + (grownCap w1 t.size 0 5 - t.size) := by
    unfold Go.Lib.bytesCells
    rw [Array.size_append, Array.size_map, Array.size_replicate]; rfl
  constructor
  · intro j hj
    unfold nums at hj
    rw [List.length_map, ← tl_size] at hj
    constructor
    · rw [Go.Lib.bytesWorld_cell w1 5 t j hj]
      unfold nums
      rw [List.getD_eq_getElem?_getD, List.getD_eq_getElem?_getD, List.getElem?_map, tl_eq, List.getElem?_eq_getElem (by rw [Array.length_toList]; exact hj)]
      rfl
    · unfold World.frozen?
      rw [Go.Lib.bytesWorld_at_new]
      simp
      omega
  · intro B hB
    exact ⟨rfl, rfl, rfl, by rw [Go.Lib.bytesWorld_size]; omega, fun k hk => Go.Lib.bytesWorld_at_old w1 5 t k (by omega)⟩
theorem bits_xor_u8 (a b : UInt8) : Go.bits .xor .u8 (a.toNat : Int) (b.toNat : Int) = ((a ^^^ b).toNat : Int) := by
  have e : Go.bits .xor .u8 (a.toNat : Int) (b.toNat : Int) = IntKind.u8.wrap (((BitVec.ofInt 8 (a.toNat : Int)) ^^^ (BitVec.ofInt 8 (b.toNat : Int))).toNat : Int) := rfl
  have e1 : BitVec.ofInt 8 (a.toNat : Int) = a.toBitVec := ofInt_nat a.toBitVec
  have e2 : BitVec.ofInt 8 (b.toNat : Int) = b.toBitVec := ofInt_nat b.toBitVec
  rw [e, e1, e2, IntKind.wrap_u8]
  have := (a.toBitVec ^^^ b.toBitVec).isLt
  show (((a.toBitVec ^^^ b.toBitVec).toNat : Int)) % 256 = ((a.toBitVec ^^^ b.toBitVec).toNat : Int)
  omega
def numsL (l : List UInt8) : List Int := l.map fun b => (b.toNat : Int)
theorem numsL_at (l : List UInt8) (i : Nat) (h : i < l.length) : (numsL l)[i]?.getD 0 = (l[i].toNat : Int) := by
  unfold numsL
  rw [List.getElem?_map, List.getElem?_eq_getElem h]; rfl
theorem numsL_set (l : List UInt8) (i : Nat) (h : i < l.length) (c : UInt8) (v : Int) (hv : v = (c.toNat : Int)) : (numsL l).set i (Go.bits .xor .u8 ((numsL l)[i]?.getD 0) v) = numsL (l.set i (l[i] ^^^ c)) := by
  rw [numsL_at l i h, hv, bits_xor_u8]
  unfold numsL
  rw [List.map_set]
theorem numsL_back (l : List UInt8) : (strOfNums (numsL l)).toList = l := by
  rw [tl_nums]
  unfold numsL
  rw [List.map_map]
  have e : ((fun n : Int => UInt8.ofNat n.toNat) ∘ fun b : UInt8 => (b.toNat : Int)) = id := by
    funext b
    simp
  rw [e, List.map_id]
/-- What the calls of a round answer. -/
structure Facts (v : Int) (l0 : List S57) (l1 : List ByteArray) (wh at_ by_ : Int) (L P M D : List S23) (i q y : Nat) (H O R : ByteArray) : Prop where
  isP : P = L.take i
  isM : M = (L.take (i + 1)).drop i
  isD : D = L.drop (i + 1)
  frames : careenlaw06_Frames.f 100 v l0 l1 = some L
  i_lt : i < L.length
  short : L.length ≤ 12
  which : careenlaw06_pick.f wh (L.length : Int) = some (i : Int)
  head : careenlaw06_bytes.f 100 v P = some (H, true)
  one : careenlaw06_bytes.f 100 v M = some (O, true)
  rest : careenlaw06_bytes.f 100 v D = some (R, true)
  hsize : H.size ≤ 50000
  osize : O.size ≤ 5000
  rsize : R.size ≤ 50000
  data : (rd_T23 L (i : Int)).f2.size + 4 ≤ O.size
  place : careenlaw06_pick.f at_ (((rd_T23 L (i : Int)).f2.size : Int) + 4) = some (q : Int)
  q_lt : q < (rd_T23 L (i : Int)).f2.size + 4
  turn : careenlaw06_pick.f by_ 255 = some (y : Int)
  y_lt : y < 255
  scan : frame_Scan.f 100 v (H ++ strOfNums ((nums O).set (O.size - 1 - q) (Go.bits .xor .u8 ((nums O)[O.size - 1 - q]?.getD 0) ((1 + (y : Int)) % 256))) ++ R) = some (P, (H.size : Int), 11)
  same : careenref06_Same.f 100 P P = some true
set_option maxHeartbeats 8000000 in
theorem pick_same (a0 : Int) (a1 : Int) (r : Int) (w : World) (h : careenlaw06_pick.f a0 a1 = some r) :
    Calls Try.prog 17 #[.int .i64 a0, .int .i64 a1] w fun e w' => e = .returned (.int .i64 r) ∧ w = w' := by
  have H : (if a0 < 0 then (if a1 = 0 then (none) else (some (Int.tmod (wrap64 (-(wrap64 (a0 + 1)))) a1))) else (if a1 = 0 then (none) else (some (Int.tmod a0 a1)))) = some r := h
  clear h
  by_cases c3 : a0 < 0
  · rw [if_pos c3] at H
    have c3b0 : decide (a0 < 0) = true := decide_eq_true c3
    clear c3
    by_cases c4 : a1 = 0
    · rw [if_pos c4] at H
      exact absurd H (by simp)
    · rw [if_neg c4] at H
      have c4b0 : (a1 == 0) = false := beq_eq_false_iff_ne.mpr c4
      have c4b1 : (a1 != 0) = true := bne_iff_ne.mpr c4
      obtain rfl := Option.some.inj H
      go_enter Try.func17, Try.ntmps17
      go_wp2
      go_ret
      exact ⟨by first | rfl | (simp; done) | (simp [*]; done), rfl⟩
  · rw [if_neg c3] at H
    have c3b0 : decide (a0 < 0) = false := decide_eq_false c3
    clear c3
    by_cases c5 : a1 = 0
    · rw [if_pos c5] at H
      exact absurd H (by simp)
    · rw [if_neg c5] at H
      have c5b0 : (a1 == 0) = false := beq_eq_false_iff_ne.mpr c5
      have c5b1 : (a1 != 0) = true := bne_iff_ne.mpr c5
      obtain rfl := Option.some.inj H
      go_enter Try.func17, Try.ntmps17
      go_wp2
      go_ret
      exact ⟨by first | rfl | (simp; done) | (simp [*]; done), rfl⟩
theorem cuts (ad : Addr) (L P M D : List S23) (c i : Nat) (w : World) (hC : Kd.C k23 w (some ad) L.length L) (hcl : L.length ≤ c) (hi : i < L.length) (hsh : L.length ≤ 12) (hP : P = L.take i) (hM : M = (L.take (i + 1)).drop i) (hD : D = L.drop (i + 1)) :
    ∃ A2 A3 : Option Addr, ∃ c2 c3 : Nat, (∀ W : World, (Instr.slice 32 (.slice (some ad) L.length c) none (some (.int .i64 (i : Int))) none).run Try.prog W = .ok (.slice (some ad) P.length c) W) ∧
      (∀ W : World, (Instr.slice 32 (.slice (some ad) L.length c) (some (.int .i64 (i : Int))) (some (.int .i64 ((i : Int) + 1))) none).run Try.prog W = .ok (.slice A2 M.length c2) W) ∧
      (∀ W : World, (Instr.slice 32 (.slice (some ad) L.length c) (some (.int .i64 ((i : Int) + 1))) none none).run Try.prog W = .ok (.slice A3 D.length c3) W) ∧
      Kd.C k23 w (some ad) P.length P ∧ Kd.C k23 w A2 M.length M ∧ Kd.C k23 w A3 D.length D ∧ P.length ≤ c ∧ M.length ≤ c2 ∧ D.length ≤ c3 ∧ wrap64 ((i : Int) + 1) = (i : Int) + 1 := by
  obtain ⟨f0, hf0, _, hsz0, _⟩ := info_parts info23
  have hPl : P.length = i := by rw [hP, List.length_take]; omega
  have hMl : M.length = 1 := by rw [hM, List.length_drop, List.length_take]; omega
  have hDl : D.length = L.length - (i + 1) := by rw [hD, List.length_drop]
  refine ⟨if c = i then some ad else (some ad).map (·.add (i * 3)), if c = i + 1 then some ad else (some ad).map (·.add ((i + 1) * 3)), c - i, c - (i + 1), ?_, ?_, ?_, ?_, ?_, ?_, by omega, by omega, by omega, wrap64_id (by omega) (by omega)⟩
  · intro W
    have h := cut_to (P := Try.prog) 32 23 .i64 Try.underlying32 hf0 (some ad) L.length c (i : Int) (Int.natCast_nonneg _) (by omega) hcl W
    rw [Int.toNat_natCast] at h
    rw [h, hPl]
  · intro W
    have h := cut_mid (P := Try.prog) 32 23 .i64 .i64 Try.underlying32 hf0 3 hsz0 (some ad) L.length c (i : Int) ((i : Int) + 1) (Int.natCast_nonneg _) (by omega) (by omega) hcl W
    rw [Int.toNat_natCast, show ((i : Int) + 1).toNat = i + 1 from by omega] at h
    rw [h, hMl, Nat.add_sub_cancel_left]
  · intro W
    have h := cut_from (P := Try.prog) 32 23 .i64 Try.underlying32 hf0 3 hsz0 (some ad) L.length c ((i : Int) + 1) (by omega) (by omega) W
    rw [show ((i : Int) + 1).toNat = i + 1 from by omega] at h
    rw [h, hDl]
  · rw [hP]; exact Kd.C_take hC (Nat.le_of_lt hi)
  · rw [hM]; exact Kd.C_mid hC (Nat.le_succ _) hi hcl
  · rw [hD]; exact Kd.C_drop hC hi hcl
set_option maxHeartbeats 8000000 in
set_option maxRecDepth 100000 in
theorem walk_none (A0 : Option Addr) (c0 : Nat) (l0 : List S57) (A1 : Option Addr) (c1 : Nat) (l1 : List ByteArray) (wh at_ by_ : Int) (w : World) (hr0_ : Kd.C k57 w A0 l0.length l0) (hc0_ : l0.length ≤ c0) (hr1_ : Kd.C Kd.string w A1 l1.length l1) (hc1_ : l1.length ≤ c1) (haw_ : careenlaw06_awake.f 100 = some true) (hE_ : ∀ v : Int, v = 1 ∨ v = 2 → careenlaw06_Frames.f 100 v l0 l1 = some []) :
    Calls Try.prog 6 #[.slice A0 l0.length c0, .slice A1 l1.length c1, .int .i64 wh, .int .i64 at_, .int .i64 by_] w fun e w' => e = .returned (.bool true) ∧ Below w.heap.size w w' := by
  have hr0 := Aside0.mk hr0_
  have hc0 := Aside0.mk hc0_
  have hr1 := Aside0.mk hr1_
  have hc1 := Aside0.mk hc1_
  have haw := Aside0.mk haw_
  have hE := Aside0.mk hE_
  clear hr0_ hc0_ hr1_ hc1_ haw_ hE_
  have HB := Aside0.mk (Below.refl w.heap.size w)
  go_enter Try.func6, Try.ntmps6
  go_wp2_with (first | (go_at_call 11; (with_reducible refine (careenlaw06_awake.calls 100 true _ haw.out).mono ?_); rintro e w1 ⟨rfl, hb⟩; have n0_ := Aside0.mk (below_step (by repeat (first | (with_reducible first | exact HB.out | apply below_alloc | apply pw_below_drewN | apply below_drew1) | exact HB.out)) hb); clear HB; have HB := n0_; clear n0_ hb))
  go_loopw [12] (fun v wr => ∃ k : Nat, 1 ≤ k ∧ k ≤ 3 ∧ v = .int .i64 (k : Int) ∧ Aside0 (Below w.heap.size w wr)) (fun v _ => 3 - (intOf v).toNat)
  case atStart => exact ⟨1, by decide, by decide, rfl, ⟨(by repeat (first | (with_reducible first | exact HB.out | apply below_alloc | apply pw_below_drewN | apply below_drew1) | exact HB.out))⟩⟩
  case round =>
    obtain ⟨k, hk1, hk3, rfl, HB⟩ := hrel
    by_cases hlt : k ≤ 2
    · have e1 : decide ((k : Int) ≤ 2) = true := decide_eq_true (by omega)
      have HF := Aside0.mk (hE.out (k : Int) (by omega))
      have b0 : (0 : Int) ≤ (k : Int) := by omega
      have b1 : (k : Int) ≤ 3 := by omega
      go_wp2_with (first | (go_at_call 16; (with_reducible refine (careenlaw06_Frames.calls 100 (k : Int) A0 c0 l0 A1 c1 l1 [] _ ?s1 hc0.out ?s2 hc1.out HF.out).mono ?_); (case s1 => exact Kd.C_below hr0.out (by repeat (first | (with_reducible first | exact HB.out | apply below_alloc | apply pw_below_drewN | apply below_drew1) | exact HB.out))); (case s2 => exact Kd.C_below hr1.out (by repeat (first | (with_reducible first | exact HB.out | apply below_alloc | apply pw_below_drewN | apply below_drew1) | exact HB.out))); rintro e w5 ⟨v0, rfl, ho, hb⟩; obtain ⟨A, c, eA⟩ := Kd.R_slice ho; subst eA; clear ho; have n0_ := Aside0.mk (below_step (by repeat (first | (with_reducible first | exact HB.out | apply below_alloc | apply pw_below_drewN | apply below_drew1) | exact HB.out)) hb); clear HB; have HB := n0_; clear n0_ hb))
      go_roundw
      case rel => exact ⟨k + 1, by omega, by omega, by go_num, ⟨(by repeat (first | (with_reducible first | exact HB.out | apply below_alloc | apply pw_below_drewN | apply below_drew1) | exact HB.out))⟩⟩
      case measure => simp [intOf]; omega
    · have e1 : decide ((k : Int) ≤ 2) = false := decide_eq_false (by omega)
      go_wp2
      go_ret
      exact ⟨rfl, (by repeat (first | (with_reducible first | exact HB.out | apply below_alloc | apply pw_below_drewN | apply below_drew1) | exact HB.out))⟩
set_option maxHeartbeats 16000000 in
set_option maxRecDepth 100000 in
theorem walk_some (A0 : Option Addr) (c0 : Nat) (l0 : List S57) (A1 : Option Addr) (c1 : Nat) (l1 : List ByteArray) (wh at_ by_ : Int) (w : World) (hr0_ : Kd.C k57 w A0 l0.length l0) (hc0_ : l0.length ≤ c0) (hr1_ : Kd.C Kd.string w A1 l1.length l1) (hc1_ : l1.length ≤ c1) (haw_ : careenlaw06_awake.f 100 = some true) (hF_ : ∀ v : Int, v = 1 ∨ v = 2 → ∃ L P M D i q y H O R, Facts v l0 l1 wh at_ by_ L P M D i q y H O R) :
    Calls Try.prog 6 #[.slice A0 l0.length c0, .slice A1 l1.length c1, .int .i64 wh, .int .i64 at_, .int .i64 by_] w fun e w' => e = .returned (.bool true) ∧ Below w.heap.size w w' := by
  have hr0 := Aside0.mk hr0_
  have hc0 := Aside0.mk hc0_
  have hr1 := Aside0.mk hr1_
  have hc1 := Aside0.mk hc1_
  have haw := Aside0.mk haw_
  have hF := Aside0.mk hF_
  clear hr0_ hc0_ hr1_ hc1_ haw_ hF_
  have hcv := fun (W : World) (t : ByteArray) => Go.Lib.run_convert_string_bytes (P := Try.prog) W 9 43 5 t (u := .string) Try.underlying9 Try.underlying43 Try.underlying5
  have HB := Aside0.mk (Below.refl w.heap.size w)
  go_enter Try.func6, Try.ntmps6
  go_wp2_with (first | (go_at_call 11; (with_reducible refine (careenlaw06_awake.calls 100 true _ haw.out).mono ?_); rintro e w1 ⟨rfl, hb⟩; have n0_ := Aside0.mk (below_step (by repeat (first | (with_reducible first | exact HB.out | apply below_alloc | apply pw_below_drewN | apply below_drew1) | exact HB.out)) hb); clear HB; have HB := n0_; clear n0_ hb))
  go_loopw [12] (fun v wr => ∃ k : Nat, 1 ≤ k ∧ k ≤ 3 ∧ v = .int .i64 (k : Int) ∧ Aside0 (Below w.heap.size w wr)) (fun v _ => 3 - (intOf v).toNat)
  case atStart => exact ⟨1, by decide, by decide, rfl, ⟨(by repeat (first | (with_reducible first | exact HB.out | apply below_alloc | apply pw_below_drewN | apply below_drew1) | exact HB.out))⟩⟩
  case round =>
    obtain ⟨k, hk1, hk3, rfl, HB⟩ := hrel
    by_cases hlt : k ≤ 2
    rotate_left
    · have e1 : decide ((k : Int) ≤ 2) = false := decide_eq_false (by omega)
      go_wp2
      go_ret
      exact ⟨rfl, (by repeat (first | (with_reducible first | exact HB.out | apply below_alloc | apply pw_below_drewN | apply below_drew1) | exact HB.out))⟩
    · have e1 : decide ((k : Int) ≤ 2) = true := decide_eq_true (by omega)
      obtain ⟨L, P, M, D, i, q, y, H, O, R, F_⟩ := hF.out (k : Int) (by omega)
      have F := Aside0.mk F_
      clear F_
      have b0 : (0 : Int) ≤ (k : Int) := by omega
      have b1 : (k : Int) ≤ 3 := by omega
      go_upto_region 6 with (first | (go_at_call 16; (with_reducible refine (careenlaw06_Frames.calls 100 (k : Int) A0 c0 l0 A1 c1 l1 L _ ?s1 hc0.out ?s2 hc1.out F.out.frames).mono ?_); (case s1 => exact Kd.C_below hr0.out (by repeat (first | (with_reducible first | exact HB.out | apply below_alloc | apply pw_below_drewN | apply below_drew1) | exact HB.out))); (case s2 => exact Kd.C_below hr1.out (by repeat (first | (with_reducible first | exact HB.out | apply below_alloc | apply pw_below_drewN | apply below_drew1) | exact HB.out))); rintro e w5 ⟨v0, rfl, ho, hb⟩; have n0_ := Aside0.mk (below_step (by repeat (first | (with_reducible first | exact HB.out | apply below_alloc | apply pw_below_drewN | apply below_drew1) | exact HB.out)) hb); clear HB; have HB := n0_; clear n0_ hb))
      obtain ⟨A, c, eA⟩ := Kd.R_slice ho
      subst eA
      obtain ⟨_, hcl, hC⟩ := Kd.R_reads' ho
      clear ho e1
      obtain ⟨ad, eA, hx0, hx1, hx2⟩ := at_T23 hC (i : Int) (Int.natCast_nonneg _) (Int.ofNat_lt.mpr F.out.i_lt)
      subst eA
      clear hx0 hx1
      rw [Int.toNat_natCast] at hx2
      have HC := Aside0.mk hC
      have HX2 := Aside0.mk hx2
      have HL := Aside0.mk hcl
      clear hC hx2 hcl
      have HW := Aside0.mk (Below.refl w5.heap.size w5)
      have hnz : ((L.length : Int) == 0) = false := beq_eq_false_iff_ne.mpr (by have := F.out.i_lt; omega)
      go_upto_region 8 with (first | (go_at_call 17; (with_reducible refine (pick_same wh (L.length : Int) (i : Int) _ F.out.which).mono ?_); rintro e w' ⟨rfl, rfl⟩))
      clear hnz
      obtain ⟨A2, A3, c2, c3, hcut1, hcut2, hcut3, hC1, hC2, hC3, hc1_, hc2_, hc3_, ew1⟩ := cuts ad L P M D c i _ HC.out HL.out F.out.i_lt F.out.short F.out.isP F.out.isM F.out.isD
      have HC1 := Aside0.mk hC1
      have HC2 := Aside0.mk hC2
      have HC3 := Aside0.mk hC3
      have HD1 := Aside0.mk hc1_
      have HD2 := Aside0.mk hc2_
      have HD3 := Aside0.mk hc3_
      have q0 : (0 : Int) ≤ (i : Int) := Int.natCast_nonneg _
      have q1 : (i : Int) < (L.length : Int) := Int.ofNat_lt.mpr F.out.i_lt
      have q2 : (L.length : Int) ≤ 12 := Int.ofNat_le.mpr F.out.short
      clear hC1 hC2 hC3 hc1_ hc2_ hc3_
      go_upto_region 11 with (first | (go_at_call 21; (with_reducible refine (careenlaw06_bytes.calls 100 (k : Int) _ _ P H true _ ?s1 HD1.out F.out.head).mono ?_); (case s1 => exact Kd.C_below HC1.out (by repeat (first | (with_reducible first | exact HW.out | apply below_alloc | apply pw_below_drewN | apply below_drew1) | exact HW.out))); rintro e w9 ⟨rfl, hb⟩; have n0_ := Aside0.mk (below_step (by repeat (first | (with_reducible first | exact HW.out | apply below_alloc | apply pw_below_drewN | apply below_drew1) | exact HW.out)) hb); have n1_ := Aside0.mk (below_step (by repeat (first | (with_reducible first | exact HB.out | apply below_alloc | apply pw_below_drewN | apply below_drew1) | exact HB.out)) hb); clear HW HB; have HW := n0_; have HB := n1_; clear n0_ n1_ hb) | (go_at_call 21; (with_reducible refine (careenlaw06_bytes.calls 100 (k : Int) _ _ M O true _ ?s1 HD2.out F.out.one).mono ?_); (case s1 => exact Kd.C_below HC2.out (by repeat (first | (with_reducible first | exact HW.out | apply below_alloc | apply pw_below_drewN | apply below_drew1) | exact HW.out))); rintro e w9 ⟨rfl, hb⟩; have n0_ := Aside0.mk (below_step (by repeat (first | (with_reducible first | exact HW.out | apply below_alloc | apply pw_below_drewN | apply below_drew1) | exact HW.out)) hb); have n1_ := Aside0.mk (below_step (by repeat (first | (with_reducible first | exact HB.out | apply below_alloc | apply pw_below_drewN | apply below_drew1) | exact HB.out)) hb); clear HW HB; have HW := n0_; have HB := n1_; clear n0_ n1_ hb) | (go_at_call 21; (with_reducible refine (careenlaw06_bytes.calls 100 (k : Int) _ _ D R true _ ?s1 HD3.out F.out.rest).mono ?_); (case s1 => exact Kd.C_below HC3.out (by repeat (first | (with_reducible first | exact HW.out | apply below_alloc | apply pw_below_drewN | apply below_drew1) | exact HW.out))); rintro e w9 ⟨rfl, hb⟩; have n0_ := Aside0.mk (below_step (by repeat (first | (with_reducible first | exact HW.out | apply below_alloc | apply pw_below_drewN | apply below_drew1) | exact HW.out)) hb); have n1_ := Aside0.mk (below_step (by repeat (first | (with_reducible first | exact HB.out | apply below_alloc | apply pw_below_drewN | apply below_drew1) | exact HB.out)) hb); clear HW HB; have HW := n0_; have HB := n1_; clear n0_ n1_ hb))
      clear hcut2 hcut3 ew1
      have HD0 := Aside0.mk ((HW.out.cell (World.block_lt_of_cell? w5 _ HX2.out)).trans HX2.out)
      clear HX2
      have FD := Aside0.mk F.out.data
      have FP := Aside0.mk F.out.place
      have FQ := Aside0.mk F.out.q_lt
      have FO := Aside0.mk F.out.osize
      generalize (rd_T23 L (i : Int)).f2 = dd at HD0 FD FP FQ
      have x2 := HD0.out
      have z1 : ((O.size : Int) < (dd.size : Int) + 4) = False := eq_false (by have := FD.out; omega)
      have z1b : decide ((O.size : Int) < (dd.size : Int) + 4) = false := decide_eq_false (by have := FD.out; omega)
      have z2 : (dd.size : Int) ≤ 5000 := by have := FD.out; have := FO.out; omega
      have z3 : (O.size : Int) ≤ 5000 := by have := FO.out; omega
      go_upto_region 13 with (fail)
      clear z1 z1b x2
      go_upto_region 14 with (fail)
      obtain ⟨R0, B0⟩ := conv_facts w9 O
      have HRow := Aside0.mk R0
      have n0_ := Aside0.mk (HW.out.trans (B0 w5.heap.size HW.out.size))
      have n1_ := Aside0.mk (HB.out.trans (B0 w.heap.size HB.out.size))
      have n2_ := Aside0.mk (((B0 w9.heap.size (Nat.le_refl _)).cell (World.block_lt_of_cell? w9 _ HD0.out)).trans HD0.out)
      have HG := Aside0.mk HB.out.size
      have HG5 := Aside0.mk HW.out.size
      clear R0 B0 HW HB HD0 hcv
      generalize Go.Lib.bytesWorld w9 5 O = W2 at HRow n0_ n1_ n2_ ⊢
      generalize grownCap w9 O.size 0 5 = cap
      generalize w9.heap.size = g at HRow HG HG5 ⊢
      have HW := n0_
      have HB := n1_
      have HD0 := n2_
      clear n0_ n1_ n2_
      have x2 := HD0.out
      obtain ⟨kk, hkk⟩ : ∃ kk : Nat, (O.size : Int) - 1 - (q : Int) = (kk : Int) := ⟨O.size - 1 - q, by have := FQ.out; have := FD.out; omega⟩
      have hkl : (kk : Int) < (O.size : Int) := by omega
      have q3 : (q : Int) ≤ 5004 := by omega
      have q4 : (0 : Int) ≤ (q : Int) := Int.natCast_nonneg _
      go_upto_region 15 with (first | (go_at_call 17; (with_reducible refine (pick_same at_ ((dd.size : Int) + 4) (q : Int) _ FP.out).mono ?_); rintro e w' ⟨rfl, rfl⟩))
      have HK := Aside0.mk hkk
      clear hkk q3 q4 x2
      have hln : (nums O).length = O.size := by unfold nums; rw [List.length_map, ← tl_size]
      have c1 := (HRow.out kk (by omega)).1
      have f1 := (HRow.out kk (by omega)).2
      have HLN := Aside0.mk hln
      clear hln
      have q5 : (y : Int) < 255 := Int.ofNat_lt.mpr F.out.y_lt
      have q6 : (0 : Int) ≤ (y : Int) := Int.natCast_nonneg _
      go_still_tail 12, (by kernel_rfl)
      still_call ((pick_same by_ 255 (y : Int) _ F.out.turn).mono (fun e w' h => ⟨h.1, h.2.symm⟩))
      repeat still_step
      refine wpStill_nil ?_
      change wpList _ _ _ _ _ W2.drew
      clear c1 f1
      have n0_ := Aside0.mk HRow.out.drew
      have n1_ := Aside0.mk (below_drew1 HW.out)
      have n2_ := Aside0.mk (below_drew1 HB.out)
      clear HRow HW HB HD0
      generalize W2.drew = W3 at n0_ n1_ n2_ ⊢
      have HRow := n0_
      have HW := n1_
      have HB := n2_
      clear n0_ n1_ n2_
      have c1 := (HRow.out kk (by rw [HLN.out]; omega)).1
      have f1 := (HRow.out kk (by rw [HLN.out]; omega)).2
      go_upto_region 16 with (fail)
      clear c1 f1
      have n0_ := Aside0.mk (HRow.out.set kk (by rw [HLN.out]; omega) (Go.bits .xor .u8 ((nums O)[kk]?.getD 0) (1 + (y : Int))))
      have n1_ : Aside0 (Below w5.heap.size w5 (W3.setCell ⟨g, kk, none⟩ (.int .u8 (Go.bits .xor .u8 ((nums O)[kk]?.getD 0) (1 + (y : Int)))))) := ⟨HW.out.setCell (p := ⟨g, kk, none⟩) HG5.out _⟩
      have n2_ : Aside0 (Below w.heap.size w (W3.setCell ⟨g, kk, none⟩ (.int .u8 (Go.bits .xor .u8 ((nums O)[kk]?.getD 0) (1 + (y : Int)))))) := ⟨HB.out.setCell (p := ⟨g, kk, none⟩) HG.out _⟩
      clear HRow HW HB
      generalize W3.setCell ⟨g, kk, none⟩ (.int .u8 (Go.bits .xor .u8 ((nums O)[kk]?.getD 0) (1 + (y : Int)))) = W4 at n0_ n1_ n2_ ⊢
      have HRow := n0_
      have HW := n1_
      have HB := n2_
      clear n0_ n1_ n2_
      have FS := Aside0.mk F.out.scan
      have ek : O.size - 1 - q = kk := by have := HK.out; omega
      have ey : (1 + (y : Int)) % 256 = 1 + (y : Int) := by omega
      rw [ek, ey] at FS
      clear ek ey
      generalize hys : (nums O).set kk (Go.bits .xor .u8 ((nums O)[kk]?.getD 0) (1 + (y : Int))) = ys at HRow FS
      have hl : ys.length = O.size := by rw [← hys, List.length_set, HLN.out]
      have hz : (strOfNums ys).size = O.size := by rw [tl_size, tl_nums, List.length_map, hl]
      have hcb := run_convert_bytes_arg (P := Try.prog) W4 43 5 Try.underlying43 Try.underlying5 g 0 O.size cap ys hl (fun i hi => by rw [Nat.zero_add]; exact (HRow.out i (by omega)).1) 9 Try.underlying9
      have z4 : (strOfNums ys).size ≤ 5000 := by have := FO.out; omega
      have z5 : H.size ≤ 50000 := F.out.hsize
      have z6 : R.size ≤ 50000 := F.out.rsize
      clear hys hl hz
      generalize strOfNums ys = T at FS hcb z4
      go_upto_region 17 with (first | (go_at_call 18; (with_reducible refine (frame_Scan.calls 100 (k : Int) (H ++ T ++ R) P (H.size : Int) 11 _ FS.out).mono ?_); rintro e w10 ⟨v0, rfl, ho, hb⟩; have n0_ := Aside0.mk (HW.out.trans (hb.mono HW.out.size)); have n1_ := Aside0.mk (HB.out.trans (hb.mono HB.out.size)); have HO := Aside0.mk ho; clear HW HB hb ho; have HW := n0_; have HB := n1_; clear n0_ n1_))
      obtain ⟨As, cs, es⟩ := Kd.R_slice HO.out
      subst es
      clear hcb z4
      go_wp2_with (first | (go_at_call 20; (with_reducible refine (careenref06_Same.calls 100 _ _ P _ _ P true _ ?s1 ?s2 ?s3 HD1.out F.out.same).mono ?_); (case s1 => exact (Kd.R_reads' HO.out).2.2); (case s2 => exact (Kd.R_reads' HO.out).2.1); (case s3 => exact Kd.C_below HC1.out (by repeat (first | (with_reducible first | exact HW.out | apply below_alloc | apply pw_below_drewN | apply below_drew1) | exact HW.out))); rintro e w' ⟨rfl, ⟨nd, rfl⟩⟩))
      go_roundw
      case rel => exact ⟨k + 1, by omega, by omega, by go_num, ⟨(by repeat (first | (with_reducible first | exact HB.out | apply below_alloc | apply pw_below_drewN | apply below_drew1) | exact HB.out))⟩⟩
      case measure => simp [intOf]; omega
end Go.Proofs.Ytmicfaeloanffaa.WrongW
