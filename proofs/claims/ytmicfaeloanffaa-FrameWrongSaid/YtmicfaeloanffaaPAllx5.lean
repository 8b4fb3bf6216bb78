-- Written by a program of this session (wip/xpatch.py, wip/xprint.sh) for seat Ytmicfaeloanffaa.
import Derived.Test.YtmicfaeloanffaaPAllx0
import Derived.Test.YtmicfaeloanffaaPAllx2
import Derived.Test.YtmicfaeloanffaaPAllx3
import Derived.Test.YtmicfaeloanffaaPAllx4
namespace Go.Proofs.Ytmicfaeloanffaa.PAll
attribute [local go_sem high] Go.Proofs.Ytmicfaeloanffaa.Hand.unary_xor_u32
open Go.RowKit Go.Proofs.YtmicfaeloanffaaW.PrintWords Go.Proofs.YtmicfaeloanffaaW.PrintLast Go.Proofs.YtmicfaeloanffaaW.PrintMore
attribute [local go_sem] max2_int min2_int max_two min_two max_three min_three max_four min_four   -- for this text's walks alone
set_option linter.unusedVariables false
set_option linter.unusedSimpArgs false

/-! ### frame_Scan: function 18 -/
-- HAND rounds=1 making=1
-- INFO 23
def frame_Scan.l0 : Nat → Int → ByteArray → List (S23) → Int → Option ((List (S23)) × Int × Int)
 | 0, _, _, _, _ => none
 | k + 1, x0, x1, x7, x8 => if x8 < (x1.size : Int) then (if 0 ≤ x8 then (if x8 ≤ (x1.size : Int) then ((frame_take.f x0 (x1.extract (x8 : Int).toNat x1.size)).bind fun bt199 => (if bt199.2.2.2.2 = 0 then (if bt199.2.2.2.1 = 0 then (some (x7, x8, bt199.2.2.2.2)) else (if x7.length < 4398046511104 then (frame_Scan.l0 k x0 x1 (x7 ++ [(⟨bt199.1, bt199.2.1, bt199.2.2.1⟩ : S23)]) (wrap64 (x8 + bt199.2.2.2.1))) else (none))) else (some (x7, x8, bt199.2.2.2.2)))) else (none)) else (none)) else (some (x7, x8, 0))
def frame_Scan.f (k : Nat) (a0 : Int) (a1 : ByteArray) : Option ((List (S23)) × Int × Int) := if a0 = 1 then (frame_Scan.l0 k a0 a1 ([] : List (S23)) 0) else (if a0 = 2 then (frame_Scan.l0 k a0 a1 ([] : List (S23)) 0) else (some (([] : List (S23)), 0, 1)))
theorem frame_Scan.mono_l : ∀ k, ∀ y0 y1 y2 y3, LeO (frame_Scan.l0 k y0 y1 y2 y3) (frame_Scan.l0 (k + 1) y0 y1 y2 y3)
 | 0 => fun _ _ _ _ r h => by cases (show (none : Option _) = some r from h)
 | k + 1 => by
  have ih1 := frame_Scan.mono_l k
  intro y0 y1 y2 y3
  unfold frame_Scan.l0
  repeat' first
   | (with_reducible exact ih1 _ _ _ _)
   | (with_reducible exact LeO.refl _)
   | (with_reducible exact LeO.none _)
   | (with_reducible refine LeO.ite ?_ ?_)
   | (with_reducible refine LeO.bind ?_ (fun _ => ?_))
   | exact ih1 _ _ _ _
   | exact LeO.none _
   | refine LeO.ite ?_ ?_
   | refine LeO.bind ?_ (fun _ => ?_)
theorem frame_Scan.mono : ∀ a0 a1 k, LeO (frame_Scan.f k a0 a1) (frame_Scan.f (k + 1) a0 a1) := by
 intro a0 a1 k
 have ih1 := frame_Scan.mono_l k
 unfold frame_Scan.f
 repeat' first
   | (with_reducible exact ih1 _ _ _ _)
   | (with_reducible exact LeO.refl _)
   | (with_reducible refine LeO.ite ?_ ?_)
   | exact ih1 _ _ _ _
   | refine LeO.ite ?_ ?_
set_option maxHeartbeats 8000000 in
set_option maxRecDepth 100000 in
theorem frame_Scan.one (k : Nat) (a1 : ByteArray) (r1 : List (S23)) (r2 : Int) (r3 : Int) (w : World) (h : frame_Scan.l0 k 1 a1 ([] : List (S23)) 0 = some (r1, r2, r3)) :
  Calls Try.prog 18 #[.int .i64 1, .string a1] w fun e w' => ∃ v0_ : Value, e = .returned (.tuple #[v0_, .int .i64 r2, .int .i64 r3]) ∧ Kd.R k23 23 w' w.heap.size (fun _ => True) v0_ r1 ∧ Below w.heap.size w w' := by
 have hu23 := Try.underlying23
 have HB := Aside0.mk (Below.refl w.heap.size w)
 have H' := Aside0.mk h
 clear h
 go_enter Try.func18, Try.ntmps18
 go_wp2_with (first | (go_at_call 22; (refine (of_one _).mono ?_); rintro e w1 ⟨rfl, hw1⟩; rw [hw1]; clear hw1 w1))
 go_loopg [4, 5] k (fun kq v4 v5 w' => ∃ (x7_2 : List (S23)) (x8_2 : Int), v5 = .int .i64 x8_2 ∧ Aside0 (frame_Scan.l0 kq 1 a1 x7_2 x8_2 = some (r1, r2, r3)) ∧ Aside0 (kq ≤ k) ∧ Aside0 (Kd.R k23 23 w' w.heap.size (fun _ => True) v4 x7_2) ∧ Aside0 (Below w.heap.size w w'))
 case atStart => exact ⟨(([] : List (S23))), (0), (by first | rfl | (simp; done) | (simp [*]; done)), H', ⟨Nat.le_refl _⟩, ⟨by first | exact Kd.R_nil _ _ _ _ _ | exact Kd.N_nil _ _ _ _ _ | exact Kd.V_nil _ _ _ _ _ | exact Kd.Q_nil _ _ _ _ _ | exact Kd.S_nil _ _ _ _ _⟩, ⟨by repeat (first | (with_reducible first | exact HB.out | apply below_alloc | apply pw_below_drewN | apply below_drew1) | exact HB.out)⟩⟩
 case round =>
  clear H'
  try clear c1
  try clear p2
  try clear c4
  try clear c4b0
  try clear c4b1
  try clear c5
  try clear p2
  obtain ⟨x7_2, x8_2, rfl, HA, HK2, HO_7, HB⟩ := hrel
  cases gk with
  | zero => cases (show (none : Option _) = some _ from HA.out)
  | succ k2 =>
   have H := HA.out
   clear HA
   simp only [frame_Scan.l0] at H
   by_cases c6 : x8_2 < (a1.size : Int)
   ·rw [if_pos c6] at H
    have c6b0 : decide (x8_2 < (a1.size : Int)) = true := decide_eq_true c6
    clear c6
    by_cases c7 : 0 ≤ x8_2
    ·rw [if_pos c7] at H
     have c7b0 := eq_true c7
     have c7b1 : decide (0 ≤ x8_2) = true := decide_eq_true c7
     clear c7
     by_cases c8 : x8_2 ≤ (a1.size : Int)
     ·rw [if_pos c8] at H
      have c8b0 := eq_true c8
      have c8b1 : decide (x8_2 ≤ (a1.size : Int)) = true := decide_eq_true c8
      clear c8
      replace H := Option.bind_eq_some_iff.mp H
      obtain ⟨⟨t199, t200, t201, t202, t203⟩, A90, H⟩ := H
      replace H : (if t203 = 0 then (if t202 = 0 then (some (x7_2, x8_2, t203)) else (if x7_2.length < 4398046511104 then (frame_Scan.l0 k2 1 a1 (x7_2 ++ [(⟨t199, t200, t201⟩ : S23)]) (wrap64 (x8_2 + t202))) else (none))) else (some (x7_2, x8_2, t203))) = some (r1, r2, r3) := H
      have A9 := Aside0.mk A90
      clear A90
      by_cases c10 : t203 = 0
      ·rw [if_pos c10] at H
       have c10b0 : (t203 == 0) = true := beq_iff_eq.mpr c10
       have c10b1 : (t203 != 0) = false := bne_eq_false_iff_eq.mpr c10
       clear c10
       by_cases c11 : t202 = 0
       ·rw [if_pos c11] at H
        have c11b0 : (t202 == 0) = true := beq_iff_eq.mpr c11
        have c11b1 : (t202 != 0) = false := bne_eq_false_iff_eq.mpr c11
        clear c11
        simp only [Option.some.injEq, Prod.mk.injEq] at H
        obtain ⟨rfl, rfl, rfl⟩ := H
        go_wp2_with (first | ((with_reducible refine gate_callee (f := 28) rfl ?_); refine goesL_ (some 22) rfl rfl Try.func28 (by kernel_rfl) rfl #[.int .i64 1, .string (a1.extract (x8_2 : Int).toNat a1.size)] rfl (by (try simp only [List.map_toArray, List.map_cons, List.map_nil]); first | done | rfl | (simp only [List.length_drop, List.length_take]; rfl)) ?_; (with_reducible refine (frame_take.calls 1 (a1.extract (x8_2 : Int).toNat a1.size) t199 t200 t201 t202 t203 _ A9.out).mono ?_); rintro e w12 ⟨rfl, hb⟩; refine ⟨_, rfl, ?_⟩; have n0_ := Aside0.mk (Kd.R_below (by (with_reducible repeat (first | apply Kd.R_alloc | apply Kd.R_drewN | apply Kd.R_drew)); exact HO_7.out) hb); have n1_ := Aside0.mk (below_step (by repeat (first | (with_reducible first | exact HB.out | apply below_alloc | apply pw_below_drewN | apply below_drew1) | exact HB.out)) hb); clear HO_7; clear HB; have HO_7 := n0_; have HB := n1_; clear n0_ n1_; (try clear hb); (try clear hb2); (try clear hk); (try clear hi)) | ((with_reducible refine gate_dst (N := 7) rfl ?_); refine box_event ?hg (N := 7) ?hd (cs := #[.int .i64 0, .int .i64 0, .string (⟨#[]⟩ : ByteArray)]) (t := 23) ?hr ?_; (case hd => rfl); (case hg => rfl); (case hr => first | (go_simp; done) | (go_simp; rfl)); intro gb204 hg w13 hbox hb; have n0_ := Aside0.mk (Kd.R_below (Kd.R_elderB (by (with_reducible repeat (first | apply Kd.R_alloc | apply Kd.R_drewN | apply Kd.R_drew)); exact HO_7.out) gb204 (Nat.le_of_eq hg.symm)) hb); have n1_ := Aside0.mk (below_step (by repeat (first | (with_reducible first | exact HB.out | apply below_alloc | apply pw_below_drewN | apply below_drew1) | exact HB.out)) hb); have n2_ := Aside0.mk (hbox); have n3_ := Aside0.mk ((by rw [hg]; exact (below_size (by repeat (first | (with_reducible first | exact HB.out | apply below_alloc | apply pw_below_drewN | apply below_drew1) | exact HB.out))) : w.heap.size ≤ gb204)); have n4_ := Aside0.mk ((by rw [hg]; exact (below_size (by repeat (first | (with_reducible first | exact HB.out | apply below_alloc | apply pw_below_drewN | apply below_drew1) | exact HB.out))) : w.heap.size ≤ gb204)); clear HO_7; clear HB; have HO_7 := n0_; have HB := n1_; have BK204 := n2_; have GW204 := n3_; have GE204 := n4_; clear n0_ n1_ n2_ n3_ n4_; clear hb hbox hg; have hcz14_0 : w13.cell? ⟨gb204, 0, none⟩ = some (.int .i64 0) := (blk_cell BK204.out 0).trans rfl; have hcz14_1 : w13.cell? ⟨gb204, 1, none⟩ = some (.int .i64 0) := (blk_cell BK204.out 1).trans rfl; have hcz14_2 : w13.cell? ⟨gb204, 2, none⟩ = some (.string (⟨#[]⟩ : ByteArray)) := (blk_cell BK204.out 2).trans rfl; have hfz14_0 := blk_frozen BK204.out 0; have hfz14_1 := blk_frozen BK204.out 1; have hfz14_2 := blk_frozen BK204.out 2))
        go_ret3
        exact ⟨_, by first | rfl | (simp [errW_none, errW_some] <;> rfl) | (simp [*, errW_none, errW_some] <;> rfl), by (with_reducible repeat (first | apply Kd.R_alloc | apply Kd.R_drewN | apply Kd.R_drew)); exact Kd.R_mono (Kd.R_far (p := ⟨gb204, 2, none⟩) (Kd.R_far (p := ⟨gb204, 1, none⟩) (Kd.R_far (p := ⟨gb204, 0, none⟩) (Kd.R_mono HO_7.out (fun k_ hk => (⟨hk, hk.2⟩ : _ ∧ k_ ≠ gb204))) (fun _ hk => hk.2) (.int .i64 t199)) (fun _ hk => hk.2) (.int .i64 t200)) (fun _ hk => hk.2) (.string t201)) (fun _ hk => trivial), by repeat (first | (with_reducible first | exact HB.out | apply below_alloc | apply pw_below_drewN | apply below_drew1 | refine below_set ?_ GE204.out) | exact HB.out)⟩
       ·rw [if_neg c11] at H
        have c11b0 : (t202 == 0) = false := beq_eq_false_iff_ne.mpr c11
        have c11b1 : (t202 != 0) = true := bne_iff_ne.mpr c11
        by_cases c15 : x7_2.length < 4398046511104
        ·rw [if_pos c15] at H
         have LMc15 := Aside0.mk c15
         clear c15
         obtain ⟨y205, hy205⟩ : ∃ y_ : List (S23), y_ = (x7_2 ++ [(⟨t199, t200, t201⟩ : S23)]) := ⟨_, rfl⟩
         replace H : (frame_Scan.l0 k2 1 a1 y205 (wrap64 (x8_2 + t202))) = some (r1, r2, r3) := by first | (rw [hy205]; with_reducible exact H) | (have H2_ := (Option.bind_some _ _).symm.trans H; rw [hy205]; with_reducible exact H2_) | (have H2_ := (Option.bind_some _ _).symm.trans H; with_reducible exact H2_) | with_reducible exact H | (rw [hy205]; exact H) | exact H
         have Ny205 := Aside0.mk hy205
         clear hy205
         have H' := Aside0.mk H
         clear H
         go_wp2_with (first | ((with_reducible refine gate_callee (f := 28) rfl ?_); refine goesL_ (some 22) rfl rfl Try.func28 (by kernel_rfl) rfl #[.int .i64 1, .string (a1.extract (x8_2 : Int).toNat a1.size)] rfl (by (try simp only [List.map_toArray, List.map_cons, List.map_nil]); first | done | rfl | (simp only [List.length_drop, List.length_take]; rfl)) ?_; (with_reducible refine (frame_take.calls 1 (a1.extract (x8_2 : Int).toNat a1.size) t199 t200 t201 t202 t203 _ A9.out).mono ?_); rintro e w16 ⟨rfl, hb⟩; refine ⟨_, rfl, ?_⟩; have n0_ := Aside0.mk (Kd.R_below (by (with_reducible repeat (first | apply Kd.R_alloc | apply Kd.R_drewN | apply Kd.R_drew)); exact HO_7.out) hb); have n1_ := Aside0.mk (below_step (by repeat (first | (with_reducible first | exact HB.out | apply below_alloc | apply pw_below_drewN | apply below_drew1) | exact HB.out)) hb); clear HO_7; clear HB; have HO_7 := n0_; have HB := n1_; clear n0_ n1_; (try clear hb); (try clear hb2); (try clear hk); (try clear hi)) | ((with_reducible refine gate_dst (N := 7) rfl ?_); refine box_event ?hg (N := 7) ?hd (cs := #[.int .i64 0, .int .i64 0, .string (⟨#[]⟩ : ByteArray)]) (t := 23) ?hr ?_; (case hd => rfl); (case hg => rfl); (case hr => first | (go_simp; done) | (go_simp; rfl)); intro gb204 hg w17 hbox hb; have n0_ := Aside0.mk (Kd.R_below (Kd.R_elderB (by (with_reducible repeat (first | apply Kd.R_alloc | apply Kd.R_drewN | apply Kd.R_drew)); exact HO_7.out) gb204 (Nat.le_of_eq hg.symm)) hb); have n1_ := Aside0.mk (below_step (by repeat (first | (with_reducible first | exact HB.out | apply below_alloc | apply pw_below_drewN | apply below_drew1) | exact HB.out)) hb); have n2_ := Aside0.mk (hbox); have n3_ := Aside0.mk ((by rw [hg]; exact (below_size (by repeat (first | (with_reducible first | exact HB.out | apply below_alloc | apply pw_below_drewN | apply below_drew1) | exact HB.out))) : w.heap.size ≤ gb204)); have n4_ := Aside0.mk ((by rw [hg]; exact (below_size (by repeat (first | (with_reducible first | exact HB.out | apply below_alloc | apply pw_below_drewN | apply below_drew1) | exact HB.out))) : w.heap.size ≤ gb204)); clear HO_7; clear HB; have HO_7 := n0_; have HB := n1_; have BK204 := n2_; have GW204 := n3_; have GE204 := n4_; clear n0_ n1_ n2_ n3_ n4_; clear hb hbox hg; have hcz18_0 : w17.cell? ⟨gb204, 0, none⟩ = some (.int .i64 0) := (blk_cell BK204.out 0).trans rfl; have hcz18_1 : w17.cell? ⟨gb204, 1, none⟩ = some (.int .i64 0) := (blk_cell BK204.out 1).trans rfl; have hcz18_2 : w17.cell? ⟨gb204, 2, none⟩ = some (.string (⟨#[]⟩ : ByteArray)) := (blk_cell BK204.out 2).trans rfl; have hfz18_0 := blk_frozen BK204.out 0; have hfz18_1 := blk_frozen BK204.out 1; have hfz18_2 := blk_frozen BK204.out 2) | ((with_reducible refine gate_builtin (b := .append) (xs := #[.tmp 35, .tmp 37]) rfl ?_); at_builtin; refine Kd.R_append k23 (w0 := w) w.heap.size rfl (.tmp 35) (.tmp 37) 32 23 (.agg #[(.int .i64 0), (.int .i64 0), (.string ⟨#[]⟩)]) 32 rfl Try.underlying32 info23 rfl (by decide) (by omega) u4 x7_2 (⟨t199, t200, t201⟩ : S23) [.int .i64 t199, .int .i64 t200, .string t201] (fun k_ => k_ ≠ gb204) (fun _ => False) rfl (by first | (go_simp; done) | (go_simp; rfl)) ?aP (fun _ hk => hk.elim) ?aF ?aO ?aB ?aS ?aL ?_; (case aP => exact k23_mkM _ _ _ (⟨t199, t200, t201⟩ : S23)); (case aB => exact (by repeat (first | (with_reducible first | exact HB.out | apply below_alloc | apply pw_below_drewN | apply below_drew1 | refine below_set ?_ GE204.out) | exact HB.out))); (case aF => exact (fun k_ hk => Kd.freshB (g := gb204) (o := .cells #[.int .i64 t199, .int .i64 t200, .string t201] 23 (0, 0)) (by (with_reducible repeat (first | refine blk_drewN ?_ _ | refine blk_drew ?_ | refine blk_alloc ?_ _)); refine blk_put (cs := #[.int .i64 t199, .int .i64 t200, .string (⟨#[]⟩ : ByteArray)]) ?_ 2 _ rfl; (with_reducible repeat (first | refine blk_drewN ?_ _ | refine blk_drew ?_ | refine blk_alloc ?_ _)); refine blk_put (cs := #[.int .i64 t199, .int .i64 0, .string (⟨#[]⟩ : ByteArray)]) ?_ 1 _ rfl; (with_reducible repeat (first | refine blk_drewN ?_ _ | refine blk_drew ?_ | refine blk_alloc ?_ _)); refine blk_put (cs := #[.int .i64 0, .int .i64 0, .string (⟨#[]⟩ : ByteArray)]) ?_ 0 _ rfl; (with_reducible repeat (first | refine blk_drewN ?_ _ | refine blk_drew ?_ | refine blk_alloc ?_ _)); exact BK204.out) k_ hk)); (case aO => exact (by (with_reducible repeat (first | apply Kd.R_alloc | apply Kd.R_drewN | apply Kd.R_drew)); exact Kd.R_mono (Kd.R_far (p := ⟨gb204, 2, none⟩) (Kd.R_far (p := ⟨gb204, 1, none⟩) (Kd.R_far (p := ⟨gb204, 0, none⟩) (Kd.R_mono HO_7.out (fun k_ hk => (⟨hk, hk.2⟩ : _ ∧ k_ ≠ gb204))) (fun _ hk => hk.2) (.int .i64 t199)) (fun _ hk => hk.2) (.int .i64 t200)) (fun _ hk => hk.2) (.string t201)) (fun _ hk => hk.1.2))); (case aS => exact (below_size (by repeat (first | (with_reducible first | exact HB.out | apply below_alloc | apply pw_below_drewN | apply below_drew1 | refine below_set ?_ GE204.out) | exact HB.out)))); (case aL => have := LMc15.out; omega); intro v206 w19 ho hb hg hat; rw [← Ny205.out] at ho; have n0_ := Aside0.mk (blk_grown (g := gb204) (o := .cells #[.int .i64 t199, .int .i64 t200, .string t201] 23 (0, 0)) (by (with_reducible repeat (first | refine blk_drewN ?_ _ | refine blk_drew ?_ | refine blk_alloc ?_ _)); refine blk_put (cs := #[.int .i64 t199, .int .i64 t200, .string (⟨#[]⟩ : ByteArray)]) ?_ 2 _ rfl; (with_reducible repeat (first | refine blk_drewN ?_ _ | refine blk_drew ?_ | refine blk_alloc ?_ _)); refine blk_put (cs := #[.int .i64 t199, .int .i64 0, .string (⟨#[]⟩ : ByteArray)]) ?_ 1 _ rfl; (with_reducible repeat (first | refine blk_drewN ?_ _ | refine blk_drew ?_ | refine blk_alloc ?_ _)); refine blk_put (cs := #[.int .i64 0, .int .i64 0, .string (⟨#[]⟩ : ByteArray)]) ?_ 0 _ rfl; (with_reducible repeat (first | refine blk_drewN ?_ _ | refine blk_drew ?_ | refine blk_alloc ?_ _)); exact BK204.out) hg (Kd.R_away HO_7.out (fun _ hk => hk.2))); have n1_ := Aside0.mk (hb); have n2_ := Aside0.mk (ho); clear BK204; clear HB; clear HO_7; have BK204 := n0_; have HB := n1_; have HO207 := n2_; clear n0_ n1_ n2_; clear ho hb hg hat))
         go_roundg k2
         case measure => have := HK2.out; omega
         case rel => exact ⟨(y205), (wrap64 (x8_2 + t202)), (by first | rfl | (simp; done) | (simp [*]; done)), H', ⟨by have := HK2.out; omega⟩, ⟨by (with_reducible repeat (first | apply Kd.R_alloc | apply Kd.R_drewN | apply Kd.R_drew)); exact Kd.R_mono HO207.out (fun _ hk => trivial)⟩, ⟨by repeat (first | (with_reducible first | exact HB.out | apply below_alloc | apply pw_below_drewN | apply below_drew1 | refine below_set ?_ GE204.out) | exact HB.out)⟩⟩
        ·rw [if_neg c15] at H
         exact absurd H (by simp)
      ·rw [if_neg c10] at H
       have c10b0 : (t203 == 0) = false := beq_eq_false_iff_ne.mpr c10
       have c10b1 : (t203 != 0) = true := bne_iff_ne.mpr c10
       simp only [Option.some.injEq, Prod.mk.injEq] at H
       obtain ⟨rfl, rfl, rfl⟩ := H
       go_wp2_with (first | ((with_reducible refine gate_callee (f := 28) rfl ?_); refine goesL_ (some 22) rfl rfl Try.func28 (by kernel_rfl) rfl #[.int .i64 1, .string (a1.extract (x8_2 : Int).toNat a1.size)] rfl (by (try simp only [List.map_toArray, List.map_cons, List.map_nil]); first | done | rfl | (simp only [List.length_drop, List.length_take]; rfl)) ?_; (with_reducible refine (frame_take.calls 1 (a1.extract (x8_2 : Int).toNat a1.size) t199 t200 t201 t202 t203 _ A9.out).mono ?_); rintro e w20 ⟨rfl, hb⟩; refine ⟨_, rfl, ?_⟩; have n0_ := Aside0.mk (Kd.R_below (by (with_reducible repeat (first | apply Kd.R_alloc | apply Kd.R_drewN | apply Kd.R_drew)); exact HO_7.out) hb); have n1_ := Aside0.mk (below_step (by repeat (first | (with_reducible first | exact HB.out | apply below_alloc | apply pw_below_drewN | apply below_drew1) | exact HB.out)) hb); clear HO_7; clear HB; have HO_7 := n0_; have HB := n1_; clear n0_ n1_; (try clear hb); (try clear hb2); (try clear hk); (try clear hi)) | ((with_reducible refine gate_dst (N := 7) rfl ?_); refine box_event ?hg (N := 7) ?hd (cs := #[.int .i64 0, .int .i64 0, .string (⟨#[]⟩ : ByteArray)]) (t := 23) ?hr ?_; (case hd => rfl); (case hg => rfl); (case hr => first | (go_simp; done) | (go_simp; rfl)); intro gb204 hg w21 hbox hb; have n0_ := Aside0.mk (Kd.R_below (Kd.R_elderB (by (with_reducible repeat (first | apply Kd.R_alloc | apply Kd.R_drewN | apply Kd.R_drew)); exact HO_7.out) gb204 (Nat.le_of_eq hg.symm)) hb); have n1_ := Aside0.mk (below_step (by repeat (first | (with_reducible first | exact HB.out | apply below_alloc | apply pw_below_drewN | apply below_drew1) | exact HB.out)) hb); have n2_ := Aside0.mk (hbox); have n3_ := Aside0.mk ((by rw [hg]; exact (below_size (by repeat (first | (with_reducible first | exact HB.out | apply below_alloc | apply pw_below_drewN | apply below_drew1) | exact HB.out))) : w.heap.size ≤ gb204)); have n4_ := Aside0.mk ((by rw [hg]; exact (below_size (by repeat (first | (with_reducible first | exact HB.out | apply below_alloc | apply pw_below_drewN | apply below_drew1) | exact HB.out))) : w.heap.size ≤ gb204)); clear HO_7; clear HB; have HO_7 := n0_; have HB := n1_; have BK204 := n2_; have GW204 := n3_; have GE204 := n4_; clear n0_ n1_ n2_ n3_ n4_; clear hb hbox hg; have hcz22_0 : w21.cell? ⟨gb204, 0, none⟩ = some (.int .i64 0) := (blk_cell BK204.out 0).trans rfl; have hcz22_1 : w21.cell? ⟨gb204, 1, none⟩ = some (.int .i64 0) := (blk_cell BK204.out 1).trans rfl; have hcz22_2 : w21.cell? ⟨gb204, 2, none⟩ = some (.string (⟨#[]⟩ : ByteArray)) := (blk_cell BK204.out 2).trans rfl; have hfz22_0 := blk_frozen BK204.out 0; have hfz22_1 := blk_frozen BK204.out 1; have hfz22_2 := blk_frozen BK204.out 2))
       go_ret3
       exact ⟨_, by first | rfl | (simp [errW_none, errW_some] <;> rfl) | (simp [*, errW_none, errW_some] <;> rfl), by (with_reducible repeat (first | apply Kd.R_alloc | apply Kd.R_drewN | apply Kd.R_drew)); exact Kd.R_mono (Kd.R_far (p := ⟨gb204, 2, none⟩) (Kd.R_far (p := ⟨gb204, 1, none⟩) (Kd.R_far (p := ⟨gb204, 0, none⟩) (Kd.R_mono HO_7.out (fun k_ hk => (⟨hk, hk.2⟩ : _ ∧ k_ ≠ gb204))) (fun _ hk => hk.2) (.int .i64 t199)) (fun _ hk => hk.2) (.int .i64 t200)) (fun _ hk => hk.2) (.string t201)) (fun _ hk => trivial), by repeat (first | (with_reducible first | exact HB.out | apply below_alloc | apply pw_below_drewN | apply below_drew1 | refine below_set ?_ GE204.out) | exact HB.out)⟩
     ·rw [if_neg c8] at H
      exact absurd H (by simp)
    ·rw [if_neg c7] at H
     exact absurd H (by simp)
   ·rw [if_neg c6] at H
    have c6b0 : decide (x8_2 < (a1.size : Int)) = false := decide_eq_false c6
    clear c6
    simp only [Option.some.injEq, Prod.mk.injEq] at H
    obtain ⟨rfl, rfl, rfl⟩ := H
    go_wp2
    go_ret3
    exact ⟨_, by first | rfl | (simp [errW_none, errW_some] <;> rfl) | (simp [*, errW_none, errW_some] <;> rfl), by (with_reducible repeat (first | apply Kd.R_alloc | apply Kd.R_drewN | apply Kd.R_drew)); exact HO_7.out, by repeat (first | (with_reducible first | exact HB.out | apply below_alloc | apply pw_below_drewN | apply below_drew1) | exact HB.out)⟩

set_option maxHeartbeats 8000000 in
set_option maxRecDepth 100000 in
theorem frame_Scan.two (k : Nat) (a1 : ByteArray) (r1 : List (S23)) (r2 : Int) (r3 : Int) (w : World) (h : frame_Scan.l0 k 2 a1 ([] : List (S23)) 0 = some (r1, r2, r3)) :
  Calls Try.prog 18 #[.int .i64 2, .string a1] w fun e w' => ∃ v0_ : Value, e = .returned (.tuple #[v0_, .int .i64 r2, .int .i64 r3]) ∧ Kd.R k23 23 w' w.heap.size (fun _ => True) v0_ r1 ∧ Below w.heap.size w w' := by
 have hu23 := Try.underlying23
 have HB := Aside0.mk (Below.refl w.heap.size w)
 have H' := Aside0.mk h
 clear h
 go_enter Try.func18, Try.ntmps18
 go_wp2_with (first | (go_at_call 22; (refine (of_two _).mono ?_); rintro e w1 ⟨rfl, hw1⟩; rw [hw1]; clear hw1 w1))
 go_loopg [4, 5] k (fun kq v4 v5 w' => ∃ (x7_2 : List (S23)) (x8_2 : Int), v5 = .int .i64 x8_2 ∧ Aside0 (frame_Scan.l0 kq 2 a1 x7_2 x8_2 = some (r1, r2, r3)) ∧ Aside0 (kq ≤ k) ∧ Aside0 (Kd.R k23 23 w' w.heap.size (fun _ => True) v4 x7_2) ∧ Aside0 (Below w.heap.size w w'))
 case atStart => exact ⟨(([] : List (S23))), (0), (by first | rfl | (simp; done) | (simp [*]; done)), H', ⟨Nat.le_refl _⟩, ⟨by first | exact Kd.R_nil _ _ _ _ _ | exact Kd.N_nil _ _ _ _ _ | exact Kd.V_nil _ _ _ _ _ | exact Kd.Q_nil _ _ _ _ _ | exact Kd.S_nil _ _ _ _ _⟩, ⟨by repeat (first | (with_reducible first | exact HB.out | apply below_alloc | apply pw_below_drewN | apply below_drew1) | exact HB.out)⟩⟩
 case round =>
  clear H'
  try clear c1
  try clear p2
  try clear c4
  try clear c4b0
  try clear c4b1
  try clear c5
  try clear p2
  obtain ⟨x7_2, x8_2, rfl, HA, HK2, HO_7, HB⟩ := hrel
  cases gk with
  | zero => cases (show (none : Option _) = some _ from HA.out)
  | succ k2 =>
   have H := HA.out
   clear HA
   simp only [frame_Scan.l0] at H
   by_cases c6 : x8_2 < (a1.size : Int)
   ·rw [if_pos c6] at H
    have c6b0 : decide (x8_2 < (a1.size : Int)) = true := decide_eq_true c6
    clear c6
    by_cases c7 : 0 ≤ x8_2
    ·rw [if_pos c7] at H
     have c7b0 := eq_true c7
     have c7b1 : decide (0 ≤ x8_2) = true := decide_eq_true c7
     clear c7
     by_cases c8 : x8_2 ≤ (a1.size : Int)
     ·rw [if_pos c8] at H
      have c8b0 := eq_true c8
      have c8b1 : decide (x8_2 ≤ (a1.size : Int)) = true := decide_eq_true c8
      clear c8
      replace H := Option.bind_eq_some_iff.mp H
      obtain ⟨⟨t199, t200, t201, t202, t203⟩, A90, H⟩ := H
      replace H : (if t203 = 0 then (if t202 = 0 then (some (x7_2, x8_2, t203)) else (if x7_2.length < 4398046511104 then (frame_Scan.l0 k2 2 a1 (x7_2 ++ [(⟨t199, t200, t201⟩ : S23)]) (wrap64 (x8_2 + t202))) else (none))) else (some (x7_2, x8_2, t203))) = some (r1, r2, r3) := H
      have A9 := Aside0.mk A90
      clear A90
      by_cases c10 : t203 = 0
      ·rw [if_pos c10] at H
       have c10b0 : (t203 == 0) = true := beq_iff_eq.mpr c10
       have c10b1 : (t203 != 0) = false := bne_eq_false_iff_eq.mpr c10
       clear c10
       by_cases c11 : t202 = 0
       ·rw [if_pos c11] at H
        have c11b0 : (t202 == 0) = true := beq_iff_eq.mpr c11
        have c11b1 : (t202 != 0) = false := bne_eq_false_iff_eq.mpr c11
        clear c11
        simp only [Option.some.injEq, Prod.mk.injEq] at H
        obtain ⟨rfl, rfl, rfl⟩ := H
        go_wp2_with (first | ((with_reducible refine gate_callee (f := 28) rfl ?_); refine goesL_ (some 22) rfl rfl Try.func28 (by kernel_rfl) rfl #[.int .i64 2, .string (a1.extract (x8_2 : Int).toNat a1.size)] rfl (by (try simp only [List.map_toArray, List.map_cons, List.map_nil]); first | done | rfl | (simp only [List.length_drop, List.length_take]; rfl)) ?_; (with_reducible refine (frame_take.calls 2 (a1.extract (x8_2 : Int).toNat a1.size) t199 t200 t201 t202 t203 _ A9.out).mono ?_); rintro e w12 ⟨rfl, hb⟩; refine ⟨_, rfl, ?_⟩; have n0_ := Aside0.mk (Kd.R_below (by (with_reducible repeat (first | apply Kd.R_alloc | apply Kd.R_drewN | apply Kd.R_drew)); exact HO_7.out) hb); have n1_ := Aside0.mk (below_step (by repeat (first | (with_reducible first | exact HB.out | apply below_alloc | apply pw_below_drewN | apply below_drew1) | exact HB.out)) hb); clear HO_7; clear HB; have HO_7 := n0_; have HB := n1_; clear n0_ n1_; (try clear hb); (try clear hb2); (try clear hk); (try clear hi)) | ((with_reducible refine gate_dst (N := 7) rfl ?_); refine box_event ?hg (N := 7) ?hd (cs := #[.int .i64 0, .int .i64 0, .string (⟨#[]⟩ : ByteArray)]) (t := 23) ?hr ?_; (case hd => rfl); (case hg => rfl); (case hr => first | (go_simp; done) | (go_simp; rfl)); intro gb204 hg w13 hbox hb; have n0_ := Aside0.mk (Kd.R_below (Kd.R_elderB (by (with_reducible repeat (first | apply Kd.R_alloc | apply Kd.R_drewN | apply Kd.R_drew)); exact HO_7.out) gb204 (Nat.le_of_eq hg.symm)) hb); have n1_ := Aside0.mk (below_step (by repeat (first | (with_reducible first | exact HB.out | apply below_alloc | apply pw_below_drewN | apply below_drew1) | exact HB.out)) hb); have n2_ := Aside0.mk (hbox); have n3_ := Aside0.mk ((by rw [hg]; exact (below_size (by repeat (first | (with_reducible first | exact HB.out | apply below_alloc | apply pw_below_drewN | apply below_drew1) | exact HB.out))) : w.heap.size ≤ gb204)); have n4_ := Aside0.mk ((by rw [hg]; exact (below_size (by repeat (first | (with_reducible first | exact HB.out | apply below_alloc | apply pw_below_drewN | apply below_drew1) | exact HB.out))) : w.heap.size ≤ gb204)); clear HO_7; clear HB; have HO_7 := n0_; have HB := n1_; have BK204 := n2_; have GW204 := n3_; have GE204 := n4_; clear n0_ n1_ n2_ n3_ n4_; clear hb hbox hg; have hcz14_0 : w13.cell? ⟨gb204, 0, none⟩ = some (.int .i64 0) := (blk_cell BK204.out 0).trans rfl; have hcz14_1 : w13.cell? ⟨gb204, 1, none⟩ = some (.int .i64 0) := (blk_cell BK204.out 1).trans rfl; have hcz14_2 : w13.cell? ⟨gb204, 2, none⟩ = some (.string (⟨#[]⟩ : ByteArray)) := (blk_cell BK204.out 2).trans rfl; have hfz14_0 := blk_frozen BK204.out 0; have hfz14_1 := blk_frozen BK204.out 1; have hfz14_2 := blk_frozen BK204.out 2))
        go_ret3
        exact ⟨_, by first | rfl | (simp [errW_none, errW_some] <;> rfl) | (simp [*, errW_none, errW_some] <;> rfl), by (with_reducible repeat (first | apply Kd.R_alloc | apply Kd.R_drewN | apply Kd.R_drew)); exact Kd.R_mono (Kd.R_far (p := ⟨gb204, 2, none⟩) (Kd.R_far (p := ⟨gb204, 1, none⟩) (Kd.R_far (p := ⟨gb204, 0, none⟩) (Kd.R_mono HO_7.out (fun k_ hk => (⟨hk, hk.2⟩ : _ ∧ k_ ≠ gb204))) (fun _ hk => hk.2) (.int .i64 t199)) (fun _ hk => hk.2) (.int .i64 t200)) (fun _ hk => hk.2) (.string t201)) (fun _ hk => trivial), by repeat (first | (with_reducible first | exact HB.out | apply below_alloc | apply pw_below_drewN | apply below_drew1 | refine below_set ?_ GE204.out) | exact HB.out)⟩
       ·rw [if_neg c11] at H
        have c11b0 : (t202 == 0) = false := beq_eq_false_iff_ne.mpr c11
        have c11b1 : (t202 != 0) = true := bne_iff_ne.mpr c11
        by_cases c15 : x7_2.length < 4398046511104
        ·rw [if_pos c15] at H
         have LMc15 := Aside0.mk c15
         clear c15
         obtain ⟨y205, hy205⟩ : ∃ y_ : List (S23), y_ = (x7_2 ++ [(⟨t199, t200, t201⟩ : S23)]) := ⟨_, rfl⟩
         replace H : (frame_Scan.l0 k2 2 a1 y205 (wrap64 (x8_2 + t202))) = some (r1, r2, r3) := by first | (rw [hy205]; with_reducible exact H) | (have H2_ := (Option.bind_some _ _).symm.trans H; rw [hy205]; with_reducible exact H2_) | (have H2_ := (Option.bind_some _ _).symm.trans H; with_reducible exact H2_) | with_reducible exact H | (rw [hy205]; exact H) | exact H
         have Ny205 := Aside0.mk hy205
         clear hy205
         have H' := Aside0.mk H
         clear H
         go_wp2_with (first | ((with_reducible refine gate_callee (f := 28) rfl ?_); refine goesL_ (some 22) rfl rfl Try.func28 (by kernel_rfl) rfl #[.int .i64 2, .string (a1.extract (x8_2 : Int).toNat a1.size)] rfl (by (try simp only [List.map_toArray, List.map_cons, List.map_nil]); first | done | rfl | (simp only [List.length_drop, List.length_take]; rfl)) ?_; (with_reducible refine (frame_take.calls 2 (a1.extract (x8_2 : Int).toNat a1.size) t199 t200 t201 t202 t203 _ A9.out).mono ?_); rintro e w16 ⟨rfl, hb⟩; refine ⟨_, rfl, ?_⟩; have n0_ := Aside0.mk (Kd.R_below (by (with_reducible repeat (first | apply Kd.R_alloc | apply Kd.R_drewN | apply Kd.R_drew)); exact HO_7.out) hb); have n1_ := Aside0.mk (below_step (by repeat (first | (with_reducible first | exact HB.out | apply below_alloc | apply pw_below_drewN | apply below_drew1) | exact HB.out)) hb); clear HO_7; clear HB; have HO_7 := n0_; have HB := n1_; clear n0_ n1_; (try clear hb); (try clear hb2); (try clear hk); (try clear hi)) | ((with_reducible refine gate_dst (N := 7) rfl ?_); refine box_event ?hg (N := 7) ?hd (cs := #[.int .i64 0, .int .i64 0, .string (⟨#[]⟩ : ByteArray)]) (t := 23) ?hr ?_; (case hd => rfl); (case hg => rfl); (case hr => first | (go_simp; done) | (go_simp; rfl)); intro gb204 hg w17 hbox hb; have n0_ := Aside0.mk (Kd.R_below (Kd.R_elderB (by (with_reducible repeat (first | apply Kd.R_alloc | apply Kd.R_drewN | apply Kd.R_drew)); exact HO_7.out) gb204 (Nat.le_of_eq hg.symm)) hb); have n1_ := Aside0.mk (below_step (by repeat (first | (with_reducible first | exact HB.out | apply below_alloc | apply pw_below_drewN | apply below_drew1) | exact HB.out)) hb); have n2_ := Aside0.mk (hbox); have n3_ := Aside0.mk ((by rw [hg]; exact (below_size (by repeat (first | (with_reducible first | exact HB.out | apply below_alloc | apply pw_below_drewN | apply below_drew1) | exact HB.out))) : w.heap.size ≤ gb204)); have n4_ := Aside0.mk ((by rw [hg]; exact (below_size (by repeat (first | (with_reducible first | exact HB.out | apply below_alloc | apply pw_below_drewN | apply below_drew1) | exact HB.out))) : w.heap.size ≤ gb204)); clear HO_7; clear HB; have HO_7 := n0_; have HB := n1_; have BK204 := n2_; have GW204 := n3_; have GE204 := n4_; clear n0_ n1_ n2_ n3_ n4_; clear hb hbox hg; have hcz18_0 : w17.cell? ⟨gb204, 0, none⟩ = some (.int .i64 0) := (blk_cell BK204.out 0).trans rfl; have hcz18_1 : w17.cell? ⟨gb204, 1, none⟩ = some (.int .i64 0) := (blk_cell BK204.out 1).trans rfl; have hcz18_2 : w17.cell? ⟨gb204, 2, none⟩ = some (.string (⟨#[]⟩ : ByteArray)) := (blk_cell BK204.out 2).trans rfl; have hfz18_0 := blk_frozen BK204.out 0; have hfz18_1 := blk_frozen BK204.out 1; have hfz18_2 := blk_frozen BK204.out 2) | ((with_reducible refine gate_builtin (b := .append) (xs := #[.tmp 35, .tmp 37]) rfl ?_); at_builtin; refine Kd.R_append k23 (w0 := w) w.heap.size rfl (.tmp 35) (.tmp 37) 32 23 (.agg #[(.int .i64 0), (.int .i64 0), (.string ⟨#[]⟩)]) 32 rfl Try.underlying32 info23 rfl (by decide) (by omega) u4 x7_2 (⟨t199, t200, t201⟩ : S23) [.int .i64 t199, .int .i64 t200, .string t201] (fun k_ => k_ ≠ gb204) (fun _ => False) rfl (by first | (go_simp; done) | (go_simp; rfl)) ?aP (fun _ hk => hk.elim) ?aF ?aO ?aB ?aS ?aL ?_; (case aP => exact k23_mkM _ _ _ (⟨t199, t200, t201⟩ : S23)); (case aB => exact (by repeat (first | (with_reducible first | exact HB.out | apply below_alloc | apply pw_below_drewN | apply below_drew1 | refine below_set ?_ GE204.out) | exact HB.out))); (case aF => exact (fun k_ hk => Kd.freshB (g := gb204) (o := .cells #[.int .i64 t199, .int .i64 t200, .string t201] 23 (0, 0)) (by (with_reducible repeat (first | refine blk_drewN ?_ _ | refine blk_drew ?_ | refine blk_alloc ?_ _)); refine blk_put (cs := #[.int .i64 t199, .int .i64 t200, .string (⟨#[]⟩ : ByteArray)]) ?_ 2 _ rfl; (with_reducible repeat (first | refine blk_drewN ?_ _ | refine blk_drew ?_ | refine blk_alloc ?_ _)); refine blk_put (cs := #[.int .i64 t199, .int .i64 0, .string (⟨#[]⟩ : ByteArray)]) ?_ 1 _ rfl; (with_reducible repeat (first | refine blk_drewN ?_ _ | refine blk_drew ?_ | refine blk_alloc ?_ _)); refine blk_put (cs := #[.int .i64 0, .int .i64 0, .string (⟨#[]⟩ : ByteArray)]) ?_ 0 _ rfl; (with_reducible repeat (first | refine blk_drewN ?_ _ | refine blk_drew ?_ | refine blk_alloc ?_ _)); exact BK204.out) k_ hk)); (case aO => exact (by (with_reducible repeat (first | apply Kd.R_alloc | apply Kd.R_drewN | apply Kd.R_drew)); exact Kd.R_mono (Kd.R_far (p := ⟨gb204, 2, none⟩) (Kd.R_far (p := ⟨gb204, 1, none⟩) (Kd.R_far (p := ⟨gb204, 0, none⟩) (Kd.R_mono HO_7.out (fun k_ hk => (⟨hk, hk.2⟩ : _ ∧ k_ ≠ gb204))) (fun _ hk => hk.2) (.int .i64 t199)) (fun _ hk => hk.2) (.int .i64 t200)) (fun _ hk => hk.2) (.string t201)) (fun _ hk => hk.1.2))); (case aS => exact (below_size (by repeat (first | (with_reducible first | exact HB.out | apply below_alloc | apply pw_below_drewN | apply below_drew1 | refine below_set ?_ GE204.out) | exact HB.out)))); (case aL => have := LMc15.out; omega); intro v206 w19 ho hb hg hat; rw [← Ny205.out] at ho; have n0_ := Aside0.mk (blk_grown (g := gb204) (o := .cells #[.int .i64 t199, .int .i64 t200, .string t201] 23 (0, 0)) (by (with_reducible repeat (first | refine blk_drewN ?_ _ | refine blk_drew ?_ | refine blk_alloc ?_ _)); refine blk_put (cs := #[.int .i64 t199, .int .i64 t200, .string (⟨#[]⟩ : ByteArray)]) ?_ 2 _ rfl; (with_reducible repeat (first | refine blk_drewN ?_ _ | refine blk_drew ?_ | refine blk_alloc ?_ _)); refine blk_put (cs := #[.int .i64 t199, .int .i64 0, .string (⟨#[]⟩ : ByteArray)]) ?_ 1 _ rfl; (with_reducible repeat (first | refine blk_drewN ?_ _ | refine blk_drew ?_ | refine blk_alloc ?_ _)); refine blk_put (cs := #[.int .i64 0, .int .i64 0, .string (⟨#[]⟩ : ByteArray)]) ?_ 0 _ rfl; (with_reducible repeat (first | refine blk_drewN ?_ _ | refine blk_drew ?_ | refine blk_alloc ?_ _)); exact BK204.out) hg (Kd.R_away HO_7.out (fun _ hk => hk.2))); have n1_ := Aside0.mk (hb); have n2_ := Aside0.mk (ho); clear BK204; clear HB; clear HO_7; have BK204 := n0_; have HB := n1_; have HO207 := n2_; clear n0_ n1_ n2_; clear ho hb hg hat))
         go_roundg k2
         case measure => have := HK2.out; omega
         case rel => exact ⟨(y205), (wrap64 (x8_2 + t202)), (by first | rfl | (simp; done) | (simp [*]; done)), H', ⟨by have := HK2.out; omega⟩, ⟨by (with_reducible repeat (first | apply Kd.R_alloc | apply Kd.R_drewN | apply Kd.R_drew)); exact Kd.R_mono HO207.out (fun _ hk => trivial)⟩, ⟨by repeat (first | (with_reducible first | exact HB.out | apply below_alloc | apply pw_below_drewN | apply below_drew1 | refine below_set ?_ GE204.out) | exact HB.out)⟩⟩
        ·rw [if_neg c15] at H
         exact absurd H (by simp)
      ·rw [if_neg c10] at H
       have c10b0 : (t203 == 0) = false := beq_eq_false_iff_ne.mpr c10
       have c10b1 : (t203 != 0) = true := bne_iff_ne.mpr c10
       simp only [Option.some.injEq, Prod.mk.injEq] at H
       obtain ⟨rfl, rfl, rfl⟩ := H
       go_wp2_with (first | ((with_reducible refine gate_callee (f := 28) rfl ?_); refine goesL_ (some 22) rfl rfl Try.func28 (by kernel_rfl) rfl #[.int .i64 2, .string (a1.extract (x8_2 : Int).toNat a1.size)] rfl (by (try simp only [List.map_toArray, List.map_cons, List.map_nil]); first | done | rfl | (simp only [List.length_drop, List.length_take]; rfl)) ?_; (with_reducible refine (frame_take.calls 2 (a1.extract (x8_2 : Int).toNat a1.size) t199 t200 t201 t202 t203 _ A9.out).mono ?_); rintro e w20 ⟨rfl, hb⟩; refine ⟨_, rfl, ?_⟩; have n0_ := Aside0.mk (Kd.R_below (by (with_reducible repeat (first | apply Kd.R_alloc | apply Kd.R_drewN | apply Kd.R_drew)); exact HO_7.out) hb); have n1_ := Aside0.mk (below_step (by repeat (first | (with_reducible first | exact HB.out | apply below_alloc | apply pw_below_drewN | apply below_drew1) | exact HB.out)) hb); clear HO_7; clear HB; have HO_7 := n0_; have HB := n1_; clear n0_ n1_; (try clear hb); (try clear hb2); (try clear hk); (try clear hi)) | ((with_reducible refine gate_dst (N := 7) rfl ?_); refine box_event ?hg (N := 7) ?hd (cs := #[.int .i64 0, .int .i64 0, .string (⟨#[]⟩ : ByteArray)]) (t := 23) ?hr ?_; (case hd => rfl); (case hg => rfl); (case hr => first | (go_simp; done) | (go_simp; rfl)); intro gb204 hg w21 hbox hb; have n0_ := Aside0.mk (Kd.R_below (Kd.R_elderB (by (with_reducible repeat (first | apply Kd.R_alloc | apply Kd.R_drewN | apply Kd.R_drew)); exact HO_7.out) gb204 (Nat.le_of_eq hg.symm)) hb); have n1_ := Aside0.mk (below_step (by repeat (first | (with_reducible first | exact HB.out | apply below_alloc | apply pw_below_drewN | apply below_drew1) | exact HB.out)) hb); have n2_ := Aside0.mk (hbox); have n3_ := Aside0.mk ((by rw [hg]; exact (below_size (by repeat (first | (with_reducible first | exact HB.out | apply below_alloc | apply pw_below_drewN | apply below_drew1) | exact HB.out))) : w.heap.size ≤ gb204)); have n4_ := Aside0.mk ((by rw [hg]; exact (below_size (by repeat (first | (with_reducible first | exact HB.out | apply below_alloc | apply pw_below_drewN | apply below_drew1) | exact HB.out))) : w.heap.size ≤ gb204)); clear HO_7; clear HB; have HO_7 := n0_; have HB := n1_; have BK204 := n2_; have GW204 := n3_; have GE204 := n4_; clear n0_ n1_ n2_ n3_ n4_; clear hb hbox hg; have hcz22_0 : w21.cell? ⟨gb204, 0, none⟩ = some (.int .i64 0) := (blk_cell BK204.out 0).trans rfl; have hcz22_1 : w21.cell? ⟨gb204, 1, none⟩ = some (.int .i64 0) := (blk_cell BK204.out 1).trans rfl; have hcz22_2 : w21.cell? ⟨gb204, 2, none⟩ = some (.string (⟨#[]⟩ : ByteArray)) := (blk_cell BK204.out 2).trans rfl; have hfz22_0 := blk_frozen BK204.out 0; have hfz22_1 := blk_frozen BK204.out 1; have hfz22_2 := blk_frozen BK204.out 2))
       go_ret3
       exact ⟨_, by first | rfl | (simp [errW_none, errW_some] <;> rfl) | (simp [*, errW_none, errW_some] <;> rfl), by (with_reducible repeat (first | apply Kd.R_alloc | apply Kd.R_drewN | apply Kd.R_drew)); exact Kd.R_mono (Kd.R_far (p := ⟨gb204, 2, none⟩) (Kd.R_far (p := ⟨gb204, 1, none⟩) (Kd.R_far (p := ⟨gb204, 0, none⟩) (Kd.R_mono HO_7.out (fun k_ hk => (⟨hk, hk.2⟩ : _ ∧ k_ ≠ gb204))) (fun _ hk => hk.2) (.int .i64 t199)) (fun _ hk => hk.2) (.int .i64 t200)) (fun _ hk => hk.2) (.string t201)) (fun _ hk => trivial), by repeat (first | (with_reducible first | exact HB.out | apply below_alloc | apply pw_below_drewN | apply below_drew1 | refine below_set ?_ GE204.out) | exact HB.out)⟩
     ·rw [if_neg c8] at H
      exact absurd H (by simp)
    ·rw [if_neg c7] at H
     exact absurd H (by simp)
   ·rw [if_neg c6] at H
    have c6b0 : decide (x8_2 < (a1.size : Int)) = false := decide_eq_false c6
    clear c6
    simp only [Option.some.injEq, Prod.mk.injEq] at H
    obtain ⟨rfl, rfl, rfl⟩ := H
    go_wp2
    go_ret3
    exact ⟨_, by first | rfl | (simp [errW_none, errW_some] <;> rfl) | (simp [*, errW_none, errW_some] <;> rfl), by (with_reducible repeat (first | apply Kd.R_alloc | apply Kd.R_drewN | apply Kd.R_drew)); exact HO_7.out, by repeat (first | (with_reducible first | exact HB.out | apply below_alloc | apply pw_below_drewN | apply below_drew1) | exact HB.out)⟩

set_option maxHeartbeats 8000000 in
set_option maxRecDepth 100000 in
theorem frame_Scan.none_ (v : Int) (h1 : (v == 1) = false) (h2 : (v == 2) = false) (a1 : ByteArray) (w : World) :
  Calls Try.prog 18 #[.int .i64 v, .string a1] w fun e w' => ∃ v0_ : Value, e = .returned (.tuple #[v0_, .int .i64 0, .int .i64 1]) ∧ Kd.R k23 23 w' w.heap.size (fun _ => True) v0_ [] ∧ Below w.heap.size w w' := by
 go_enter Try.func18, Try.ntmps18
 go_wp2_with (first | (go_at_call 22; (refine (of_none v h1 h2 _).mono ?_); rintro e w1 ⟨rfl, hw1⟩; rw [hw1]; clear hw1 w1))
 go_ret3
 exact ⟨_, rfl, Kd.R_nil _ _ _ _ _, Below.refl _ _⟩
theorem frame_Scan.calls (k : Nat) (a0 : Int) (a1 : ByteArray) (r1 : List (S23)) (r2 : Int) (r3 : Int) (w : World) (h : frame_Scan.f k a0 a1 = some (r1, r2, r3)) :
  Calls Try.prog 18 #[.int .i64 a0, .string a1] w fun e w' => ∃ v0_ : Value, e = .returned (.tuple #[v0_, .int .i64 r2, .int .i64 r3]) ∧ Kd.R k23 23 w' w.heap.size (fun _ => True) v0_ r1 ∧ Below w.heap.size w w' := by
 unfold frame_Scan.f at h
 by_cases e1 : a0 = 1
 ·subst e1
  rw [if_pos rfl] at h
  exact frame_Scan.one k a1 r1 r2 r3 w h
 ·rw [if_neg e1] at h
  by_cases e2 : a0 = 2
  ·subst e2
   rw [if_pos rfl] at h
   exact frame_Scan.two k a1 r1 r2 r3 w h
  ·rw [if_neg e2] at h
   cases h
   exact frame_Scan.none_ a0 (by simpa using e1) (by simpa using e2) a1 w

/-! ### careenlaw06_awake: function 11 -/
def careenlaw06_awake.j0 : Nat → ByteArray → Int → ByteArray → Int → Int → Int → Int → Int → Int → List (S23) → Int → Bool → Option (Bool)
 | 0, _, _, _, _, _, _, _, _, _, _, _, _ => none
 | k + 1, x1, x2, x3, x4, x6, x8, x9, x12, x15, x16, x18, x77 => if x77 = true then (some false) else (if 0 ≤ 6 then (if 6 ≤ (x1.size : Int) then (if (x1.extract 0 6).toList = ([97, 3, 0, 2, 120, 121] : List UInt8) then (if x2 = 0 then (if 6 ≤ (x3.size : Int) then (if (x3.extract 0 6).toList = ([98, 5, 200, 2, 120, 121] : List UInt8) then (if x4 = 0 then (if x6 = 1 then (if x8 = 20 then (if x9 = 0 then (if x12 = 22 then (if x15 = 11 then (if x18 = 0 then (if 0 < (x16.length : Int) then (if ((rd_T23 x16 0).f1) = 5 then ((frame_Right.f 2 ((rd_T23 x16 0).f0) ((rd_T23 x16 0).f1) ((rd_T23 x16 0).f2)).bind fun t134 => (if t134 = true then ((frame_Right.f 1 ((rd_T23 x16 0).f0) ((rd_T23 x16 0).f1) ((rd_T23 x16 0).f2)).bind fun t136 => (some (!t136))) else (some false))) else (some false)) else (none)) else (some false)) else (some false)) else (some false)) else (some false)) else (some false)) else (some false)) else (some false)) else (some false)) else (none)) else (some false)) else (some false)) else (none)) else (none))
def careenlaw06_awake.f (k : Nat)  : Option (Bool) := (frame_Encode.f 1 3 0 (⟨#[120, 121]⟩ : ByteArray)).bind fun bt106 => ((frame_Encode.f 2 200 5 (⟨#[120, 121]⟩ : ByteArray)).bind fun bt108 => ((frame_Encode.f 1 10 0 (⟨#[]⟩ : ByteArray)).bind fun bt110 => (if bt106.1.size + bt106.1.size ≤ 9223372036854775807 then (if (bt106.1 ++ bt106.1).size + 1 ≤ 9223372036854775807 then ((frame_Scan.f k 1 ((bt106.1 ++ bt106.1) ++ (⟨#[97]⟩ : ByteArray))).bind fun bt112 => ((frame_Scan.f k 1 bt108.1).bind fun bt117 => ((frame_Scan.f k 2 (⟨#[120]⟩ : ByteArray)).bind fun bt122 => ((frame_Scan.f k 2 bt108.1).bind fun bt127 => (if (bt106.1.size : Int) = 10 then (if (bt108.1.size : Int) = 10 then (if (bt112.1.length : Int) = 2 then (careenlaw06_awake.j0 k bt106.1 bt106.2 bt108.1 bt108.2 bt110.2 bt112.2.1 bt112.2.2 bt117.2.2 bt122.2.2 bt127.1 bt127.2.2 ((bt127.1.length : Int) != 1)) else (careenlaw06_awake.j0 k bt106.1 bt106.2 bt108.1 bt108.2 bt110.2 bt112.2.1 bt112.2.2 bt117.2.2 bt122.2.2 bt127.1 bt127.2.2 true)) else (careenlaw06_awake.j0 k bt106.1 bt106.2 bt108.1 bt108.2 bt110.2 bt112.2.1 bt112.2.2 bt117.2.2 bt122.2.2 bt127.1 bt127.2.2 true)) else (careenlaw06_awake.j0 k bt106.1 bt106.2 bt108.1 bt108.2 bt110.2 bt112.2.1 bt112.2.2 bt117.2.2 bt122.2.2 bt127.1 bt127.2.2 true)))))) else (none)) else (none))))
theorem careenlaw06_awake.mono_l : ∀ k, (∀ y0 y1 y2 y3 y4 y5 y6 y7 y8 y9 y10 y11, LeO (careenlaw06_awake.j0 k y0 y1 y2 y3 y4 y5 y6 y7 y8 y9 y10 y11) (careenlaw06_awake.j0 (k + 1) y0 y1 y2 y3 y4 y5 y6 y7 y8 y9 y10 y11))
 | 0 => (fun _ _ _ _ _ _ _ _ _ _ _ _ r h => by cases (show (none : Option _) = some r from h))
 | k + 1 => by
  have ih0 := careenlaw06_awake.mono_l k
  ·intro y0 y1 y2 y3 y4 y5 y6 y7 y8 y9 y10 y11
   unfold careenlaw06_awake.j0
   repeat' first
   | (with_reducible exact ih0 _ _ _ _ _ _ _ _ _ _ _ _)
   | (with_reducible exact frame_Scan.mono _ _ _)
   | (with_reducible exact LeO.refl _)
   | (with_reducible exact LeO.none _)
   | (with_reducible refine LeO.ite ?_ ?_)
   | (with_reducible refine LeO.bind ?_ (fun _ => ?_))
   | exact ih0 _ _ _ _ _ _ _ _ _ _ _ _
   | exact frame_Scan.mono _ _ _
   | exact LeO.none _
   | refine LeO.ite ?_ ?_
   | refine LeO.bind ?_ (fun _ => ?_)
theorem careenlaw06_awake.mono : ∀ k, LeO (careenlaw06_awake.f k ) (careenlaw06_awake.f (k + 1) ) := by
 intro  k
 have ih0 := careenlaw06_awake.mono_l k
 unfold careenlaw06_awake.f
 repeat' first
   | (with_reducible exact ih0 _ _ _ _ _ _ _ _ _ _ _ _)
   | (with_reducible exact frame_Scan.mono _ _ _)
   | (with_reducible exact LeO.refl _)
   | (with_reducible exact LeO.none _)
   | (with_reducible refine LeO.ite ?_ ?_)
   | (with_reducible refine LeO.bind ?_ (fun _ => ?_))
   | exact ih0 _ _ _ _ _ _ _ _ _ _ _ _
   | exact frame_Scan.mono _ _ _
   | exact LeO.none _
   | refine LeO.ite ?_ ?_
   | refine LeO.bind ?_ (fun _ => ?_)
set_option maxHeartbeats 8000000 in
set_option maxRecDepth 100000 in
theorem careenlaw06_awake.calls (k : Nat)  (r : Bool) (w : World) (h : careenlaw06_awake.f k  = some r) :
  Calls Try.prog 11 #[] w fun e w' => e = .returned (.bool r) ∧ Below w.heap.size w w' := by
 have hu23 := Try.underlying23
 have HB := Aside0.mk (Below.refl w.heap.size w)
 have H : ((frame_Encode.f 1 3 0 (⟨#[120, 121]⟩ : ByteArray)).bind fun bt106 => ((frame_Encode.f 2 200 5 (⟨#[120, 121]⟩ : ByteArray)).bind fun bt108 => ((frame_Encode.f 1 10 0 (⟨#[]⟩ : ByteArray)).bind fun bt110 => (if bt106.1.size + bt106.1.size ≤ 9223372036854775807 then (if (bt106.1 ++ bt106.1).size + 1 ≤ 9223372036854775807 then ((frame_Scan.f k 1 ((bt106.1 ++ bt106.1) ++ (⟨#[97]⟩ : ByteArray))).bind fun bt112 => ((frame_Scan.f k 1 bt108.1).bind fun bt117 => ((frame_Scan.f k 2 (⟨#[120]⟩ : ByteArray)).bind fun bt122 => ((frame_Scan.f k 2 bt108.1).bind fun bt127 => (if (bt106.1.size : Int) = 10 then (if (bt108.1.size : Int) = 10 then (if (bt112.1.length : Int) = 2 then (careenlaw06_awake.j0 k bt106.1 bt106.2 bt108.1 bt108.2 bt110.2 bt112.2.1 bt112.2.2 bt117.2.2 bt122.2.2 bt127.1 bt127.2.2 ((bt127.1.length : Int) != 1)) else (careenlaw06_awake.j0 k bt106.1 bt106.2 bt108.1 bt108.2 bt110.2 bt112.2.1 bt112.2.2 bt117.2.2 bt122.2.2 bt127.1 bt127.2.2 true)) else (careenlaw06_awake.j0 k bt106.1 bt106.2 bt108.1 bt108.2 bt110.2 bt112.2.1 bt112.2.2 bt117.2.2 bt122.2.2 bt127.1 bt127.2.2 true)) else (careenlaw06_awake.j0 k bt106.1 bt106.2 bt108.1 bt108.2 bt110.2 bt112.2.1 bt112.2.2 bt117.2.2 bt122.2.2 bt127.1 bt127.2.2 true)))))) else (none)) else (none))))) = some r := h
 clear h
 replace H := Option.bind_eq_some_iff.mp H
 obtain ⟨⟨t106, t107⟩, A10, H⟩ := H
 replace H : ((frame_Encode.f 2 200 5 (⟨#[120, 121]⟩ : ByteArray)).bind fun bt108 => ((frame_Encode.f 1 10 0 (⟨#[]⟩ : ByteArray)).bind fun bt110 => (if t106.size + t106.size ≤ 9223372036854775807 then (if (t106 ++ t106).size + 1 ≤ 9223372036854775807 then ((frame_Scan.f k 1 ((t106 ++ t106) ++ (⟨#[97]⟩ : ByteArray))).bind fun bt112 => ((frame_Scan.f k 1 bt108.1).bind fun bt117 => ((frame_Scan.f k 2 (⟨#[120]⟩ : ByteArray)).bind fun bt122 => ((frame_Scan.f k 2 bt108.1).bind fun bt127 => (if (t106.size : Int) = 10 then (if (bt108.1.size : Int) = 10 then (if (bt112.1.length : Int) = 2 then (careenlaw06_awake.j0 k t106 t107 bt108.1 bt108.2 bt110.2 bt112.2.1 bt112.2.2 bt117.2.2 bt122.2.2 bt127.1 bt127.2.2 ((bt127.1.length : Int) != 1)) else (careenlaw06_awake.j0 k t106 t107 bt108.1 bt108.2 bt110.2 bt112.2.1 bt112.2.2 bt117.2.2 bt122.2.2 bt127.1 bt127.2.2 true)) else (careenlaw06_awake.j0 k t106 t107 bt108.1 bt108.2 bt110.2 bt112.2.1 bt112.2.2 bt117.2.2 bt122.2.2 bt127.1 bt127.2.2 true)) else (careenlaw06_awake.j0 k t106 t107 bt108.1 bt108.2 bt110.2 bt112.2.1 bt112.2.2 bt117.2.2 bt122.2.2 bt127.1 bt127.2.2 true)))))) else (none)) else (none)))) = some r := H
 have A1 := Aside0.mk A10
 clear A10
 replace H := Option.bind_eq_some_iff.mp H
 obtain ⟨⟨t108, t109⟩, A20, H⟩ := H
 replace H : ((frame_Encode.f 1 10 0 (⟨#[]⟩ : ByteArray)).bind fun bt110 => (if t106.size + t106.size ≤ 9223372036854775807 then (if (t106 ++ t106).size + 1 ≤ 9223372036854775807 then ((frame_Scan.f k 1 ((t106 ++ t106) ++ (⟨#[97]⟩ : ByteArray))).bind fun bt112 => ((frame_Scan.f k 1 t108).bind fun bt117 => ((frame_Scan.f k 2 (⟨#[120]⟩ : ByteArray)).bind fun bt122 => ((frame_Scan.f k 2 t108).bind fun bt127 => (if (t106.size : Int) = 10 then (if (t108.size : Int) = 10 then (if (bt112.1.length : Int) = 2 then (careenlaw06_awake.j0 k t106 t107 t108 t109 bt110.2 bt112.2.1 bt112.2.2 bt117.2.2 bt122.2.2 bt127.1 bt127.2.2 ((bt127.1.length : Int) != 1)) else (careenlaw06_awake.j0 k t106 t107 t108 t109 bt110.2 bt112.2.1 bt112.2.2 bt117.2.2 bt122.2.2 bt127.1 bt127.2.2 true)) else (careenlaw06_awake.j0 k t106 t107 t108 t109 bt110.2 bt112.2.1 bt112.2.2 bt117.2.2 bt122.2.2 bt127.1 bt127.2.2 true)) else (careenlaw06_awake.j0 k t106 t107 t108 t109 bt110.2 bt112.2.1 bt112.2.2 bt117.2.2 bt122.2.2 bt127.1 bt127.2.2 true)))))) else (none)) else (none))) = some r := H
 have A2 := Aside0.mk A20
 clear A20
 replace H := Option.bind_eq_some_iff.mp H
 obtain ⟨⟨t110, t111⟩, A30, H⟩ := H
 replace H : (if t106.size + t106.size ≤ 9223372036854775807 then (if (t106 ++ t106).size + 1 ≤ 9223372036854775807 then ((frame_Scan.f k 1 ((t106 ++ t106) ++ (⟨#[97]⟩ : ByteArray))).bind fun bt112 => ((frame_Scan.f k 1 t108).bind fun bt117 => ((frame_Scan.f k 2 (⟨#[120]⟩ : ByteArray)).bind fun bt122 => ((frame_Scan.f k 2 t108).bind fun bt127 => (if (t106.size : Int) = 10 then (if (t108.size : Int) = 10 then (if (bt112.1.length : Int) = 2 then (careenlaw06_awake.j0 k t106 t107 t108 t109 t111 bt112.2.1 bt112.2.2 bt117.2.2 bt122.2.2 bt127.1 bt127.2.2 ((bt127.1.length : Int) != 1)) else (careenlaw06_awake.j0 k t106 t107 t108 t109 t111 bt112.2.1 bt112.2.2 bt117.2.2 bt122.2.2 bt127.1 bt127.2.2 true)) else (careenlaw06_awake.j0 k t106 t107 t108 t109 t111 bt112.2.1 bt112.2.2 bt117.2.2 bt122.2.2 bt127.1 bt127.2.2 true)) else (careenlaw06_awake.j0 k t106 t107 t108 t109 t111 bt112.2.1 bt112.2.2 bt117.2.2 bt122.2.2 bt127.1 bt127.2.2 true)))))) else (none)) else (none)) = some r := H
 have A3 := Aside0.mk A30
 clear A30
 by_cases c4 : t106.size + t106.size ≤ 9223372036854775807
 ·rw [if_pos c4] at H
  have c4b0 := eq_true c4
  have c4b1 : decide (t106.size + t106.size ≤ 9223372036854775807) = true := decide_eq_true c4
  try have c4b2 : (9223372036854775807 < t106.size + t106.size) = False := eq_false (Nat.not_lt.2 c4)
  by_cases c5 : (t106 ++ t106).size + 1 ≤ 9223372036854775807
  ·rw [if_pos c5] at H
   have c5b0 := eq_true c5
   have c5b1 : decide ((t106 ++ t106).size + 1 ≤ 9223372036854775807) = true := decide_eq_true c5
   try have c5b2 : (9223372036854775807 < (t106 ++ t106).size + 1) = False := eq_false (Nat.not_lt.2 c5)
   replace H := Option.bind_eq_some_iff.mp H
   obtain ⟨⟨t112, t113, t114⟩, A60, H⟩ := H
   replace H : ((frame_Scan.f k 1 t108).bind fun bt117 => ((frame_Scan.f k 2 (⟨#[120]⟩ : ByteArray)).bind fun bt122 => ((frame_Scan.f k 2 t108).bind fun bt127 => (if (t106.size : Int) = 10 then (if (t108.size : Int) = 10 then (if (t112.length : Int) = 2 then (careenlaw06_awake.j0 k t106 t107 t108 t109 t111 t113 t114 bt117.2.2 bt122.2.2 bt127.1 bt127.2.2 ((bt127.1.length : Int) != 1)) else (careenlaw06_awake.j0 k t106 t107 t108 t109 t111 t113 t114 bt117.2.2 bt122.2.2 bt127.1 bt127.2.2 true)) else (careenlaw06_awake.j0 k t106 t107 t108 t109 t111 t113 t114 bt117.2.2 bt122.2.2 bt127.1 bt127.2.2 true)) else (careenlaw06_awake.j0 k t106 t107 t108 t109 t111 t113 t114 bt117.2.2 bt122.2.2 bt127.1 bt127.2.2 true))))) = some r := H
   have A6 := Aside0.mk A60
   clear A60
   replace H := Option.bind_eq_some_iff.mp H
   obtain ⟨⟨t117, t118, t119⟩, A70, H⟩ := H
   replace H : ((frame_Scan.f k 2 (⟨#[120]⟩ : ByteArray)).bind fun bt122 => ((frame_Scan.f k 2 t108).bind fun bt127 => (if (t106.size : Int) = 10 then (if (t108.size : Int) = 10 then (if (t112.length : Int) = 2 then (careenlaw06_awake.j0 k t106 t107 t108 t109 t111 t113 t114 t119 bt122.2.2 bt127.1 bt127.2.2 ((bt127.1.length : Int) != 1)) else (careenlaw06_awake.j0 k t106 t107 t108 t109 t111 t113 t114 t119 bt122.2.2 bt127.1 bt127.2.2 true)) else (careenlaw06_awake.j0 k t106 t107 t108 t109 t111 t113 t114 t119 bt122.2.2 bt127.1 bt127.2.2 true)) else (careenlaw06_awake.j0 k t106 t107 t108 t109 t111 t113 t114 t119 bt122.2.2 bt127.1 bt127.2.2 true)))) = some r := H
   have A7 := Aside0.mk A70
   clear A70
   replace H := Option.bind_eq_some_iff.mp H
   obtain ⟨⟨t122, t123, t124⟩, A80, H⟩ := H
   replace H : ((frame_Scan.f k 2 t108).bind fun bt127 => (if (t106.size : Int) = 10 then (if (t108.size : Int) = 10 then (if (t112.length : Int) = 2 then (careenlaw06_awake.j0 k t106 t107 t108 t109 t111 t113 t114 t119 t124 bt127.1 bt127.2.2 ((bt127.1.length : Int) != 1)) else (careenlaw06_awake.j0 k t106 t107 t108 t109 t111 t113 t114 t119 t124 bt127.1 bt127.2.2 true)) else (careenlaw06_awake.j0 k t106 t107 t108 t109 t111 t113 t114 t119 t124 bt127.1 bt127.2.2 true)) else (careenlaw06_awake.j0 k t106 t107 t108 t109 t111 t113 t114 t119 t124 bt127.1 bt127.2.2 true))) = some r := H
   have A8 := Aside0.mk A80
   clear A80
   replace H := Option.bind_eq_some_iff.mp H
   obtain ⟨⟨t127, t128, t129⟩, A90, H⟩ := H
   replace H : (if (t106.size : Int) = 10 then (if (t108.size : Int) = 10 then (if (t112.length : Int) = 2 then (careenlaw06_awake.j0 k t106 t107 t108 t109 t111 t113 t114 t119 t124 t127 t129 ((t127.length : Int) != 1)) else (careenlaw06_awake.j0 k t106 t107 t108 t109 t111 t113 t114 t119 t124 t127 t129 true)) else (careenlaw06_awake.j0 k t106 t107 t108 t109 t111 t113 t114 t119 t124 t127 t129 true)) else (careenlaw06_awake.j0 k t106 t107 t108 t109 t111 t113 t114 t119 t124 t127 t129 true)) = some r := H
   have A9 := Aside0.mk A90
   clear A90
   have HC10 := Aside0.mk H
   clear H
   go_enter Try.func11, Try.ntmps11
   go_upto_region 8 with (first | ((with_reducible refine gate_callee (f := 12) rfl ?_); refine goesL_ (some 21) rfl rfl Try.func12 (by kernel_rfl) rfl #[.int .i64 1, .agg #[.int .i64 3, .int .i64 0, .string (⟨#[120, 121]⟩ : ByteArray)]] rfl (by (try simp only [List.map_toArray, List.map_cons, List.map_nil]); first | done | rfl | (simp only [List.length_drop, List.length_take]; rfl)) ?_; (with_reducible refine (frame_Encode.calls 1 3 0 (⟨#[120, 121]⟩ : ByteArray) t106 t107 _ A1.out).mono ?_); rintro e w11 ⟨rfl, hb⟩; refine ⟨_, rfl, ?_⟩; have n0_ := Aside0.mk (below_step (by repeat (first | (with_reducible first | exact HB.out | apply below_alloc | apply pw_below_drewN | apply below_drew1) | exact HB.out)) hb); clear HB; have HB := n0_; clear n0_; (try clear hb); (try clear hb2); (try clear hk); (try clear hi)) | ((with_reducible refine gate_callee (f := 12) rfl ?_); refine goesL_ (some 26) rfl rfl Try.func12 (by kernel_rfl) rfl #[.int .i64 2, .agg #[.int .i64 200, .int .i64 5, .string (⟨#[120, 121]⟩ : ByteArray)]] rfl (by (try simp only [List.map_toArray, List.map_cons, List.map_nil]); first | done | rfl | (simp only [List.length_drop, List.length_take]; rfl)) ?_; (with_reducible refine (frame_Encode.calls 2 200 5 (⟨#[120, 121]⟩ : ByteArray) t108 t109 _ A2.out).mono ?_); rintro e w12 ⟨rfl, hb⟩; refine ⟨_, rfl, ?_⟩; have n0_ := Aside0.mk (below_step (by repeat (first | (with_reducible first | exact HB.out | apply below_alloc | apply pw_below_drewN | apply below_drew1) | exact HB.out)) hb); clear HB; have HB := n0_; clear n0_; (try clear hb); (try clear hb2); (try clear hk); (try clear hi)) | ((with_reducible refine gate_callee (f := 12) rfl ?_); refine goesL_ (some 31) rfl rfl Try.func12 (by kernel_rfl) rfl #[.int .i64 1, .agg #[.int .i64 10, .int .i64 0, .string (⟨#[]⟩ : ByteArray)]] rfl (by (try simp only [List.map_toArray, List.map_cons, List.map_nil]); first | done | rfl | (simp only [List.length_drop, List.length_take]; rfl)) ?_; (with_reducible refine (frame_Encode.calls 1 10 0 (⟨#[]⟩ : ByteArray) t110 t111 _ A3.out).mono ?_); rintro e w13 ⟨rfl, hb⟩; refine ⟨_, rfl, ?_⟩; have n0_ := Aside0.mk (below_step (by repeat (first | (with_reducible first | exact HB.out | apply below_alloc | apply pw_below_drewN | apply below_drew1) | exact HB.out)) hb); clear HB; have HB := n0_; clear n0_; (try clear hb); (try clear hb2); (try clear hk); (try clear hi)) | ((with_reducible refine gate_callee (f := 18) rfl ?_); refine goesL_ (some 39) rfl rfl Try.func18 (by kernel_rfl) rfl #[.int .i64 1, .string ((t106 ++ t106) ++ (⟨#[97]⟩ : ByteArray))] rfl (by (try simp only [List.map_toArray, List.map_cons, List.map_nil]); first | done | rfl | (simp only [List.length_drop, List.length_take]; rfl)) ?_; (with_reducible refine (frame_Scan.calls k 1 ((t106 ++ t106) ++ (⟨#[97]⟩ : ByteArray)) t112 t113 t114 _ A6.out).mono ?_); rintro e w14 ⟨v115, rfl, ho0, hb⟩; refine ⟨_, rfl, ?_⟩; have n0_ := Aside0.mk (Kd.R_lower ho0 (below_size (by repeat (first | (with_reducible first | exact HB.out | apply below_alloc | apply pw_below_drewN | apply below_drew1) | exact HB.out)))); have n1_ := Aside0.mk (below_step (by repeat (first | (with_reducible first | exact HB.out | apply below_alloc | apply pw_below_drewN | apply below_drew1) | exact HB.out)) hb); clear HB; have HO116 := n0_; have HB := n1_; clear n0_ n1_; (try clear hb); (try clear hb2); (try clear hk); (try clear hi); (try clear ho0)) | ((with_reducible refine gate_callee (f := 18) rfl ?_); refine goesL_ (some 45) rfl rfl Try.func18 (by kernel_rfl) rfl #[.int .i64 1, .string t108] rfl (by (try simp only [List.map_toArray, List.map_cons, List.map_nil]); first | done | rfl | (simp only [List.length_drop, List.length_take]; rfl)) ?_; (with_reducible refine (frame_Scan.calls k 1 t108 t117 t118 t119 _ A7.out).mono ?_); rintro e w15 ⟨v120, rfl, ho0, hb⟩; refine ⟨_, rfl, ?_⟩; have n0_ := Aside0.mk (Kd.R_elder' (by (with_reducible repeat (first | apply Kd.R_alloc | apply Kd.R_drewN | apply Kd.R_drew)); exact HO116.out) (Kd.R_base ho0) hb); have n1_ := Aside0.mk (Kd.R_lower (Kd.R_new' ho0 (Kd.R_lt (by (with_reducible repeat (first | apply Kd.R_alloc | apply Kd.R_drewN | apply Kd.R_drew)); exact HO116.out))) (below_size (by repeat (first | (with_reducible first | exact HB.out | apply below_alloc | apply pw_below_drewN | apply below_drew1) | exact HB.out)))); have n2_ := Aside0.mk (below_step (by repeat (first | (with_reducible first | exact HB.out | apply below_alloc | apply pw_below_drewN | apply below_drew1) | exact HB.out)) hb); clear HO116; clear HB; have HO116 := n0_; have HO121 := n1_; have HB := n2_; clear n0_ n1_ n2_; (try clear hb); (try clear hb2); (try clear hk); (try clear hi); (try clear ho0)) | ((with_reducible refine gate_callee (f := 18) rfl ?_); refine goesL_ (some 50) rfl rfl Try.func18 (by kernel_rfl) rfl #[.int .i64 2, .string (⟨#[120]⟩ : ByteArray)] rfl (by (try simp only [List.map_toArray, List.map_cons, List.map_nil]); first | done | rfl | (simp only [List.length_drop, List.length_take]; rfl)) ?_; (with_reducible refine (frame_Scan.calls k 2 (⟨#[120]⟩ : ByteArray) t122 t123 t124 _ A8.out).mono ?_); rintro e w16 ⟨v125, rfl, ho0, hb⟩; refine ⟨_, rfl, ?_⟩; have n0_ := Aside0.mk (Kd.R_elder' (by (with_reducible repeat (first | apply Kd.R_alloc | apply Kd.R_drewN | apply Kd.R_drew)); exact HO116.out) (Kd.R_base ho0) hb); have n1_ := Aside0.mk (Kd.R_elder' (by (with_reducible repeat (first | apply Kd.R_alloc | apply Kd.R_drewN | apply Kd.R_drew)); exact HO121.out) (Kd.R_base ho0) hb); have n2_ := Aside0.mk (Kd.R_lower (Kd.R_new' (Kd.R_new' ho0 (Kd.R_lt (by (with_reducible repeat (first | apply Kd.R_alloc | apply Kd.R_drewN | apply Kd.R_drew)); exact HO116.out))) (Kd.R_lt (by (with_reducible repeat (first | apply Kd.R_alloc | apply Kd.R_drewN | apply Kd.R_drew)); exact HO121.out))) (below_size (by repeat (first | (with_reducible first | exact HB.out | apply below_alloc | apply pw_below_drewN | apply below_drew1) | exact HB.out)))); have n3_ := Aside0.mk (below_step (by repeat (first | (with_reducible first | exact HB.out | apply below_alloc | apply pw_below_drewN | apply below_drew1) | exact HB.out)) hb); clear HO116; clear HO121; clear HB; have HO116 := n0_; have HO121 := n1_; have HO126 := n2_; have HB := n3_; clear n0_ n1_ n2_ n3_; (try clear hb); (try clear hb2); (try clear hk); (try clear hi); (try clear ho0)) | ((with_reducible refine gate_callee (f := 18) rfl ?_); refine goesL_ (some 56) rfl rfl Try.func18 (by kernel_rfl) rfl #[.int .i64 2, .string t108] rfl (by (try simp only [List.map_toArray, List.map_cons, List.map_nil]); first | done | rfl | (simp only [List.length_drop, List.length_take]; rfl)) ?_; (with_reducible refine (frame_Scan.calls k 2 t108 t127 t128 t129 _ A9.out).mono ?_); rintro e w17 ⟨v130, rfl, ho0, hb⟩; refine ⟨_, rfl, ?_⟩; have n0_ := Aside0.mk (Kd.R_elder' (by (with_reducible repeat (first | apply Kd.R_alloc | apply Kd.R_drewN | apply Kd.R_drew)); exact HO116.out) (Kd.R_base ho0) hb); have n1_ := Aside0.mk (Kd.R_elder' (by (with_reducible repeat (first | apply Kd.R_alloc | apply Kd.R_drewN | apply Kd.R_drew)); exact HO121.out) (Kd.R_base ho0) hb); have n2_ := Aside0.mk (Kd.R_elder' (by (with_reducible repeat (first | apply Kd.R_alloc | apply Kd.R_drewN | apply Kd.R_drew)); exact HO126.out) (Kd.R_base ho0) hb); have n3_ := Aside0.mk (Kd.R_lower (Kd.R_new' (Kd.R_new' (Kd.R_new' ho0 (Kd.R_lt (by (with_reducible repeat (first | apply Kd.R_alloc | apply Kd.R_drewN | apply Kd.R_drew)); exact HO116.out))) (Kd.R_lt (by (with_reducible repeat (first | apply Kd.R_alloc | apply Kd.R_drewN | apply Kd.R_drew)); exact HO121.out))) (Kd.R_lt (by (with_reducible repeat (first | apply Kd.R_alloc | apply Kd.R_drewN | apply Kd.R_drew)); exact HO126.out))) (below_size (by repeat (first | (with_reducible first | exact HB.out | apply below_alloc | apply pw_below_drewN | apply below_drew1) | exact HB.out)))); have n4_ := Aside0.mk (below_step (by repeat (first | (with_reducible first | exact HB.out | apply below_alloc | apply pw_below_drewN | apply below_drew1) | exact HB.out)) hb); clear HO116; clear HO121; clear HO126; clear HB; have HO116 := n0_; have HO121 := n1_; have HO126 := n2_; have HO131 := n3_; have HB := n4_; clear n0_ n1_ n2_ n3_ n4_; (try clear hb); (try clear hb2); (try clear hk); (try clear hi); (try clear ho0)))
   (try simp only [Act.put, Hand.z1, Hand.z2, Hand.z3])
   go_cut [77] (fun v77 wc => ∃ (kq : Nat) (x77_9 : Bool), v77 = .bool x77_9 ∧ Aside0 (careenlaw06_awake.j0 kq t106 t107 t108 t109 t111 t113 t114 t119 t124 t127 t129 x77_9 = some r) ∧ Aside0 (kq ≤ k) ∧ Aside0 (Kd.R k23 23 wc w.heap.size (fun _ => True) v130 t127) ∧ Aside0 (Below w.heap.size w wc))
   case first =>
    have H := HC10.out
    clear HC10
    by_cases c18 : (t106.size : Int) = 10
    ·rw [if_pos c18] at H
     have c18b0 : ((t106.size : Int) == 10) = true := beq_iff_eq.mpr c18
     have c18b1 : ((t106.size : Int) != 10) = false := bne_eq_false_iff_eq.mpr c18
     clear c18
     (first | rw [c18b0] | (simp only [i64_w, i32_w]; rw [c18b0]) | skip)
     by_cases c19 : (t108.size : Int) = 10
     ·rw [if_pos c19] at H
      have c19b0 : ((t108.size : Int) == 10) = true := beq_iff_eq.mpr c19
      have c19b1 : ((t108.size : Int) != 10) = false := bne_eq_false_iff_eq.mpr c19
      clear c19
      by_cases c20 : (t112.length : Int) = 2
      ·rw [if_pos c20] at H
       have c20b0 : ((t112.length : Int) == 2) = true := beq_iff_eq.mpr c20
       have c20b1 : ((t112.length : Int) != 2) = false := bne_eq_false_iff_eq.mpr c20
       clear c20
       have H' := Aside0.mk H
       clear H
       obtain ⟨Ao21, co21, eo21⟩ := Kd.R_slice HO116.out
       subst eo21
       obtain ⟨Ao22, co22, eo22⟩ := Kd.R_slice HO131.out
       subst eo22
       go_wp2
       go_meet
       case rel => exact ⟨_, (((t127.length : Int) != 1)), (by first | rfl | (simp; done) | (simp [*]; done)), H', ⟨by first | omega | exact Nat.le_refl _⟩, ⟨by (with_reducible repeat (first | apply Kd.R_alloc | apply Kd.R_drewN | apply Kd.R_drew)); exact Kd.R_mono HO131.out (fun _ hk => trivial)⟩, ⟨by repeat (first | (with_reducible first | exact HB.out | apply below_alloc | apply pw_below_drewN | apply below_drew1) | exact HB.out)⟩⟩
      ·rw [if_neg c20] at H
       have c20b0 : ((t112.length : Int) == 2) = false := beq_eq_false_iff_ne.mpr c20
       have c20b1 : ((t112.length : Int) != 2) = true := bne_iff_ne.mpr c20
       have H' := Aside0.mk H
       clear H
       obtain ⟨Ao23, co23, eo23⟩ := Kd.R_slice HO116.out
       subst eo23
       go_wp2
       go_meet
       case rel => exact ⟨_, (true), (by first | rfl | (simp; done) | (simp [*]; done)), H', ⟨by first | omega | exact Nat.le_refl _⟩, ⟨by (with_reducible repeat (first | apply Kd.R_alloc | apply Kd.R_drewN | apply Kd.R_drew)); exact Kd.R_mono HO131.out (fun _ hk => trivial)⟩, ⟨by repeat (first | (with_reducible first | exact HB.out | apply below_alloc | apply pw_below_drewN | apply below_drew1) | exact HB.out)⟩⟩
     ·rw [if_neg c19] at H
      have c19b0 : ((t108.size : Int) == 10) = false := beq_eq_false_iff_ne.mpr c19
      have c19b1 : ((t108.size : Int) != 10) = true := bne_iff_ne.mpr c19
      have H' := Aside0.mk H
      clear H
      go_wp2
      go_meet
      case rel => exact ⟨_, (true), (by first | rfl | (simp; done) | (simp [*]; done)), H', ⟨by first | omega | exact Nat.le_refl _⟩, ⟨by (with_reducible repeat (first | apply Kd.R_alloc | apply Kd.R_drewN | apply Kd.R_drew)); exact Kd.R_mono HO131.out (fun _ hk => trivial)⟩, ⟨by repeat (first | (with_reducible first | exact HB.out | apply below_alloc | apply pw_below_drewN | apply below_drew1) | exact HB.out)⟩⟩
    ·rw [if_neg c18] at H
     have c18b0 : ((t106.size : Int) == 10) = false := beq_eq_false_iff_ne.mpr c18
     have c18b1 : ((t106.size : Int) != 10) = true := bne_iff_ne.mpr c18
     (first | rw [c18b0] | (simp only [i64_w, i32_w]; rw [c18b0]) | skip)
     have H' := Aside0.mk H
     clear H
     go_wp2
     go_meet
     case rel => exact ⟨_, (true), (by first | rfl | (simp; done) | (simp [*]; done)), H', ⟨by first | omega | exact Nat.le_refl _⟩, ⟨by (with_reducible repeat (first | apply Kd.R_alloc | apply Kd.R_drewN | apply Kd.R_drew)); exact Kd.R_mono HO131.out (fun _ hk => trivial)⟩, ⟨by repeat (first | (with_reducible first | exact HB.out | apply below_alloc | apply pw_below_drewN | apply below_drew1) | exact HB.out)⟩⟩
   case rest =>
    clear HC10
    try clear c1
    try clear c2
    try clear p2
    try clear c4
    try clear c4b0
    try clear c4b1
    try clear c4b2
    try clear c5
    try clear c5b0
    try clear c5b1
    try clear c5b2
    try clear c11
    try clear c12
    try clear c18
    try clear c18b0
    try clear c18b1
    try clear c19
    try clear c19b0
    try clear c19b1
    try clear c20
    try clear c20b0
    try clear c20b1
    obtain ⟨kq, x77_9, rfl, HA, HJ9, HO_16, HB⟩ := hcut
    cases kq with
    | zero => cases (show (none : Option _) = some _ from HA.out)
    | succ kj9 =>
     have H := HA.out
     clear HA
     simp only [careenlaw06_awake.j0] at H
     by_cases c24 : x77_9 = true
     ·subst c24
      have H1 : (some false) = some r := by rw [if_pos rfl] at H; exact H
      clear H
      have H := H1
      clear H1
      obtain rfl := Option.some.inj H
      go_wp2
      go_ret
      exact ⟨by first | rfl | (simp [errW_none, errW_some] <;> rfl) | (simp [*, errW_none, errW_some] <;> rfl), by repeat (first | (with_reducible first | exact HB.out | apply below_alloc | apply pw_below_drewN | apply below_drew1) | exact HB.out)⟩
     ·replace c24 := Bool.eq_false_iff.mpr c24
      subst c24
      have H1 : (if 0 ≤ 6 then (if 6 ≤ (t106.size : Int) then (if (t106.extract 0 6).toList = ([97, 3, 0, 2, 120, 121] : List UInt8) then (if t107 = 0 then (if 6 ≤ (t108.size : Int) then (if (t108.extract 0 6).toList = ([98, 5, 200, 2, 120, 121] : List UInt8) then (if t109 = 0 then (if t111 = 1 then (if t113 = 20 then (if t114 = 0 then (if t119 = 22 then (if t124 = 11 then (if t129 = 0 then (if 0 < (t127.length : Int) then (if ((rd_T23 t127 0).f1) = 5 then ((frame_Right.f 2 ((rd_T23 t127 0).f0) ((rd_T23 t127 0).f1) ((rd_T23 t127 0).f2)).bind fun t134 => (if t134 = true then ((frame_Right.f 1 ((rd_T23 t127 0).f0) ((rd_T23 t127 0).f1) ((rd_T23 t127 0).f2)).bind fun t136 => (some (!t136))) else (some false))) else (some false)) else (none)) else (some false)) else (some false)) else (some false)) else (some false)) else (some false)) else (some false)) else (some false)) else (some false)) else (none)) else (some false)) else (some false)) else (none)) else (none)) = some r := by rw [if_neg (show ¬ (false = true) by decide)] at H; exact H
      clear H
      have H := H1
      clear H1
      by_cases c25 : 0 ≤ 6
      ·rw [if_pos c25] at H
       have c25b0 := eq_true c25
       have c25b1 : decide (0 ≤ 6) = true := decide_eq_true c25
       clear c25
       by_cases c26 : 6 ≤ (t106.size : Int)
       ·rw [if_pos c26] at H
        have c26b0 := eq_true c26
        have c26b1 : decide (6 ≤ (t106.size : Int)) = true := decide_eq_true c26
        clear c26
        by_cases c27 : (t106.extract 0 6).toList = ([97, 3, 0, 2, 120, 121] : List UInt8)
        ·rw [if_pos c27] at H
         have c27b0 : ((t106.extract 0 6).toList == ([97, 3, 0, 2, 120, 121] : List UInt8)) = true := beq_iff_eq.mpr c27
         have c27b1 : ((t106.extract 0 6).toList != ([97, 3, 0, 2, 120, 121] : List UInt8)) = false := bne_eq_false_iff_eq.mpr c27
         clear c27
         by_cases c28 : t107 = 0
         ·rw [if_pos c28] at H
          have c28b0 : (t107 == 0) = true := beq_iff_eq.mpr c28
          have c28b1 : (t107 != 0) = false := bne_eq_false_iff_eq.mpr c28
          clear c28
          have c29b0 := eq_true (of_decide_eq_true (by first | (with_reducible assumption) | assumption) : 0 ≤ 6)
          by_cases c30 : 6 ≤ (t108.size : Int)
          ·rw [if_pos c30] at H
           have c30b0 := eq_true c30
           have c30b1 : decide (6 ≤ (t108.size : Int)) = true := decide_eq_true c30
           clear c30
           by_cases c31 : (t108.extract 0 6).toList = ([98, 5, 200, 2, 120, 121] : List UInt8)
           ·rw [if_pos c31] at H
            have c31b0 : ((t108.extract 0 6).toList == ([98, 5, 200, 2, 120, 121] : List UInt8)) = true := beq_iff_eq.mpr c31
            have c31b1 : ((t108.extract 0 6).toList != ([98, 5, 200, 2, 120, 121] : List UInt8)) = false := bne_eq_false_iff_eq.mpr c31
            clear c31
            by_cases c32 : t109 = 0
            ·rw [if_pos c32] at H
             have c32b0 : (t109 == 0) = true := beq_iff_eq.mpr c32
             have c32b1 : (t109 != 0) = false := bne_eq_false_iff_eq.mpr c32
             clear c32
             by_cases c33 : t111 = 1
             ·rw [if_pos c33] at H
              have c33b0 : (t111 == 1) = true := beq_iff_eq.mpr c33
              have c33b1 : (t111 != 1) = false := bne_eq_false_iff_eq.mpr c33
              clear c33
              by_cases c34 : t113 = 20
              ·rw [if_pos c34] at H
               have c34b0 : (t113 == 20) = true := beq_iff_eq.mpr c34
               have c34b1 : (t113 != 20) = false := bne_eq_false_iff_eq.mpr c34
               clear c34
               by_cases c35 : t114 = 0
               ·rw [if_pos c35] at H
                have c35b0 : (t114 == 0) = true := beq_iff_eq.mpr c35
                have c35b1 : (t114 != 0) = false := bne_eq_false_iff_eq.mpr c35
                clear c35
                by_cases c36 : t119 = 22
                ·rw [if_pos c36] at H
                 have c36b0 : (t119 == 22) = true := beq_iff_eq.mpr c36
                 have c36b1 : (t119 != 22) = false := bne_eq_false_iff_eq.mpr c36
                 clear c36
                 by_cases c37 : t124 = 11
                 ·rw [if_pos c37] at H
                  have c37b0 : (t124 == 11) = true := beq_iff_eq.mpr c37
                  have c37b1 : (t124 != 11) = false := bne_eq_false_iff_eq.mpr c37
                  clear c37
                  by_cases c38 : t129 = 0
                  ·rw [if_pos c38] at H
                   have c38b0 : (t129 == 0) = true := beq_iff_eq.mpr c38
                   have c38b1 : (t129 != 0) = false := bne_eq_false_iff_eq.mpr c38
                   clear c38
                   by_cases c39 : 0 < (t127.length : Int)
                   ·rw [if_pos c39] at H
                    have c39b0 : decide (0 < (t127.length : Int)) = true := decide_eq_true c39
                    have c39b1 : decide (0 < t127.length) = true := decide_eq_true (by omega)
                    clear c39
                    by_cases c40 : ((rd_T23 t127 0).f1) = 5
                    ·rw [if_pos c40] at H
                     have c40b0 : (((rd_T23 t127 0).f1) == 5) = true := beq_iff_eq.mpr c40
                     have c40b1 : (((rd_T23 t127 0).f1) != 5) = false := bne_eq_false_iff_eq.mpr c40
                     clear c40
                     replace H := Option.bind_eq_some_iff.mp H
                     obtain ⟨t134, A410, H⟩ := H
                     replace H : (if t134 = true then ((frame_Right.f 1 ((rd_T23 t127 0).f0) ((rd_T23 t127 0).f1) ((rd_T23 t127 0).f2)).bind fun t136 => (some (!t136))) else (some false)) = some r := H
                     have A41 := Aside0.mk A410
                     clear A410
                     by_cases c42 : t134 = true
                     ·subst c42
                      have H1 : ((frame_Right.f 1 ((rd_T23 t127 0).f0) ((rd_T23 t127 0).f1) ((rd_T23 t127 0).f2)).bind fun t136 => (some (!t136))) = some r := by rw [if_pos rfl] at H; exact H
                      clear H
                      have H := H1
                      clear H1
                      replace H := Option.bind_eq_some_iff.mp H
                      obtain ⟨t136, A430, H⟩ := H
                      replace H : (some (!t136)) = some r := H
                      have A43 := Aside0.mk A430
                      clear A430
                      obtain rfl := Option.some.inj H
                      obtain ⟨Ao44, co44, eo44⟩ := Kd.R_slice HO_16.out
                      subst eo44
                      have p132 : 0 ≤ (0 : Int) := (by omega)
                      have q132 : 0 < (t127.length : Int) := of_decide_eq_true (by first | (with_reducible assumption) | assumption)
                      obtain ⟨ad132, e132, hx132_0, hx132_1, hx132_2⟩ := at_T23 (Kd.R_reads' HO_16.out).2.2 0 p132 q132
                      cases e132
                      have qi132 : (0 < t127.length) = True := eq_true (by omega)
                      (try rw [show ((0 : Int)).toNat = 0 from rfl] at hx132_0)
                      (try rw [show 0 * 3 = 0 from rfl] at hx132_0)
                      (try rw [Addr.add_zero'] at hx132_0)
                      (try rw [show ((0 : Int)).toNat = 0 from rfl] at hx132_1)
                      (try rw [show 0 * 3 = 0 from rfl] at hx132_1)
                      (try rw [Addr.add_zero'] at hx132_1)
                      (try rw [show ((0 : Int)).toNat = 0 from rfl] at hx132_2)
                      (try rw [show 0 * 3 = 0 from rfl] at hx132_2)
                      (try rw [Addr.add_zero'] at hx132_2)
                      replace p132 := eq_true p132
                      replace q132 := eq_true q132
                      have p133 : 0 ≤ (0 : Int) := (by omega)
                      have q133 : 0 < (t127.length : Int) := of_decide_eq_true (by first | (with_reducible assumption) | assumption)
                      obtain ⟨ad133, e133, hx133_0, hx133_1, hx133_2⟩ := at_T23 (Kd.R_reads' HO_16.out).2.2 0 p133 q133
                      obtain rfl : ad132 = ad133 := (by injection e133)
                      have qi133 : (0 < t127.length) = True := eq_true (by omega)
                      (try rw [show ((0 : Int)).toNat = 0 from rfl] at hx133_0)
                      (try rw [show 0 * 3 = 0 from rfl] at hx133_0)
                      (try rw [Addr.add_zero'] at hx133_0)
                      (try rw [show ((0 : Int)).toNat = 0 from rfl] at hx133_1)
                      (try rw [show 0 * 3 = 0 from rfl] at hx133_1)
                      (try rw [Addr.add_zero'] at hx133_1)
                      (try rw [show ((0 : Int)).toNat = 0 from rfl] at hx133_2)
                      (try rw [show 0 * 3 = 0 from rfl] at hx133_2)
                      (try rw [Addr.add_zero'] at hx133_2)
                      replace p133 := eq_true p133
                      replace q133 := eq_true q133
                      go_wp2_with (first | (go_at_call 14; (with_reducible refine (frame_Right.calls 2 ((rd_T23 t127 0).f0) ((rd_T23 t127 0).f1) ((rd_T23 t127 0).f2) true _ A41.out).mono ?_); rintro e w45 ⟨rfl, hb⟩; have n0_ := Aside0.mk (Kd.R_below (by (with_reducible repeat (first | apply Kd.R_alloc | apply Kd.R_drewN | apply Kd.R_drew)); exact HO_16.out) hb); have n1_ := Aside0.mk (below_step (by repeat (first | (with_reducible first | exact HB.out | apply below_alloc | apply pw_below_drewN | apply below_drew1) | exact HB.out)) hb); clear HO_16; clear HB; have HO_16 := n0_; have HB := n1_; clear n0_ n1_; (try clear hb); (try clear hb2); (try clear hk); (try clear hi); have p135 : 0 ≤ (0 : Int) := (by omega); have q135 : 0 < (t127.length : Int) := of_decide_eq_true (by first | (with_reducible assumption) | assumption); obtain ⟨ad135, e135, hx135_0, hx135_1, hx135_2⟩ := at_T23 (Kd.R_reads' HO_16.out).2.2 0 p135 q135; obtain rfl : ad132 = ad135 := (by injection e135); have qi135 : (0 < t127.length) = True := eq_true (by omega); (try rw [show ((0 : Int)).toNat = 0 from rfl] at hx135_0); (try rw [show 0 * 3 = 0 from rfl] at hx135_0); (try rw [Addr.add_zero'] at hx135_0); (try rw [show ((0 : Int)).toNat = 0 from rfl] at hx135_1); (try rw [show 0 * 3 = 0 from rfl] at hx135_1); (try rw [Addr.add_zero'] at hx135_1); (try rw [show ((0 : Int)).toNat = 0 from rfl] at hx135_2); (try rw [show 0 * 3 = 0 from rfl] at hx135_2); (try rw [Addr.add_zero'] at hx135_2); replace p135 := eq_true p135; replace q135 := eq_true q135) | (go_at_call 14; (with_reducible refine (frame_Right.calls 1 ((rd_T23 t127 0).f0) ((rd_T23 t127 0).f1) ((rd_T23 t127 0).f2) t136 _ A43.out).mono ?_); rintro e w46 ⟨rfl, hb⟩; have n0_ := Aside0.mk (Kd.R_below (by (with_reducible repeat (first | apply Kd.R_alloc | apply Kd.R_drewN | apply Kd.R_drew)); exact HO_16.out) hb); have n1_ := Aside0.mk (below_step (by repeat (first | (with_reducible first | exact HB.out | apply below_alloc | apply pw_below_drewN | apply below_drew1) | exact HB.out)) hb); clear HO_16; clear HB; have HO_16 := n0_; have HB := n1_; clear n0_ n1_; (try clear hb); (try clear hb2); (try clear hk); (try clear hi)))
                      go_ret
                      exact ⟨by first | rfl | (simp [errW_none, errW_some] <;> rfl) | (simp [*, errW_none, errW_some] <;> rfl), by repeat (first | (with_reducible first | exact HB.out | apply below_alloc | apply pw_below_drewN | apply below_drew1) | exact HB.out)⟩
                     ·replace c42 := Bool.eq_false_iff.mpr c42
                      subst c42
                      have H1 : (some false) = some r := by rw [if_neg (show ¬ (false = true) by decide)] at H; exact H
                      clear H
                      have H := H1
                      clear H1
                      obtain rfl := Option.some.inj H
                      obtain ⟨Ao47, co47, eo47⟩ := Kd.R_slice HO_16.out
                      subst eo47
                      have p132 : 0 ≤ (0 : Int) := (by omega)
                      have q132 : 0 < (t127.length : Int) := of_decide_eq_true (by first | (with_reducible assumption) | assumption)
                      obtain ⟨ad132, e132, hx132_0, hx132_1, hx132_2⟩ := at_T23 (Kd.R_reads' HO_16.out).2.2 0 p132 q132
                      cases e132
                      have qi132 : (0 < t127.length) = True := eq_true (by omega)
                      (try rw [show ((0 : Int)).toNat = 0 from rfl] at hx132_0)
                      (try rw [show 0 * 3 = 0 from rfl] at hx132_0)
                      (try rw [Addr.add_zero'] at hx132_0)
                      (try rw [show ((0 : Int)).toNat = 0 from rfl] at hx132_1)
                      (try rw [show 0 * 3 = 0 from rfl] at hx132_1)
                      (try rw [Addr.add_zero'] at hx132_1)
                      (try rw [show ((0 : Int)).toNat = 0 from rfl] at hx132_2)
                      (try rw [show 0 * 3 = 0 from rfl] at hx132_2)
                      (try rw [Addr.add_zero'] at hx132_2)
                      replace p132 := eq_true p132
                      replace q132 := eq_true q132
                      have p133 : 0 ≤ (0 : Int) := (by omega)
                      have q133 : 0 < (t127.length : Int) := of_decide_eq_true (by first | (with_reducible assumption) | assumption)
                      obtain ⟨ad133, e133, hx133_0, hx133_1, hx133_2⟩ := at_T23 (Kd.R_reads' HO_16.out).2.2 0 p133 q133
                      obtain rfl : ad132 = ad133 := (by injection e133)
                      have qi133 : (0 < t127.length) = True := eq_true (by omega)
                      (try rw [show ((0 : Int)).toNat = 0 from rfl] at hx133_0)
                      (try rw [show 0 * 3 = 0 from rfl] at hx133_0)
                      (try rw [Addr.add_zero'] at hx133_0)
                      (try rw [show ((0 : Int)).toNat = 0 from rfl] at hx133_1)
                      (try rw [show 0 * 3 = 0 from rfl] at hx133_1)
                      (try rw [Addr.add_zero'] at hx133_1)
                      (try rw [show ((0 : Int)).toNat = 0 from rfl] at hx133_2)
                      (try rw [show 0 * 3 = 0 from rfl] at hx133_2)
                      (try rw [Addr.add_zero'] at hx133_2)
                      replace p133 := eq_true p133
                      replace q133 := eq_true q133
                      go_wp2_with (first | (go_at_call 14; (with_reducible refine (frame_Right.calls 2 ((rd_T23 t127 0).f0) ((rd_T23 t127 0).f1) ((rd_T23 t127 0).f2) false _ A41.out).mono ?_); rintro e w48 ⟨rfl, hb⟩; have n0_ := Aside0.mk (Kd.R_below (by (with_reducible repeat (first | apply Kd.R_alloc | apply Kd.R_drewN | apply Kd.R_drew)); exact HO_16.out) hb); have n1_ := Aside0.mk (below_step (by repeat (first | (with_reducible first | exact HB.out | apply below_alloc | apply pw_below_drewN | apply below_drew1) | exact HB.out)) hb); clear HO_16; clear HB; have HO_16 := n0_; have HB := n1_; clear n0_ n1_; (try clear hb); (try clear hb2); (try clear hk); (try clear hi)))
                      go_ret
                      exact ⟨by first | rfl | (simp [errW_none, errW_some] <;> rfl) | (simp [*, errW_none, errW_some] <;> rfl), by repeat (first | (with_reducible first | exact HB.out | apply below_alloc | apply pw_below_drewN | apply below_drew1) | exact HB.out)⟩
                    ·rw [if_neg c40] at H
                     have c40b0 : (((rd_T23 t127 0).f1) == 5) = false := beq_eq_false_iff_ne.mpr c40
                     have c40b1 : (((rd_T23 t127 0).f1) != 5) = true := bne_iff_ne.mpr c40
                     obtain rfl := Option.some.inj H
                     obtain ⟨Ao49, co49, eo49⟩ := Kd.R_slice HO_16.out
                     subst eo49
                     have p132 : 0 ≤ (0 : Int) := (by omega)
                     have q132 : 0 < (t127.length : Int) := of_decide_eq_true (by first | (with_reducible assumption) | assumption)
                     obtain ⟨ad132, e132, hx132_0, hx132_1, hx132_2⟩ := at_T23 (Kd.R_reads' HO_16.out).2.2 0 p132 q132
                     cases e132
                     have qi132 : (0 < t127.length) = True := eq_true (by omega)
                     (try rw [show ((0 : Int)).toNat = 0 from rfl] at hx132_0)
                     (try rw [show 0 * 3 = 0 from rfl] at hx132_0)
                     (try rw [Addr.add_zero'] at hx132_0)
                     (try rw [show ((0 : Int)).toNat = 0 from rfl] at hx132_1)
                     (try rw [show 0 * 3 = 0 from rfl] at hx132_1)
                     (try rw [Addr.add_zero'] at hx132_1)
                     (try rw [show ((0 : Int)).toNat = 0 from rfl] at hx132_2)
                     (try rw [show 0 * 3 = 0 from rfl] at hx132_2)
                     (try rw [Addr.add_zero'] at hx132_2)
                     replace p132 := eq_true p132
                     replace q132 := eq_true q132
                     go_wp2
                     go_ret
                     exact ⟨by first | rfl | (simp [errW_none, errW_some] <;> rfl) | (simp [*, errW_none, errW_some] <;> rfl), by repeat (first | (with_reducible first | exact HB.out | apply below_alloc | apply pw_below_drewN | apply below_drew1) | exact HB.out)⟩
                   ·rw [if_neg c39] at H
                    exact absurd H (by simp)
                  ·rw [if_neg c38] at H
                   have c38b0 : (t129 == 0) = false := beq_eq_false_iff_ne.mpr c38
                   have c38b1 : (t129 != 0) = true := bne_iff_ne.mpr c38
                   obtain rfl := Option.some.inj H
                   go_wp2
                   go_ret
                   exact ⟨by first | rfl | (simp [errW_none, errW_some] <;> rfl) | (simp [*, errW_none, errW_some] <;> rfl), by repeat (first | (with_reducible first | exact HB.out | apply below_alloc | apply pw_below_drewN | apply below_drew1) | exact HB.out)⟩
                 ·rw [if_neg c37] at H
                  have c37b0 : (t124 == 11) = false := beq_eq_false_iff_ne.mpr c37
                  have c37b1 : (t124 != 11) = true := bne_iff_ne.mpr c37
                  obtain rfl := Option.some.inj H
                  go_wp2
                  go_ret
                  exact ⟨by first | rfl | (simp [errW_none, errW_some] <;> rfl) | (simp [*, errW_none, errW_some] <;> rfl), by repeat (first | (with_reducible first | exact HB.out | apply below_alloc | apply pw_below_drewN | apply below_drew1) | exact HB.out)⟩
                ·rw [if_neg c36] at H
                 have c36b0 : (t119 == 22) = false := beq_eq_false_iff_ne.mpr c36
                 have c36b1 : (t119 != 22) = true := bne_iff_ne.mpr c36
                 obtain rfl := Option.some.inj H
                 go_wp2
                 go_ret
                 exact ⟨by first | rfl | (simp [errW_none, errW_some] <;> rfl) | (simp [*, errW_none, errW_some] <;> rfl), by repeat (first | (with_reducible first | exact HB.out | apply below_alloc | apply pw_below_drewN | apply below_drew1) | exact HB.out)⟩
               ·rw [if_neg c35] at H
                have c35b0 : (t114 == 0) = false := beq_eq_false_iff_ne.mpr c35
                have c35b1 : (t114 != 0) = true := bne_iff_ne.mpr c35
                obtain rfl := Option.some.inj H
                go_wp2
                go_ret
                exact ⟨by first | rfl | (simp [errW_none, errW_some] <;> rfl) | (simp [*, errW_none, errW_some] <;> rfl), by repeat (first | (with_reducible first | exact HB.out | apply below_alloc | apply pw_below_drewN | apply below_drew1) | exact HB.out)⟩
              ·rw [if_neg c34] at H
               have c34b0 : (t113 == 20) = false := beq_eq_false_iff_ne.mpr c34
               have c34b1 : (t113 != 20) = true := bne_iff_ne.mpr c34
               obtain rfl := Option.some.inj H
               go_wp2
               go_ret
               exact ⟨by first | rfl | (simp [errW_none, errW_some] <;> rfl) | (simp [*, errW_none, errW_some] <;> rfl), by repeat (first | (with_reducible first | exact HB.out | apply below_alloc | apply pw_below_drewN | apply below_drew1) | exact HB.out)⟩
             ·rw [if_neg c33] at H
              have c33b0 : (t111 == 1) = false := beq_eq_false_iff_ne.mpr c33
              have c33b1 : (t111 != 1) = true := bne_iff_ne.mpr c33
              obtain rfl := Option.some.inj H
              go_wp2
              go_ret
              exact ⟨by first | rfl | (simp [errW_none, errW_some] <;> rfl) | (simp [*, errW_none, errW_some] <;> rfl), by repeat (first | (with_reducible first | exact HB.out | apply below_alloc | apply pw_below_drewN | apply below_drew1) | exact HB.out)⟩
            ·rw [if_neg c32] at H
             have c32b0 : (t109 == 0) = false := beq_eq_false_iff_ne.mpr c32
             have c32b1 : (t109 != 0) = true := bne_iff_ne.mpr c32
             obtain rfl := Option.some.inj H
             go_wp2
             go_ret
             exact ⟨by first | rfl | (simp [errW_none, errW_some] <;> rfl) | (simp [*, errW_none, errW_some] <;> rfl), by repeat (first | (with_reducible first | exact HB.out | apply below_alloc | apply pw_below_drewN | apply below_drew1) | exact HB.out)⟩
           ·rw [if_neg c31] at H
            have c31b0 : ((t108.extract 0 6).toList == ([98, 5, 200, 2, 120, 121] : List UInt8)) = false := beq_eq_false_iff_ne.mpr c31
            have c31b1 : ((t108.extract 0 6).toList != ([98, 5, 200, 2, 120, 121] : List UInt8)) = true := bne_iff_ne.mpr c31
            obtain rfl := Option.some.inj H
            go_wp2
            go_ret
            exact ⟨by first | rfl | (simp [errW_none, errW_some] <;> rfl) | (simp [*, errW_none, errW_some] <;> rfl), by repeat (first | (with_reducible first | exact HB.out | apply below_alloc | apply pw_below_drewN | apply below_drew1) | exact HB.out)⟩
          ·rw [if_neg c30] at H
           exact absurd H (by simp)
         ·rw [if_neg c28] at H
          have c28b0 : (t107 == 0) = false := beq_eq_false_iff_ne.mpr c28
          have c28b1 : (t107 != 0) = true := bne_iff_ne.mpr c28
          obtain rfl := Option.some.inj H
          go_wp2
          go_ret
          exact ⟨by first | rfl | (simp [errW_none, errW_some] <;> rfl) | (simp [*, errW_none, errW_some] <;> rfl), by repeat (first | (with_reducible first | exact HB.out | apply below_alloc | apply pw_below_drewN | apply below_drew1) | exact HB.out)⟩
        ·rw [if_neg c27] at H
         have c27b0 : ((t106.extract 0 6).toList == ([97, 3, 0, 2, 120, 121] : List UInt8)) = false := beq_eq_false_iff_ne.mpr c27
         have c27b1 : ((t106.extract 0 6).toList != ([97, 3, 0, 2, 120, 121] : List UInt8)) = true := bne_iff_ne.mpr c27
         obtain rfl := Option.some.inj H
         go_wp2
         go_ret
         exact ⟨by first | rfl | (simp [errW_none, errW_some] <;> rfl) | (simp [*, errW_none, errW_some] <;> rfl), by repeat (first | (with_reducible first | exact HB.out | apply below_alloc | apply pw_below_drewN | apply below_drew1) | exact HB.out)⟩
       ·rw [if_neg c26] at H
        exact absurd H (by simp)
      ·rw [if_neg c25] at H
       exact absurd H (by simp)
  ·rw [if_neg c5] at H
   exact absurd H (by simp)
 ·rw [if_neg c4] at H
  exact absurd H (by simp)

/-! ### careenref06_Right: function 15 -/
def careenref06_Right.f (a0 : Int) (a1_0 : Int) (a1_1 : Int) (a1_2 : ByteArray) : Option (Bool) := if a1_0 < 1 then (some false) else (if a1_0 > 255 then (some false) else (if a1_1 < 0 then (some false) else (if a1_1 > 255 then (some false) else (if (a1_2.size : Int) > 4000 then (some false) else (if a0 = 2 then (some true) else (if a0 = 1 then (if a1_0 ≤ 9 then (some (a1_1 == 0)) else (some false)) else (some false)))))))
set_option maxHeartbeats 8000000 in
set_option maxRecDepth 100000 in
theorem careenref06_Right.calls (a0 : Int) (a1_0 : Int) (a1_1 : Int) (a1_2 : ByteArray) (r : Bool) (w : World) (h : careenref06_Right.f a0 a1_0 a1_1 a1_2 = some r) :
  Calls Try.prog 15 #[.int .i64 a0, .agg #[.int .i64 a1_0, .int .i64 a1_1, .string a1_2]] w fun e w' => e = .returned (.bool r) ∧ Below w.heap.size w w' := by
 have hu23 := Try.underlying23
 have HB := Aside0.mk (Below.refl w.heap.size w)
 have H : (if a1_0 < 1 then (some false) else (if a1_0 > 255 then (some false) else (if a1_1 < 0 then (some false) else (if a1_1 > 255 then (some false) else (if (a1_2.size : Int) > 4000 then (some false) else (if a0 = 2 then (some true) else (if a0 = 1 then (if a1_0 ≤ 9 then (some (a1_1 == 0)) else (some false)) else (some false)))))))) = some r := h
 clear h
 by_cases c3 : a1_0 < 1
 ·rw [if_pos c3] at H
  have c3b0 : decide (a1_0 < 1) = true := decide_eq_true c3
  clear c3
  obtain rfl := Option.some.inj H
  go_enter Try.func15, Try.ntmps15
  go_wp2_with (first | ((with_reducible refine gate_dst (N := 3) rfl ?_); (try (refine gate_guard (by rfl) ?_; dsimp only)); refine box_event ?hg (N := 3) ?hd (cs := #[.int .i64 a1_0, .int .i64 a1_1, .string a1_2]) (t := 23) ?hr ?_; (case hd => rfl); (case hg => rfl); (case hr => first | (go_simp; done) | (go_simp; rfl)); intro gb137 hg w4 hbox hb; have n0_ := Aside0.mk (below_step (by repeat (first | (with_reducible first | exact HB.out | apply below_alloc | apply pw_below_drewN | apply below_drew1) | exact HB.out)) hb); have n1_ := Aside0.mk (hbox); have n2_ := Aside0.mk ((by rw [hg]; exact (below_size (by repeat (first | (with_reducible first | exact HB.out | apply below_alloc | apply pw_below_drewN | apply below_drew1) | exact HB.out))) : w.heap.size ≤ gb137)); have n3_ := Aside0.mk ((by rw [hg]; exact (below_size (by repeat (first | (with_reducible first | exact HB.out | apply below_alloc | apply pw_below_drewN | apply below_drew1) | exact HB.out))) : w.heap.size ≤ gb137)); clear HB; have HB := n0_; have BK137 := n1_; have GW137 := n2_; have GE137 := n3_; clear n0_ n1_ n2_ n3_; clear hb hbox hg; have hcz5_0 : w4.cell? ⟨gb137, 0, none⟩ = some (.int .i64 a1_0) := (blk_cell BK137.out 0).trans rfl; have hcz5_1 : w4.cell? ⟨gb137, 1, none⟩ = some (.int .i64 a1_1) := (blk_cell BK137.out 1).trans rfl; have hcz5_2 : w4.cell? ⟨gb137, 2, none⟩ = some (.string a1_2) := (blk_cell BK137.out 2).trans rfl; have hfz5_0 := blk_frozen BK137.out 0; have hfz5_1 := blk_frozen BK137.out 1; have hfz5_2 := blk_frozen BK137.out 2))
  go_ret
  exact ⟨by first | rfl | (simp [errW_none, errW_some] <;> rfl) | (simp [*, errW_none, errW_some] <;> rfl), by repeat (first | (with_reducible first | exact HB.out | apply below_alloc | apply pw_below_drewN | apply below_drew1 | refine below_set ?_ GE137.out) | exact HB.out)⟩
 ·rw [if_neg c3] at H
  have c3b0 : decide (a1_0 < 1) = false := decide_eq_false c3
  clear c3
  by_cases c6 : a1_0 > 255
  ·rw [if_pos c6] at H
   have c6b0 : decide (255 < a1_0) = true := decide_eq_true c6
   clear c6
   obtain rfl := Option.some.inj H
   go_enter Try.func15, Try.ntmps15
   go_wp2_with (first | ((with_reducible refine gate_dst (N := 3) rfl ?_); (try (refine gate_guard (by rfl) ?_; dsimp only)); refine box_event ?hg (N := 3) ?hd (cs := #[.int .i64 a1_0, .int .i64 a1_1, .string a1_2]) (t := 23) ?hr ?_; (case hd => rfl); (case hg => rfl); (case hr => first | (go_simp; done) | (go_simp; rfl)); intro gb137 hg w7 hbox hb; have n0_ := Aside0.mk (below_step (by repeat (first | (with_reducible first | exact HB.out | apply below_alloc | apply pw_below_drewN | apply below_drew1) | exact HB.out)) hb); have n1_ := Aside0.mk (hbox); have n2_ := Aside0.mk ((by rw [hg]; exact (below_size (by repeat (first | (with_reducible first | exact HB.out | apply below_alloc | apply pw_below_drewN | apply below_drew1) | exact HB.out))) : w.heap.size ≤ gb137)); have n3_ := Aside0.mk ((by rw [hg]; exact (below_size (by repeat (first | (with_reducible first | exact HB.out | apply below_alloc | apply pw_below_drewN | apply below_drew1) | exact HB.out))) : w.heap.size ≤ gb137)); clear HB; have HB := n0_; have BK137 := n1_; have GW137 := n2_; have GE137 := n3_; clear n0_ n1_ n2_ n3_; clear hb hbox hg; have hcz8_0 : w7.cell? ⟨gb137, 0, none⟩ = some (.int .i64 a1_0) := (blk_cell BK137.out 0).trans rfl; have hcz8_1 : w7.cell? ⟨gb137, 1, none⟩ = some (.int .i64 a1_1) := (blk_cell BK137.out 1).trans rfl; have hcz8_2 : w7.cell? ⟨gb137, 2, none⟩ = some (.string a1_2) := (blk_cell BK137.out 2).trans rfl; have hfz8_0 := blk_frozen BK137.out 0; have hfz8_1 := blk_frozen BK137.out 1; have hfz8_2 := blk_frozen BK137.out 2))
   go_ret
   exact ⟨by first | rfl | (simp [errW_none, errW_some] <;> rfl) | (simp [*, errW_none, errW_some] <;> rfl), by repeat (first | (with_reducible first | exact HB.out | apply below_alloc | apply pw_below_drewN | apply below_drew1 | refine below_set ?_ GE137.out) | exact HB.out)⟩
  ·rw [if_neg c6] at H
   have c6b0 : decide (255 < a1_0) = false := decide_eq_false c6
   clear c6
   by_cases c9 : a1_1 < 0
   ·rw [if_pos c9] at H
    have c9b0 : decide (a1_1 < 0) = true := decide_eq_true c9
    clear c9
    obtain rfl := Option.some.inj H
    go_enter Try.func15, Try.ntmps15
    go_wp2_with (first | ((with_reducible refine gate_dst (N := 3) rfl ?_); (try (refine gate_guard (by rfl) ?_; dsimp only)); refine box_event ?hg (N := 3) ?hd (cs := #[.int .i64 a1_0, .int .i64 a1_1, .string a1_2]) (t := 23) ?hr ?_; (case hd => rfl); (case hg => rfl); (case hr => first | (go_simp; done) | (go_simp; rfl)); intro gb137 hg w10 hbox hb; have n0_ := Aside0.mk (below_step (by repeat (first | (with_reducible first | exact HB.out | apply below_alloc | apply pw_below_drewN | apply below_drew1) | exact HB.out)) hb); have n1_ := Aside0.mk (hbox); have n2_ := Aside0.mk ((by rw [hg]; exact (below_size (by repeat (first | (with_reducible first | exact HB.out | apply below_alloc | apply pw_below_drewN | apply below_drew1) | exact HB.out))) : w.heap.size ≤ gb137)); have n3_ := Aside0.mk ((by rw [hg]; exact (below_size (by repeat (first | (with_reducible first | exact HB.out | apply below_alloc | apply pw_below_drewN | apply below_drew1) | exact HB.out))) : w.heap.size ≤ gb137)); clear HB; have HB := n0_; have BK137 := n1_; have GW137 := n2_; have GE137 := n3_; clear n0_ n1_ n2_ n3_; clear hb hbox hg; have hcz11_0 : w10.cell? ⟨gb137, 0, none⟩ = some (.int .i64 a1_0) := (blk_cell BK137.out 0).trans rfl; have hcz11_1 : w10.cell? ⟨gb137, 1, none⟩ = some (.int .i64 a1_1) := (blk_cell BK137.out 1).trans rfl; have hcz11_2 : w10.cell? ⟨gb137, 2, none⟩ = some (.string a1_2) := (blk_cell BK137.out 2).trans rfl; have hfz11_0 := blk_frozen BK137.out 0; have hfz11_1 := blk_frozen BK137.out 1; have hfz11_2 := blk_frozen BK137.out 2))
    go_ret
    exact ⟨by first | rfl | (simp [errW_none, errW_some] <;> rfl) | (simp [*, errW_none, errW_some] <;> rfl), by repeat (first | (with_reducible first | exact HB.out | apply below_alloc | apply pw_below_drewN | apply below_drew1 | refine below_set ?_ GE137.out) | exact HB.out)⟩
   ·rw [if_neg c9] at H
    have c9b0 : decide (a1_1 < 0) = false := decide_eq_false c9
    clear c9
    by_cases c12 : a1_1 > 255
    ·rw [if_pos c12] at H
     have c12b0 : decide (255 < a1_1) = true := decide_eq_true c12
     clear c12
     obtain rfl := Option.some.inj H
     go_enter Try.func15, Try.ntmps15
     go_wp2_with (first | ((with_reducible refine gate_dst (N := 3) rfl ?_); (try (refine gate_guard (by rfl) ?_; dsimp only)); refine box_event ?hg (N := 3) ?hd (cs := #[.int .i64 a1_0, .int .i64 a1_1, .string a1_2]) (t := 23) ?hr ?_; (case hd => rfl); (case hg => rfl); (case hr => first | (go_simp; done) | (go_simp; rfl)); intro gb137 hg w13 hbox hb; have n0_ := Aside0.mk (below_step (by repeat (first | (with_reducible first | exact HB.out | apply below_alloc | apply pw_below_drewN | apply below_drew1) | exact HB.out)) hb); have n1_ := Aside0.mk (hbox); have n2_ := Aside0.mk ((by rw [hg]; exact (below_size (by repeat (first | (with_reducible first | exact HB.out | apply below_alloc | apply pw_below_drewN | apply below_drew1) | exact HB.out))) : w.heap.size ≤ gb137)); have n3_ := Aside0.mk ((by rw [hg]; exact (below_size (by repeat (first | (with_reducible first | exact HB.out | apply below_alloc | apply pw_below_drewN | apply below_drew1) | exact HB.out))) : w.heap.size ≤ gb137)); clear HB; have HB := n0_; have BK137 := n1_; have GW137 := n2_; have GE137 := n3_; clear n0_ n1_ n2_ n3_; clear hb hbox hg; have hcz14_0 : w13.cell? ⟨gb137, 0, none⟩ = some (.int .i64 a1_0) := (blk_cell BK137.out 0).trans rfl; have hcz14_1 : w13.cell? ⟨gb137, 1, none⟩ = some (.int .i64 a1_1) := (blk_cell BK137.out 1).trans rfl; have hcz14_2 : w13.cell? ⟨gb137, 2, none⟩ = some (.string a1_2) := (blk_cell BK137.out 2).trans rfl; have hfz14_0 := blk_frozen BK137.out 0; have hfz14_1 := blk_frozen BK137.out 1; have hfz14_2 := blk_frozen BK137.out 2))
     go_ret
     exact ⟨by first | rfl | (simp [errW_none, errW_some] <;> rfl) | (simp [*, errW_none, errW_some] <;> rfl), by repeat (first | (with_reducible first | exact HB.out | apply below_alloc | apply pw_below_drewN | apply below_drew1 | refine below_set ?_ GE137.out) | exact HB.out)⟩
    ·rw [if_neg c12] at H
     have c12b0 : decide (255 < a1_1) = false := decide_eq_false c12
     clear c12
     by_cases c15 : (a1_2.size : Int) > 4000
     ·rw [if_pos c15] at H
      have c15b0 : decide (4000 < (a1_2.size : Int)) = true := decide_eq_true c15
      have c15b1 : decide (4000 < a1_2.size) = true := decide_eq_true (by omega)
      clear c15
      obtain rfl := Option.some.inj H
      go_enter Try.func15, Try.ntmps15
      go_wp2_with (first | ((with_reducible refine gate_dst (N := 3) rfl ?_); (try (refine gate_guard (by rfl) ?_; dsimp only)); refine box_event ?hg (N := 3) ?hd (cs := #[.int .i64 a1_0, .int .i64 a1_1, .string a1_2]) (t := 23) ?hr ?_; (case hd => rfl); (case hg => rfl); (case hr => first | (go_simp; done) | (go_simp; rfl)); intro gb137 hg w16 hbox hb; have n0_ := Aside0.mk (below_step (by repeat (first | (with_reducible first | exact HB.out | apply below_alloc | apply pw_below_drewN | apply below_drew1) | exact HB.out)) hb); have n1_ := Aside0.mk (hbox); have n2_ := Aside0.mk ((by rw [hg]; exact (below_size (by repeat (first | (with_reducible first | exact HB.out | apply below_alloc | apply pw_below_drewN | apply below_drew1) | exact HB.out))) : w.heap.size ≤ gb137)); have n3_ := Aside0.mk ((by rw [hg]; exact (below_size (by repeat (first | (with_reducible first | exact HB.out | apply below_alloc | apply pw_below_drewN | apply below_drew1) | exact HB.out))) : w.heap.size ≤ gb137)); clear HB; have HB := n0_; have BK137 := n1_; have GW137 := n2_; have GE137 := n3_; clear n0_ n1_ n2_ n3_; clear hb hbox hg; have hcz17_0 : w16.cell? ⟨gb137, 0, none⟩ = some (.int .i64 a1_0) := (blk_cell BK137.out 0).trans rfl; have hcz17_1 : w16.cell? ⟨gb137, 1, none⟩ = some (.int .i64 a1_1) := (blk_cell BK137.out 1).trans rfl; have hcz17_2 : w16.cell? ⟨gb137, 2, none⟩ = some (.string a1_2) := (blk_cell BK137.out 2).trans rfl; have hfz17_0 := blk_frozen BK137.out 0; have hfz17_1 := blk_frozen BK137.out 1; have hfz17_2 := blk_frozen BK137.out 2))
      go_ret
      exact ⟨by first | rfl | (simp [errW_none, errW_some] <;> rfl) | (simp [*, errW_none, errW_some] <;> rfl), by repeat (first | (with_reducible first | exact HB.out | apply below_alloc | apply pw_below_drewN | apply below_drew1 | refine below_set ?_ GE137.out) | exact HB.out)⟩
     ·rw [if_neg c15] at H
      have c15b0 : decide (4000 < (a1_2.size : Int)) = false := decide_eq_false c15
      have c15b1 : decide (4000 < a1_2.size) = false := decide_eq_false (by omega)
      clear c15
      by_cases c18 : a0 = 2
      ·rw [if_pos c18] at H
       have c18b0 : (a0 == 2) = true := beq_iff_eq.mpr c18
       have c18b1 : (a0 != 2) = false := bne_eq_false_iff_eq.mpr c18
       clear c18
       obtain rfl := Option.some.inj H
       go_enter Try.func15, Try.ntmps15
       go_wp2_with (first | ((with_reducible refine gate_dst (N := 3) rfl ?_); (try (refine gate_guard (by rfl) ?_; dsimp only)); refine box_event ?hg (N := 3) ?hd (cs := #[.int .i64 a1_0, .int .i64 a1_1, .string a1_2]) (t := 23) ?hr ?_; (case hd => rfl); (case hg => rfl); (case hr => first | (go_simp; done) | (go_simp; rfl)); intro gb137 hg w19 hbox hb; have n0_ := Aside0.mk (below_step (by repeat (first | (with_reducible first | exact HB.out | apply below_alloc | apply pw_below_drewN | apply below_drew1) | exact HB.out)) hb); have n1_ := Aside0.mk (hbox); have n2_ := Aside0.mk ((by rw [hg]; exact (below_size (by repeat (first | (with_reducible first | exact HB.out | apply below_alloc | apply pw_below_drewN | apply below_drew1) | exact HB.out))) : w.heap.size ≤ gb137)); have n3_ := Aside0.mk ((by rw [hg]; exact (below_size (by repeat (first | (with_reducible first | exact HB.out | apply below_alloc | apply pw_below_drewN | apply below_drew1) | exact HB.out))) : w.heap.size ≤ gb137)); clear HB; have HB := n0_; have BK137 := n1_; have GW137 := n2_; have GE137 := n3_; clear n0_ n1_ n2_ n3_; clear hb hbox hg; have hcz20_0 : w19.cell? ⟨gb137, 0, none⟩ = some (.int .i64 a1_0) := (blk_cell BK137.out 0).trans rfl; have hcz20_1 : w19.cell? ⟨gb137, 1, none⟩ = some (.int .i64 a1_1) := (blk_cell BK137.out 1).trans rfl; have hcz20_2 : w19.cell? ⟨gb137, 2, none⟩ = some (.string a1_2) := (blk_cell BK137.out 2).trans rfl; have hfz20_0 := blk_frozen BK137.out 0; have hfz20_1 := blk_frozen BK137.out 1; have hfz20_2 := blk_frozen BK137.out 2))
       go_ret
       exact ⟨by first | rfl | (simp [errW_none, errW_some] <;> rfl) | (simp [*, errW_none, errW_some] <;> rfl), by repeat (first | (with_reducible first | exact HB.out | apply below_alloc | apply pw_below_drewN | apply below_drew1 | refine below_set ?_ GE137.out) | exact HB.out)⟩
      ·rw [if_neg c18] at H
       have c18b0 : (a0 == 2) = false := beq_eq_false_iff_ne.mpr c18
       have c18b1 : (a0 != 2) = true := bne_iff_ne.mpr c18
       by_cases c21 : a0 = 1
       ·rw [if_pos c21] at H
        have c21b0 : (a0 == 1) = true := beq_iff_eq.mpr c21
        have c21b1 : (a0 != 1) = false := bne_eq_false_iff_eq.mpr c21
        clear c21
        by_cases c22 : a1_0 ≤ 9
        ·rw [if_pos c22] at H
         have c22b0 : decide (a1_0 ≤ 9) = true := decide_eq_true c22
         clear c22
         obtain rfl := Option.some.inj H
         go_enter Try.func15, Try.ntmps15
         go_wp2_with (first | ((with_reducible refine gate_dst (N := 3) rfl ?_); (try (refine gate_guard (by rfl) ?_; dsimp only)); refine box_event ?hg (N := 3) ?hd (cs := #[.int .i64 a1_0, .int .i64 a1_1, .string a1_2]) (t := 23) ?hr ?_; (case hd => rfl); (case hg => rfl); (case hr => first | (go_simp; done) | (go_simp; rfl)); intro gb137 hg w23 hbox hb; have n0_ := Aside0.mk (below_step (by repeat (first | (with_reducible first | exact HB.out | apply below_alloc | apply pw_below_drewN | apply below_drew1) | exact HB.out)) hb); have n1_ := Aside0.mk (hbox); have n2_ := Aside0.mk ((by rw [hg]; exact (below_size (by repeat (first | (with_reducible first | exact HB.out | apply below_alloc | apply pw_below_drewN | apply below_drew1) | exact HB.out))) : w.heap.size ≤ gb137)); have n3_ := Aside0.mk ((by rw [hg]; exact (below_size (by repeat (first | (with_reducible first | exact HB.out | apply below_alloc | apply pw_below_drewN | apply below_drew1) | exact HB.out))) : w.heap.size ≤ gb137)); clear HB; have HB := n0_; have BK137 := n1_; have GW137 := n2_; have GE137 := n3_; clear n0_ n1_ n2_ n3_; clear hb hbox hg; have hcz24_0 : w23.cell? ⟨gb137, 0, none⟩ = some (.int .i64 a1_0) := (blk_cell BK137.out 0).trans rfl; have hcz24_1 : w23.cell? ⟨gb137, 1, none⟩ = some (.int .i64 a1_1) := (blk_cell BK137.out 1).trans rfl; have hcz24_2 : w23.cell? ⟨gb137, 2, none⟩ = some (.string a1_2) := (blk_cell BK137.out 2).trans rfl; have hfz24_0 := blk_frozen BK137.out 0; have hfz24_1 := blk_frozen BK137.out 1; have hfz24_2 := blk_frozen BK137.out 2))
         go_ret
         exact ⟨by first | rfl | (simp [errW_none, errW_some] <;> rfl) | (simp [*, errW_none, errW_some] <;> rfl), by repeat (first | (with_reducible first | exact HB.out | apply below_alloc | apply pw_below_drewN | apply below_drew1 | refine below_set ?_ GE137.out) | exact HB.out)⟩
        ·rw [if_neg c22] at H
         have c22b0 : decide (a1_0 ≤ 9) = false := decide_eq_false c22
         clear c22
         obtain rfl := Option.some.inj H
         go_enter Try.func15, Try.ntmps15
         go_wp2_with (first | ((with_reducible refine gate_dst (N := 3) rfl ?_); (try (refine gate_guard (by rfl) ?_; dsimp only)); refine box_event ?hg (N := 3) ?hd (cs := #[.int .i64 a1_0, .int .i64 a1_1, .string a1_2]) (t := 23) ?hr ?_; (case hd => rfl); (case hg => rfl); (case hr => first | (go_simp; done) | (go_simp; rfl)); intro gb137 hg w25 hbox hb; have n0_ := Aside0.mk (below_step (by repeat (first | (with_reducible first | exact HB.out | apply below_alloc | apply pw_below_drewN | apply below_drew1) | exact HB.out)) hb); have n1_ := Aside0.mk (hbox); have n2_ := Aside0.mk ((by rw [hg]; exact (below_size (by repeat (first | (with_reducible first | exact HB.out | apply below_alloc | apply pw_below_drewN | apply below_drew1) | exact HB.out))) : w.heap.size ≤ gb137)); have n3_ := Aside0.mk ((by rw [hg]; exact (below_size (by repeat (first | (with_reducible first | exact HB.out | apply below_alloc | apply pw_below_drewN | apply below_drew1) | exact HB.out))) : w.heap.size ≤ gb137)); clear HB; have HB := n0_; have BK137 := n1_; have GW137 := n2_; have GE137 := n3_; clear n0_ n1_ n2_ n3_; clear hb hbox hg; have hcz26_0 : w25.cell? ⟨gb137, 0, none⟩ = some (.int .i64 a1_0) := (blk_cell BK137.out 0).trans rfl; have hcz26_1 : w25.cell? ⟨gb137, 1, none⟩ = some (.int .i64 a1_1) := (blk_cell BK137.out 1).trans rfl; have hcz26_2 : w25.cell? ⟨gb137, 2, none⟩ = some (.string a1_2) := (blk_cell BK137.out 2).trans rfl; have hfz26_0 := blk_frozen BK137.out 0; have hfz26_1 := blk_frozen BK137.out 1; have hfz26_2 := blk_frozen BK137.out 2))
         go_ret
         exact ⟨by first | rfl | (simp [errW_none, errW_some] <;> rfl) | (simp [*, errW_none, errW_some] <;> rfl), by repeat (first | (with_reducible first | exact HB.out | apply below_alloc | apply pw_below_drewN | apply below_drew1 | refine below_set ?_ GE137.out) | exact HB.out)⟩
       ·rw [if_neg c21] at H
        have c21b0 : (a0 == 1) = false := beq_eq_false_iff_ne.mpr c21
        have c21b1 : (a0 != 1) = true := bne_iff_ne.mpr c21
        obtain rfl := Option.some.inj H
        go_enter Try.func15, Try.ntmps15
        go_wp2_with (first | ((with_reducible refine gate_dst (N := 3) rfl ?_); (try (refine gate_guard (by rfl) ?_; dsimp only)); refine box_event ?hg (N := 3) ?hd (cs := #[.int .i64 a1_0, .int .i64 a1_1, .string a1_2]) (t := 23) ?hr ?_; (case hd => rfl); (case hg => rfl); (case hr => first | (go_simp; done) | (go_simp; rfl)); intro gb137 hg w27 hbox hb; have n0_ := Aside0.mk (below_step (by repeat (first | (with_reducible first | exact HB.out | apply below_alloc | apply pw_below_drewN | apply below_drew1) | exact HB.out)) hb); have n1_ := Aside0.mk (hbox); have n2_ := Aside0.mk ((by rw [hg]; exact (below_size (by repeat (first | (with_reducible first | exact HB.out | apply below_alloc | apply pw_below_drewN | apply below_drew1) | exact HB.out))) : w.heap.size ≤ gb137)); have n3_ := Aside0.mk ((by rw [hg]; exact (below_size (by repeat (first | (with_reducible first | exact HB.out | apply below_alloc | apply pw_below_drewN | apply below_drew1) | exact HB.out))) : w.heap.size ≤ gb137)); clear HB; have HB := n0_; have BK137 := n1_; have GW137 := n2_; have GE137 := n3_; clear n0_ n1_ n2_ n3_; clear hb hbox hg; have hcz28_0 : w27.cell? ⟨gb137, 0, none⟩ = some (.int .i64 a1_0) := (blk_cell BK137.out 0).trans rfl; have hcz28_1 : w27.cell? ⟨gb137, 1, none⟩ = some (.int .i64 a1_1) := (blk_cell BK137.out 1).trans rfl; have hcz28_2 : w27.cell? ⟨gb137, 2, none⟩ = some (.string a1_2) := (blk_cell BK137.out 2).trans rfl; have hfz28_0 := blk_frozen BK137.out 0; have hfz28_1 := blk_frozen BK137.out 1; have hfz28_2 := blk_frozen BK137.out 2))
        go_ret
        exact ⟨by first | rfl | (simp [errW_none, errW_some] <;> rfl) | (simp [*, errW_none, errW_some] <;> rfl), by repeat (first | (with_reducible first | exact HB.out | apply below_alloc | apply pw_below_drewN | apply below_drew1 | refine below_set ?_ GE137.out) | exact HB.out)⟩

end Go.Proofs.Ytmicfaeloanffaa.PAll
