-- Written by a program of this session (wip/xpatch.py, wip/xprint.sh) for seat Ythfhoccghbdciaa.
import Derived.Test.YthfhoccghbdciaaPAllx0
import Derived.Test.YthfhoccghbdciaaPAllx2
import Derived.Test.YthfhoccghbdciaaPAllx3
namespace Go.Proofs.Ythfhoccghbdciaa.PAll
open Go.RowKit Go.Proofs.YthfhoccghbdciaaW.PrintWords Go.Proofs.YthfhoccghbdciaaW.PrintLast Go.Proofs.YthfhoccghbdciaaW.PrintMore
attribute [local go_sem] max2_int min2_int max_two min_two max_three min_three max_four min_four   -- for this text's walks alone
set_option linter.unusedVariables false
set_option linter.unusedSimpArgs false

attribute [local go_sem high] eqA30
/-! ### careenlaw09_NegoBoth: function 4 -/
def careenlaw09_NegoBoth.j0 : Nat → Bool → Int → Bool → Int → Int → Int → Int → Int → Int → Int → Int → Option (Bool)
  | 0, _, _, _, _, _, _, _, _, _, _, _ => none
  | k + 1, x3, x7, x45, x211000, x211001, x211002, x215000, x215001, x215002, x219000, x219001 => if x45 = true then (some false) else (if x7 = 0 then (if x3 = true then (if x211000 ≤ x219000 then (if x219000 ≤ x211001 then (if x215000 ≤ x219000 then (if x219000 ≤ x215001 then (if (Go.bits .and .i64 x219001 x211002) = x219001 then (if (Go.bits .and .i64 x219001 x215002) = x219001 then (if x219000 = 2 then (if x211001 = 2 then (some ((x219000 == 2) == (x215001 == 2))) else (some ((x219000 == 2) == false))) else (if x219001 ≤ 7 then (if x211001 = 2 then (some ((x219000 == 2) == (x215001 == 2))) else (some ((x219000 == 2) == false))) else (some false))) else (some false)) else (some false)) else (some false)) else (some false)) else (some false)) else (some false)) else (some false)) else (if x3 = true then (if x7 = 22 then (if x211001 < x215000 then (some true) else (some (decide (x215001 < x211000)))) else (some false)) else (some false)))
def careenlaw09_NegoBoth.f (k : Nat) (a0_0 : Int) (a0_1 : Int) (a0_2 : Int) (a0_3 : Int) (a0_4 : Int) (a0_5 : Int) : Option (Bool) := (careenlaw09_awake.f).bind fun t206 => ((careenlaw09_Hello.f a0_0 a0_1 a0_2).bind fun bt207 => ((careenlaw09_Hello.f a0_3 a0_4 a0_5).bind fun bt211 => ((nego_Agree.f bt207.1 bt207.2.1 bt207.2.2 bt211.1 bt211.2.1 bt211.2.2).bind fun bt215 => ((nego_Agree.f bt211.1 bt211.2.1 bt211.2.2 bt207.1 bt207.2.1 bt207.2.2).bind fun bt219 => (if (!(bt215.1 == bt219.1) || (!(bt215.2.1 == bt219.2.1))) = true then (careenlaw09_NegoBoth.j0 k t206 bt215.2.2 true bt207.1 bt207.2.1 bt207.2.2 bt211.1 bt211.2.1 bt211.2.2 bt215.1 bt215.2.1) else (careenlaw09_NegoBoth.j0 k t206 bt215.2.2 (bt215.2.2 != bt219.2.2) bt207.1 bt207.2.1 bt207.2.2 bt211.1 bt211.2.1 bt211.2.2 bt215.1 bt215.2.1))))))
theorem careenlaw09_NegoBoth.mono_l : ∀ k, (∀ y0 y1 y2 y3 y4 y5 y6 y7 y8 y9 y10, LeO (careenlaw09_NegoBoth.j0 k y0 y1 y2 y3 y4 y5 y6 y7 y8 y9 y10) (careenlaw09_NegoBoth.j0 (k + 1) y0 y1 y2 y3 y4 y5 y6 y7 y8 y9 y10))
  | 0 => (fun _ _ _ _ _ _ _ _ _ _ _ r h => by cases (show (none : Option _) = some r from h))
  | k + 1 => by
    have ih0 := careenlaw09_NegoBoth.mono_l k
    · intro y0 y1 y2 y3 y4 y5 y6 y7 y8 y9 y10
      unfold careenlaw09_NegoBoth.j0
      repeat' first
      | (with_reducible exact ih0 _ _ _ _ _ _ _ _ _ _ _)
      | (with_reducible exact LeO.refl _)
      | (with_reducible exact LeO.none _)
      | (with_reducible refine LeO.ite ?_ ?_)
      | (with_reducible refine LeO.bind ?_ (fun _ => ?_))
      | exact ih0 _ _ _ _ _ _ _ _ _ _ _
      | exact LeO.none _
      | refine LeO.ite ?_ ?_
      | refine LeO.bind ?_ (fun _ => ?_)
theorem careenlaw09_NegoBoth.mono : ∀ a0 a1 a2 a3 a4 a5 k, LeO (careenlaw09_NegoBoth.f k a0 a1 a2 a3 a4 a5) (careenlaw09_NegoBoth.f (k + 1) a0 a1 a2 a3 a4 a5) := by
  intro a0 a1 a2 a3 a4 a5 k
  have ih0 := careenlaw09_NegoBoth.mono_l k
  unfold careenlaw09_NegoBoth.f
  repeat' first
      | (with_reducible exact ih0 _ _ _ _ _ _ _ _ _ _ _)
      | (with_reducible exact LeO.refl _)
      | (with_reducible exact LeO.none _)
      | (with_reducible refine LeO.ite ?_ ?_)
      | (with_reducible refine LeO.bind ?_ (fun _ => ?_))
      | exact ih0 _ _ _ _ _ _ _ _ _ _ _
      | exact LeO.none _
      | refine LeO.ite ?_ ?_
      | refine LeO.bind ?_ (fun _ => ?_)
set_option maxHeartbeats 8000000 in
set_option maxRecDepth 100000 in
theorem careenlaw09_NegoBoth.calls (k : Nat) (a0_0 : Int) (a0_1 : Int) (a0_2 : Int) (a0_3 : Int) (a0_4 : Int) (a0_5 : Int) (w : World) (h : careenlaw09_NegoBoth.f k a0_0 a0_1 a0_2 a0_3 a0_4 a0_5 = some true) :
    Calls Try.prog 4 #[.agg #[.int .i64 a0_0, .int .i64 a0_1, .int .i64 a0_2, .int .i64 a0_3, .int .i64 a0_4, .int .i64 a0_5]] w fun e w' => e = .returned (.bool true) ∧ Below w.heap.size w w' := by
  have hu24 := Try.underlying24
  have hu23 := Try.underlying23
  have hu30 := Try.underlying30
  have HB := Aside0.mk (Below.refl w.heap.size w)
  have H : ((careenlaw09_awake.f).bind fun t206 => ((careenlaw09_Hello.f a0_0 a0_1 a0_2).bind fun bt207 => ((careenlaw09_Hello.f a0_3 a0_4 a0_5).bind fun bt211 => ((nego_Agree.f bt207.1 bt207.2.1 bt207.2.2 bt211.1 bt211.2.1 bt211.2.2).bind fun bt215 => ((nego_Agree.f bt211.1 bt211.2.1 bt211.2.2 bt207.1 bt207.2.1 bt207.2.2).bind fun bt219 => (if (!(bt215.1 == bt219.1) || (!(bt215.2.1 == bt219.2.1))) = true then (careenlaw09_NegoBoth.j0 k t206 bt215.2.2 true bt207.1 bt207.2.1 bt207.2.2 bt211.1 bt211.2.1 bt211.2.2 bt215.1 bt215.2.1) else (careenlaw09_NegoBoth.j0 k t206 bt215.2.2 (bt215.2.2 != bt219.2.2) bt207.1 bt207.2.1 bt207.2.2 bt211.1 bt211.2.1 bt211.2.2 bt215.1 bt215.2.1))))))) = some true := h
  clear h
  replace H := Option.bind_eq_some_iff.mp H
  obtain ⟨t206, A20, H⟩ := H
  replace H : ((careenlaw09_Hello.f a0_0 a0_1 a0_2).bind fun bt207 => ((careenlaw09_Hello.f a0_3 a0_4 a0_5).bind fun bt211 => ((nego_Agree.f bt207.1 bt207.2.1 bt207.2.2 bt211.1 bt211.2.1 bt211.2.2).bind fun bt215 => ((nego_Agree.f bt211.1 bt211.2.1 bt211.2.2 bt207.1 bt207.2.1 bt207.2.2).bind fun bt219 => (if (!(bt215.1 == bt219.1) || (!(bt215.2.1 == bt219.2.1))) = true then (careenlaw09_NegoBoth.j0 k t206 bt215.2.2 true bt207.1 bt207.2.1 bt207.2.2 bt211.1 bt211.2.1 bt211.2.2 bt215.1 bt215.2.1) else (careenlaw09_NegoBoth.j0 k t206 bt215.2.2 (bt215.2.2 != bt219.2.2) bt207.1 bt207.2.1 bt207.2.2 bt211.1 bt211.2.1 bt211.2.2 bt215.1 bt215.2.1)))))) = some true := H
  have A2 := Aside0.mk A20
  clear A20
  replace H := Option.bind_eq_some_iff.mp H
  obtain ⟨⟨t207, t208, t209⟩, A30, H⟩ := H
  replace H : ((careenlaw09_Hello.f a0_3 a0_4 a0_5).bind fun bt211 => ((nego_Agree.f t207 t208 t209 bt211.1 bt211.2.1 bt211.2.2).bind fun bt215 => ((nego_Agree.f bt211.1 bt211.2.1 bt211.2.2 t207 t208 t209).bind fun bt219 => (if (!(bt215.1 == bt219.1) || (!(bt215.2.1 == bt219.2.1))) = true then (careenlaw09_NegoBoth.j0 k t206 bt215.2.2 true t207 t208 t209 bt211.1 bt211.2.1 bt211.2.2 bt215.1 bt215.2.1) else (careenlaw09_NegoBoth.j0 k t206 bt215.2.2 (bt215.2.2 != bt219.2.2) t207 t208 t209 bt211.1 bt211.2.1 bt211.2.2 bt215.1 bt215.2.1))))) = some true := H
  have A3 := Aside0.mk A30
  clear A30
  replace H := Option.bind_eq_some_iff.mp H
  obtain ⟨⟨t211, t212, t213⟩, A40, H⟩ := H
  replace H : ((nego_Agree.f t207 t208 t209 t211 t212 t213).bind fun bt215 => ((nego_Agree.f t211 t212 t213 t207 t208 t209).bind fun bt219 => (if (!(bt215.1 == bt219.1) || (!(bt215.2.1 == bt219.2.1))) = true then (careenlaw09_NegoBoth.j0 k t206 bt215.2.2 true t207 t208 t209 t211 t212 t213 bt215.1 bt215.2.1) else (careenlaw09_NegoBoth.j0 k t206 bt215.2.2 (bt215.2.2 != bt219.2.2) t207 t208 t209 t211 t212 t213 bt215.1 bt215.2.1)))) = some true := H
  have A4 := Aside0.mk A40
  clear A40
  replace H := Option.bind_eq_some_iff.mp H
  obtain ⟨⟨t215, t216, t217⟩, A50, H⟩ := H
  replace H : ((nego_Agree.f t211 t212 t213 t207 t208 t209).bind fun bt219 => (if (!(t215 == bt219.1) || (!(t216 == bt219.2.1))) = true then (careenlaw09_NegoBoth.j0 k t206 t217 true t207 t208 t209 t211 t212 t213 t215 t216) else (careenlaw09_NegoBoth.j0 k t206 t217 (t217 != bt219.2.2) t207 t208 t209 t211 t212 t213 t215 t216))) = some true := H
  have A5 := Aside0.mk A50
  clear A50
  replace H := Option.bind_eq_some_iff.mp H
  obtain ⟨⟨t219, t220, t221⟩, A60, H⟩ := H
  replace H : (if (!(t215 == t219) || (!(t216 == t220))) = true then (careenlaw09_NegoBoth.j0 k t206 t217 true t207 t208 t209 t211 t212 t213 t215 t216) else (careenlaw09_NegoBoth.j0 k t206 t217 (t217 != t221) t207 t208 t209 t211 t212 t213 t215 t216)) = some true := H
  have A6 := Aside0.mk A60
  clear A60
  have HC7 := Aside0.mk H
  clear H
  go_enter Try.func4, Try.ntmps4
  go_upto_region 6 with (first | ((with_reducible refine gate_dst (N := 1) rfl ?_); refine box_event ?hg (N := 1) ?hd (cs := #[.int .i64 a0_0, .int .i64 a0_1, .int .i64 a0_2, .int .i64 a0_3, .int .i64 a0_4, .int .i64 a0_5]) (t := 24) ?hr ?_; (case hd => rfl); (case hg => rfl); (case hr => first | (go_simp; done) | (go_simp; rfl)); intro gb205 hg w8 hbox hb; have n0_ := Aside0.mk (below_step (by repeat (first | (with_reducible first | exact HB.out | apply below_alloc | apply pw_below_drewN | apply below_drew1) | exact HB.out)) hb); have n1_ := Aside0.mk (hbox); have n2_ := Aside0.mk ((by rw [hg]; exact (below_size (by repeat (first | (with_reducible first | exact HB.out | apply below_alloc | apply pw_below_drewN | apply below_drew1) | exact HB.out))) : w.heap.size ≤ gb205)); have n3_ := Aside0.mk ((by rw [hg]; exact (below_size (by repeat (first | (with_reducible first | exact HB.out | apply below_alloc | apply pw_below_drewN | apply below_drew1) | exact HB.out))) : w.heap.size ≤ gb205)); clear HB; have HB := n0_; have BK205 := n1_; have GW205 := n2_; have GE205 := n3_; clear n0_ n1_ n2_ n3_; clear hb hbox hg) | ((with_reducible refine gate_callee (f := 8) rfl ?_); refine goesL_ (some 11) rfl rfl Try.func8 (by kernel_rfl) rfl #[] rfl (by (try simp only [List.map_toArray, List.map_cons, List.map_nil]); first | done | rfl | (simp only [List.length_drop, List.length_take]; rfl)) ?_; (with_reducible refine (careenlaw09_awake.calls  t206 _ A2.out).mono ?_); rintro e w9 ⟨rfl, hb⟩; refine ⟨_, rfl, ?_⟩; have n0_ := Aside0.mk (blk_below (g := gb205) (o := .cells #[.int .i64 a0_0, .int .i64 a0_1, .int .i64 a0_2, .int .i64 a0_3, .int .i64 a0_4, .int .i64 a0_5] 24 (0, 0)) (by (with_reducible repeat (first | refine blk_drewN ?_ _ | refine blk_drew ?_ | refine blk_alloc ?_ _)); exact BK205.out) hb); have n1_ := Aside0.mk (below_step (by repeat (first | (with_reducible first | exact HB.out | apply below_alloc | apply pw_below_drewN | apply below_drew1 | refine below_set ?_ GE205.out) | exact HB.out)) hb); clear BK205; clear HB; have BK205 := n0_; have HB := n1_; clear n0_ n1_; (try clear hb); (try clear hb2); (try clear hk); (try clear hi); have hcz10_0 : w9.cell? ⟨gb205, 0, none⟩ = some (.int .i64 a0_0) := (blk_cell BK205.out 0).trans rfl; have hcz10_1 : w9.cell? ⟨gb205, 1, none⟩ = some (.int .i64 a0_1) := (blk_cell BK205.out 1).trans rfl; have hcz10_2 : w9.cell? ⟨gb205, 2, none⟩ = some (.int .i64 a0_2) := (blk_cell BK205.out 2).trans rfl; have hcz10_3 : w9.cell? ⟨gb205, 3, none⟩ = some (.int .i64 a0_3) := (blk_cell BK205.out 3).trans rfl; have hcz10_4 : w9.cell? ⟨gb205, 4, none⟩ = some (.int .i64 a0_4) := (blk_cell BK205.out 4).trans rfl; have hcz10_5 : w9.cell? ⟨gb205, 5, none⟩ = some (.int .i64 a0_5) := (blk_cell BK205.out 5).trans rfl; have hfz10_0 := blk_frozen BK205.out 0; have hfz10_1 := blk_frozen BK205.out 1; have hfz10_2 := blk_frozen BK205.out 2; have hfz10_3 := blk_frozen BK205.out 3; have hfz10_4 := blk_frozen BK205.out 4; have hfz10_5 := blk_frozen BK205.out 5) | ((with_reducible refine gate_callee (f := 9) rfl ?_); refine goesL_ (some 18) rfl rfl Try.func9 (by kernel_rfl) rfl #[.int .i64 a0_0, .int .i64 a0_1, .int .i64 a0_2] rfl (by (try simp only [List.map_toArray, List.map_cons, List.map_nil]); first | done | rfl | (simp only [List.length_drop, List.length_take]; rfl)) ?_; (with_reducible refine (careenlaw09_Hello.calls a0_0 a0_1 a0_2 t207 t208 t209 _ A3.out).mono ?_); rintro e w11 ⟨rfl, hb⟩; refine ⟨_, rfl, ?_⟩; have n0_ := Aside0.mk (blk_below (g := gb205) (o := .cells #[.int .i64 a0_0, .int .i64 a0_1, .int .i64 a0_2, .int .i64 a0_3, .int .i64 a0_4, .int .i64 a0_5] 24 (0, 0)) (by (with_reducible repeat (first | refine blk_drewN ?_ _ | refine blk_drew ?_ | refine blk_alloc ?_ _)); exact BK205.out) hb); have n1_ := Aside0.mk (below_step (by repeat (first | (with_reducible first | exact HB.out | apply below_alloc | apply pw_below_drewN | apply below_drew1 | refine below_set ?_ GE205.out) | exact HB.out)) hb); clear BK205; clear HB; have BK205 := n0_; have HB := n1_; clear n0_ n1_; (try clear hb); (try clear hb2); (try clear hk); (try clear hi)) | ((with_reducible refine gate_dst (N := 4) rfl ?_); refine box_event ?hg (N := 4) ?hd (cs := #[.int .i64 0, .int .i64 0, .int .i64 0]) (t := 23) ?hr ?_; (case hd => rfl); (case hg => rfl); (case hr => first | (go_simp; done) | (go_simp; rfl)); intro gb210 hg w12 hbox hb; have n0_ := Aside0.mk (blk_below (g := gb205) (o := .cells #[.int .i64 a0_0, .int .i64 a0_1, .int .i64 a0_2, .int .i64 a0_3, .int .i64 a0_4, .int .i64 a0_5] 24 (0, 0)) (by (with_reducible repeat (first | refine blk_drewN ?_ _ | refine blk_drew ?_ | refine blk_alloc ?_ _)); exact BK205.out) hb); have n1_ := Aside0.mk (below_step (by repeat (first | (with_reducible first | exact HB.out | apply below_alloc | apply pw_below_drewN | apply below_drew1 | refine below_set ?_ GE205.out) | exact HB.out)) hb); have n2_ := Aside0.mk (hbox); have n3_ := Aside0.mk ((by rw [hg]; exact (below_size (by repeat (first | (with_reducible first | exact HB.out | apply below_alloc | apply pw_below_drewN | apply below_drew1 | refine below_set ?_ GE205.out) | exact HB.out))) : w.heap.size ≤ gb210)); have n4_ := Aside0.mk ((by rw [hg]; exact (below_size (by repeat (first | (with_reducible first | exact HB.out | apply below_alloc | apply pw_below_drewN | apply below_drew1 | refine below_set ?_ GE205.out) | exact HB.out))) : w.heap.size ≤ gb210)); have n5_ := Aside0.mk ((by rw [hg]; exact Nat.ne_of_lt (blk_lt (g := gb205) (o := .cells #[.int .i64 a0_0, .int .i64 a0_1, .int .i64 a0_2, .int .i64 a0_3, .int .i64 a0_4, .int .i64 a0_5] 24 (0, 0)) (by (with_reducible repeat (first | refine blk_drewN ?_ _ | refine blk_drew ?_ | refine blk_alloc ?_ _)); exact BK205.out)) : gb205 ≠ gb210)); have n6_ := Aside0.mk ((by rw [hg]; exact Nat.ne_of_gt (blk_lt (g := gb205) (o := .cells #[.int .i64 a0_0, .int .i64 a0_1, .int .i64 a0_2, .int .i64 a0_3, .int .i64 a0_4, .int .i64 a0_5] 24 (0, 0)) (by (with_reducible repeat (first | refine blk_drewN ?_ _ | refine blk_drew ?_ | refine blk_alloc ?_ _)); exact BK205.out)) : gb210 ≠ gb205)); clear BK205; clear HB; have BK205 := n0_; have HB := n1_; have BK210 := n2_; have GW210 := n3_; have GE210 := n4_; have NB205_210 := n5_; have NB210_205 := n6_; clear n0_ n1_ n2_ n3_ n4_ n5_ n6_; clear hb hbox hg; have hnb13 := NB210_205.out; have hnc13 := NB205_210.out; have hcz14_0 : w12.cell? ⟨gb210, 0, none⟩ = some (.int .i64 0) := (blk_cell BK210.out 0).trans rfl; have hcz14_1 : w12.cell? ⟨gb210, 1, none⟩ = some (.int .i64 0) := (blk_cell BK210.out 1).trans rfl; have hcz14_2 : w12.cell? ⟨gb210, 2, none⟩ = some (.int .i64 0) := (blk_cell BK210.out 2).trans rfl; have hfz14_0 := blk_frozen BK210.out 0; have hfz14_1 := blk_frozen BK210.out 1; have hfz14_2 := blk_frozen BK210.out 2; have hcz15_0 : w12.cell? ⟨gb205, 0, none⟩ = some (.int .i64 a0_0) := (blk_cell BK205.out 0).trans rfl; have hcz15_1 : w12.cell? ⟨gb205, 1, none⟩ = some (.int .i64 a0_1) := (blk_cell BK205.out 1).trans rfl; have hcz15_2 : w12.cell? ⟨gb205, 2, none⟩ = some (.int .i64 a0_2) := (blk_cell BK205.out 2).trans rfl; have hcz15_3 : w12.cell? ⟨gb205, 3, none⟩ = some (.int .i64 a0_3) := (blk_cell BK205.out 3).trans rfl; have hcz15_4 : w12.cell? ⟨gb205, 4, none⟩ = some (.int .i64 a0_4) := (blk_cell BK205.out 4).trans rfl; have hcz15_5 : w12.cell? ⟨gb205, 5, none⟩ = some (.int .i64 a0_5) := (blk_cell BK205.out 5).trans rfl; have hfz15_0 := blk_frozen BK205.out 0; have hfz15_1 := blk_frozen BK205.out 1; have hfz15_2 := blk_frozen BK205.out 2; have hfz15_3 := blk_frozen BK205.out 3; have hfz15_4 := blk_frozen BK205.out 4; have hfz15_5 := blk_frozen BK205.out 5) | ((with_reducible refine gate_callee (f := 9) rfl ?_); refine goesL_ (some 25) rfl rfl Try.func9 (by kernel_rfl) rfl #[.int .i64 a0_3, .int .i64 a0_4, .int .i64 a0_5] rfl (by (try simp only [List.map_toArray, List.map_cons, List.map_nil]); first | done | rfl | (simp only [List.length_drop, List.length_take]; rfl)) ?_; (with_reducible refine (careenlaw09_Hello.calls a0_3 a0_4 a0_5 t211 t212 t213 _ A4.out).mono ?_); rintro e w16 ⟨rfl, hb⟩; refine ⟨_, rfl, ?_⟩; have n0_ := Aside0.mk (blk_below (g := gb205) (o := .cells #[.int .i64 a0_0, .int .i64 a0_1, .int .i64 a0_2, .int .i64 a0_3, .int .i64 a0_4, .int .i64 a0_5] 24 (0, 0)) (by (with_reducible repeat (first | refine blk_drewN ?_ _ | refine blk_drew ?_ | refine blk_alloc ?_ _)); refine blk_far ?_ NB205_210.out _; (with_reducible repeat (first | refine blk_drewN ?_ _ | refine blk_drew ?_ | refine blk_alloc ?_ _)); refine blk_far ?_ NB205_210.out _; (with_reducible repeat (first | refine blk_drewN ?_ _ | refine blk_drew ?_ | refine blk_alloc ?_ _)); refine blk_far ?_ NB205_210.out _; (with_reducible repeat (first | refine blk_drewN ?_ _ | refine blk_drew ?_ | refine blk_alloc ?_ _)); exact BK205.out) hb); have n1_ := Aside0.mk (blk_below (g := gb210) (o := .cells #[.int .i64 t207, .int .i64 t208, .int .i64 t209] 23 (0, 0)) (by (with_reducible repeat (first | refine blk_drewN ?_ _ | refine blk_drew ?_ | refine blk_alloc ?_ _)); refine blk_put (cs := #[.int .i64 t207, .int .i64 t208, .int .i64 0]) ?_ 2 _ rfl; (with_reducible repeat (first | refine blk_drewN ?_ _ | refine blk_drew ?_ | refine blk_alloc ?_ _)); refine blk_put (cs := #[.int .i64 t207, .int .i64 0, .int .i64 0]) ?_ 1 _ rfl; (with_reducible repeat (first | refine blk_drewN ?_ _ | refine blk_drew ?_ | refine blk_alloc ?_ _)); refine blk_put (cs := #[.int .i64 0, .int .i64 0, .int .i64 0]) ?_ 0 _ rfl; (with_reducible repeat (first | refine blk_drewN ?_ _ | refine blk_drew ?_ | refine blk_alloc ?_ _)); exact BK210.out) hb); have n2_ := Aside0.mk (below_step (by repeat (first | (with_reducible first | exact HB.out | apply below_alloc | apply pw_below_drewN | apply below_drew1 | refine below_set ?_ GE205.out | refine below_set ?_ GE210.out) | exact HB.out)) hb); clear BK205; clear BK210; clear HB; have BK205 := n0_; have BK210 := n1_; have HB := n2_; clear n0_ n1_ n2_; (try clear hb); (try clear hb2); (try clear hk); (try clear hi)) | ((with_reducible refine gate_dst (N := 5) rfl ?_); refine box_event ?hg (N := 5) ?hd (cs := #[.int .i64 0, .int .i64 0, .int .i64 0]) (t := 23) ?hr ?_; (case hd => rfl); (case hg => rfl); (case hr => first | (go_simp; done) | (go_simp; rfl)); intro gb214 hg w17 hbox hb; have n0_ := Aside0.mk (blk_below (g := gb205) (o := .cells #[.int .i64 a0_0, .int .i64 a0_1, .int .i64 a0_2, .int .i64 a0_3, .int .i64 a0_4, .int .i64 a0_5] 24 (0, 0)) (by (with_reducible repeat (first | refine blk_drewN ?_ _ | refine blk_drew ?_ | refine blk_alloc ?_ _)); exact BK205.out) hb); have n1_ := Aside0.mk (blk_below (g := gb210) (o := .cells #[.int .i64 t207, .int .i64 t208, .int .i64 t209] 23 (0, 0)) (by (with_reducible repeat (first | refine blk_drewN ?_ _ | refine blk_drew ?_ | refine blk_alloc ?_ _)); exact BK210.out) hb); have n2_ := Aside0.mk (below_step (by repeat (first | (with_reducible first | exact HB.out | apply below_alloc | apply pw_below_drewN | apply below_drew1 | refine below_set ?_ GE205.out | refine below_set ?_ GE210.out) | exact HB.out)) hb); have n3_ := Aside0.mk (hbox); have n4_ := Aside0.mk ((by rw [hg]; exact (below_size (by repeat (first | (with_reducible first | exact HB.out | apply below_alloc | apply pw_below_drewN | apply below_drew1 | refine below_set ?_ GE205.out | refine below_set ?_ GE210.out) | exact HB.out))) : w.heap.size ≤ gb214)); have n5_ := Aside0.mk ((by rw [hg]; exact (below_size (by repeat (first | (with_reducible first | exact HB.out | apply below_alloc | apply pw_below_drewN | apply below_drew1 | refine below_set ?_ GE205.out | refine below_set ?_ GE210.out) | exact HB.out))) : w.heap.size ≤ gb214)); have n6_ := Aside0.mk ((by rw [hg]; exact Nat.ne_of_lt (blk_lt (g := gb205) (o := .cells #[.int .i64 a0_0, .int .i64 a0_1, .int .i64 a0_2, .int .i64 a0_3, .int .i64 a0_4, .int .i64 a0_5] 24 (0, 0)) (by (with_reducible repeat (first | refine blk_drewN ?_ _ | refine blk_drew ?_ | refine blk_alloc ?_ _)); exact BK205.out)) : gb205 ≠ gb214)); have n7_ := Aside0.mk ((by rw [hg]; exact Nat.ne_of_gt (blk_lt (g := gb205) (o := .cells #[.int .i64 a0_0, .int .i64 a0_1, .int .i64 a0_2, .int .i64 a0_3, .int .i64 a0_4, .int .i64 a0_5] 24 (0, 0)) (by (with_reducible repeat (first | refine blk_drewN ?_ _ | refine blk_drew ?_ | refine blk_alloc ?_ _)); exact BK205.out)) : gb214 ≠ gb205)); have n8_ := Aside0.mk ((by rw [hg]; exact Nat.ne_of_lt (blk_lt (g := gb210) (o := .cells #[.int .i64 t207, .int .i64 t208, .int .i64 t209] 23 (0, 0)) (by (with_reducible repeat (first | refine blk_drewN ?_ _ | refine blk_drew ?_ | refine blk_alloc ?_ _)); exact BK210.out)) : gb210 ≠ gb214)); have n9_ := Aside0.mk ((by rw [hg]; exact Nat.ne_of_gt (blk_lt (g := gb210) (o := .cells #[.int .i64 t207, .int .i64 t208, .int .i64 t209] 23 (0, 0)) (by (with_reducible repeat (first | refine blk_drewN ?_ _ | refine blk_drew ?_ | refine blk_alloc ?_ _)); exact BK210.out)) : gb214 ≠ gb210)); clear BK205; clear BK210; clear HB; have BK205 := n0_; have BK210 := n1_; have HB := n2_; have BK214 := n3_; have GW214 := n4_; have GE214 := n5_; have NB205_214 := n6_; have NB214_205 := n7_; have NB210_214 := n8_; have NB214_210 := n9_; clear n0_ n1_ n2_ n3_ n4_ n5_ n6_ n7_ n8_ n9_; clear hb hbox hg; have hnb18 := NB214_205.out; have hnc18 := NB205_214.out; have hnb19 := NB214_210.out; have hnc19 := NB210_214.out; have hcz20_0 : w17.cell? ⟨gb214, 0, none⟩ = some (.int .i64 0) := (blk_cell BK214.out 0).trans rfl; have hcz20_1 : w17.cell? ⟨gb214, 1, none⟩ = some (.int .i64 0) := (blk_cell BK214.out 1).trans rfl; have hcz20_2 : w17.cell? ⟨gb214, 2, none⟩ = some (.int .i64 0) := (blk_cell BK214.out 2).trans rfl; have hfz20_0 := blk_frozen BK214.out 0; have hfz20_1 := blk_frozen BK214.out 1; have hfz20_2 := blk_frozen BK214.out 2; have hcz21_0 : w17.cell? ⟨gb210, 0, none⟩ = some (.int .i64 t207) := (blk_cell BK210.out 0).trans rfl; have hcz21_1 : w17.cell? ⟨gb210, 1, none⟩ = some (.int .i64 t208) := (blk_cell BK210.out 1).trans rfl; have hcz21_2 : w17.cell? ⟨gb210, 2, none⟩ = some (.int .i64 t209) := (blk_cell BK210.out 2).trans rfl; have hfz21_0 := blk_frozen BK210.out 0; have hfz21_1 := blk_frozen BK210.out 1; have hfz21_2 := blk_frozen BK210.out 2) | ((with_reducible refine gate_callee (f := 10) rfl ?_); refine goesL_ (some 29) rfl rfl Try.func10 (by kernel_rfl) rfl #[.agg #[.int .i64 t207, .int .i64 t208, .int .i64 t209], .agg #[.int .i64 t211, .int .i64 t212, .int .i64 t213]] rfl (by (try simp only [List.map_toArray, List.map_cons, List.map_nil]); first | done | rfl | (simp only [List.length_drop, List.length_take]; rfl)) ?_; (with_reducible refine (nego_Agree.calls t207 t208 t209 t211 t212 t213 t215 t216 t217 _ A5.out).mono ?_); rintro e w22 ⟨rfl, hb⟩; refine ⟨_, rfl, ?_⟩; have n0_ := Aside0.mk (blk_below (g := gb205) (o := .cells #[.int .i64 a0_0, .int .i64 a0_1, .int .i64 a0_2, .int .i64 a0_3, .int .i64 a0_4, .int .i64 a0_5] 24 (0, 0)) (by (with_reducible repeat (first | refine blk_drewN ?_ _ | refine blk_drew ?_ | refine blk_alloc ?_ _)); refine blk_far ?_ NB205_214.out _; (with_reducible repeat (first | refine blk_drewN ?_ _ | refine blk_drew ?_ | refine blk_alloc ?_ _)); refine blk_far ?_ NB205_214.out _; (with_reducible repeat (first | refine blk_drewN ?_ _ | refine blk_drew ?_ | refine blk_alloc ?_ _)); refine blk_far ?_ NB205_214.out _; (with_reducible repeat (first | refine blk_drewN ?_ _ | refine blk_drew ?_ | refine blk_alloc ?_ _)); exact BK205.out) hb); have n1_ := Aside0.mk (blk_below (g := gb210) (o := .cells #[.int .i64 t207, .int .i64 t208, .int .i64 t209] 23 (0, 0)) (by (with_reducible repeat (first | refine blk_drewN ?_ _ | refine blk_drew ?_ | refine blk_alloc ?_ _)); refine blk_far ?_ NB210_214.out _; (with_reducible repeat (first | refine blk_drewN ?_ _ | refine blk_drew ?_ | refine blk_alloc ?_ _)); refine blk_far ?_ NB210_214.out _; (with_reducible repeat (first | refine blk_drewN ?_ _ | refine blk_drew ?_ | refine blk_alloc ?_ _)); refine blk_far ?_ NB210_214.out _; (with_reducible repeat (first | refine blk_drewN ?_ _ | refine blk_drew ?_ | refine blk_alloc ?_ _)); exact BK210.out) hb); have n2_ := Aside0.mk (blk_below (g := gb214) (o := .cells #[.int .i64 t211, .int .i64 t212, .int .i64 t213] 23 (0, 0)) (by (with_reducible repeat (first | refine blk_drewN ?_ _ | refine blk_drew ?_ | refine blk_alloc ?_ _)); refine blk_put (cs := #[.int .i64 t211, .int .i64 t212, .int .i64 0]) ?_ 2 _ rfl; (with_reducible repeat (first | refine blk_drewN ?_ _ | refine blk_drew ?_ | refine blk_alloc ?_ _)); refine blk_put (cs := #[.int .i64 t211, .int .i64 0, .int .i64 0]) ?_ 1 _ rfl; (with_reducible repeat (first | refine blk_drewN ?_ _ | refine blk_drew ?_ | refine blk_alloc ?_ _)); refine blk_put (cs := #[.int .i64 0, .int .i64 0, .int .i64 0]) ?_ 0 _ rfl; (with_reducible repeat (first | refine blk_drewN ?_ _ | refine blk_drew ?_ | refine blk_alloc ?_ _)); exact BK214.out) hb); have n3_ := Aside0.mk (below_step (by repeat (first | (with_reducible first | exact HB.out | apply below_alloc | apply pw_below_drewN | apply below_drew1 | refine below_set ?_ GE205.out | refine below_set ?_ GE210.out | refine below_set ?_ GE214.out) | exact HB.out)) hb); clear BK205; clear BK210; clear BK214; clear HB; have BK205 := n0_; have BK210 := n1_; have BK214 := n2_; have HB := n3_; clear n0_ n1_ n2_ n3_; (try clear hb); (try clear hb2); (try clear hk); (try clear hi)) | ((with_reducible refine gate_dst (N := 6) rfl ?_); refine box_event ?hg (N := 6) ?hd (cs := #[.int .i64 0, .int .i64 0]) (t := 30) ?hr ?_; (case hd => rfl); (case hg => rfl); (case hr => first | (go_simp; done) | (go_simp; rfl)); intro gb218 hg w23 hbox hb; have n0_ := Aside0.mk (blk_below (g := gb205) (o := .cells #[.int .i64 a0_0, .int .i64 a0_1, .int .i64 a0_2, .int .i64 a0_3, .int .i64 a0_4, .int .i64 a0_5] 24 (0, 0)) (by (with_reducible repeat (first | refine blk_drewN ?_ _ | refine blk_drew ?_ | refine blk_alloc ?_ _)); exact BK205.out) hb); have n1_ := Aside0.mk (blk_below (g := gb210) (o := .cells #[.int .i64 t207, .int .i64 t208, .int .i64 t209] 23 (0, 0)) (by (with_reducible repeat (first | refine blk_drewN ?_ _ | refine blk_drew ?_ | refine blk_alloc ?_ _)); exact BK210.out) hb); have n2_ := Aside0.mk (blk_below (g := gb214) (o := .cells #[.int .i64 t211, .int .i64 t212, .int .i64 t213] 23 (0, 0)) (by (with_reducible repeat (first | refine blk_drewN ?_ _ | refine blk_drew ?_ | refine blk_alloc ?_ _)); exact BK214.out) hb); have n3_ := Aside0.mk (below_step (by repeat (first | (with_reducible first | exact HB.out | apply below_alloc | apply pw_below_drewN | apply below_drew1 | refine below_set ?_ GE205.out | refine below_set ?_ GE210.out | refine below_set ?_ GE214.out) | exact HB.out)) hb); have n4_ := Aside0.mk (hbox); have n5_ := Aside0.mk ((by rw [hg]; exact (below_size (by repeat (first | (with_reducible first | exact HB.out | apply below_alloc | apply pw_below_drewN | apply below_drew1 | refine below_set ?_ GE205.out | refine below_set ?_ GE210.out | refine below_set ?_ GE214.out) | exact HB.out))) : w.heap.size ≤ gb218)); have n6_ := Aside0.mk ((by rw [hg]; exact (below_size (by repeat (first | (with_reducible first | exact HB.out | apply below_alloc | apply pw_below_drewN | apply below_drew1 | refine below_set ?_ GE205.out | refine below_set ?_ GE210.out | refine below_set ?_ GE214.out) | exact HB.out))) : w.heap.size ≤ gb218)); have n7_ := Aside0.mk ((by rw [hg]; exact Nat.ne_of_lt (blk_lt (g := gb205) (o := .cells #[.int .i64 a0_0, .int .i64 a0_1, .int .i64 a0_2, .int .i64 a0_3, .int .i64 a0_4, .int .i64 a0_5] 24 (0, 0)) (by (with_reducible repeat (first | refine blk_drewN ?_ _ | refine blk_drew ?_ | refine blk_alloc ?_ _)); exact BK205.out)) : gb205 ≠ gb218)); have n8_ := Aside0.mk ((by rw [hg]; exact Nat.ne_of_gt (blk_lt (g := gb205) (o := .cells #[.int .i64 a0_0, .int .i64 a0_1, .int .i64 a0_2, .int .i64 a0_3, .int .i64 a0_4, .int .i64 a0_5] 24 (0, 0)) (by (with_reducible repeat (first | refine blk_drewN ?_ _ | refine blk_drew ?_ | refine blk_alloc ?_ _)); exact BK205.out)) : gb218 ≠ gb205)); have n9_ := Aside0.mk ((by rw [hg]; exact Nat.ne_of_lt (blk_lt (g := gb210) (o := .cells #[.int .i64 t207, .int .i64 t208, .int .i64 t209] 23 (0, 0)) (by (with_reducible repeat (first | refine blk_drewN ?_ _ | refine blk_drew ?_ | refine blk_alloc ?_ _)); exact BK210.out)) : gb210 ≠ gb218)); have n10_ := Aside0.mk ((by rw [hg]; exact Nat.ne_of_gt (blk_lt (g := gb210) (o := .cells #[.int .i64 t207, .int .i64 t208, .int .i64 t209] 23 (0, 0)) (by (with_reducible repeat (first | refine blk_drewN ?_ _ | refine blk_drew ?_ | refine blk_alloc ?_ _)); exact BK210.out)) : gb218 ≠ gb210)); have n11_ := Aside0.mk ((by rw [hg]; exact Nat.ne_of_lt (blk_lt (g := gb214) (o := .cells #[.int .i64 t211, .int .i64 t212, .int .i64 t213] 23 (0, 0)) (by (with_reducible repeat (first | refine blk_drewN ?_ _ | refine blk_drew ?_ | refine blk_alloc ?_ _)); exact BK214.out)) : gb214 ≠ gb218)); have n12_ := Aside0.mk ((by rw [hg]; exact Nat.ne_of_gt (blk_lt (g := gb214) (o := .cells #[.int .i64 t211, .int .i64 t212, .int .i64 t213] 23 (0, 0)) (by (with_reducible repeat (first | refine blk_drewN ?_ _ | refine blk_drew ?_ | refine blk_alloc ?_ _)); exact BK214.out)) : gb218 ≠ gb214)); clear BK205; clear BK210; clear BK214; clear HB; have BK205 := n0_; have BK210 := n1_; have BK214 := n2_; have HB := n3_; have BK218 := n4_; have GW218 := n5_; have GE218 := n6_; have NB205_218 := n7_; have NB218_205 := n8_; have NB210_218 := n9_; have NB218_210 := n10_; have NB214_218 := n11_; have NB218_214 := n12_; clear n0_ n1_ n2_ n3_ n4_ n5_ n6_ n7_ n8_ n9_ n10_ n11_ n12_; clear hb hbox hg; have hnb24 := NB218_205.out; have hnc24 := NB205_218.out; have hnb25 := NB218_210.out; have hnc25 := NB210_218.out; have hnb26 := NB218_214.out; have hnc26 := NB214_218.out; have hcz27_0 : w23.cell? ⟨gb218, 0, none⟩ = some (.int .i64 0) := (blk_cell BK218.out 0).trans rfl; have hcz27_1 : w23.cell? ⟨gb218, 1, none⟩ = some (.int .i64 0) := (blk_cell BK218.out 1).trans rfl; have hfz27_0 := blk_frozen BK218.out 0; have hfz27_1 := blk_frozen BK218.out 1; have hcz28_0 : w23.cell? ⟨gb214, 0, none⟩ = some (.int .i64 t211) := (blk_cell BK214.out 0).trans rfl; have hcz28_1 : w23.cell? ⟨gb214, 1, none⟩ = some (.int .i64 t212) := (blk_cell BK214.out 1).trans rfl; have hcz28_2 : w23.cell? ⟨gb214, 2, none⟩ = some (.int .i64 t213) := (blk_cell BK214.out 2).trans rfl; have hfz28_0 := blk_frozen BK214.out 0; have hfz28_1 := blk_frozen BK214.out 1; have hfz28_2 := blk_frozen BK214.out 2; have hcz29_0 : w23.cell? ⟨gb210, 0, none⟩ = some (.int .i64 t207) := (blk_cell BK210.out 0).trans rfl; have hcz29_1 : w23.cell? ⟨gb210, 1, none⟩ = some (.int .i64 t208) := (blk_cell BK210.out 1).trans rfl; have hcz29_2 : w23.cell? ⟨gb210, 2, none⟩ = some (.int .i64 t209) := (blk_cell BK210.out 2).trans rfl; have hfz29_0 := blk_frozen BK210.out 0; have hfz29_1 := blk_frozen BK210.out 1; have hfz29_2 := blk_frozen BK210.out 2) | ((with_reducible refine gate_callee (f := 10) rfl ?_); refine goesL_ (some 35) rfl rfl Try.func10 (by kernel_rfl) rfl #[.agg #[.int .i64 t211, .int .i64 t212, .int .i64 t213], .agg #[.int .i64 t207, .int .i64 t208, .int .i64 t209]] rfl (by (try simp only [List.map_toArray, List.map_cons, List.map_nil]); first | done | rfl | (simp only [List.length_drop, List.length_take]; rfl)) ?_; (with_reducible refine (nego_Agree.calls t211 t212 t213 t207 t208 t209 t219 t220 t221 _ A6.out).mono ?_); rintro e w30 ⟨rfl, hb⟩; refine ⟨_, rfl, ?_⟩; have n0_ := Aside0.mk (blk_below (g := gb205) (o := .cells #[.int .i64 a0_0, .int .i64 a0_1, .int .i64 a0_2, .int .i64 a0_3, .int .i64 a0_4, .int .i64 a0_5] 24 (0, 0)) (by (with_reducible repeat (first | refine blk_drewN ?_ _ | refine blk_drew ?_ | refine blk_alloc ?_ _)); refine blk_far ?_ NB205_218.out _; (with_reducible repeat (first | refine blk_drewN ?_ _ | refine blk_drew ?_ | refine blk_alloc ?_ _)); refine blk_far ?_ NB205_218.out _; (with_reducible repeat (first | refine blk_drewN ?_ _ | refine blk_drew ?_ | refine blk_alloc ?_ _)); exact BK205.out) hb); have n1_ := Aside0.mk (blk_below (g := gb210) (o := .cells #[.int .i64 t207, .int .i64 t208, .int .i64 t209] 23 (0, 0)) (by (with_reducible repeat (first | refine blk_drewN ?_ _ | refine blk_drew ?_ | refine blk_alloc ?_ _)); refine blk_far ?_ NB210_218.out _; (with_reducible repeat (first | refine blk_drewN ?_ _ | refine blk_drew ?_ | refine blk_alloc ?_ _)); refine blk_far ?_ NB210_218.out _; (with_reducible repeat (first | refine blk_drewN ?_ _ | refine blk_drew ?_ | refine blk_alloc ?_ _)); exact BK210.out) hb); have n2_ := Aside0.mk (blk_below (g := gb214) (o := .cells #[.int .i64 t211, .int .i64 t212, .int .i64 t213] 23 (0, 0)) (by (with_reducible repeat (first | refine blk_drewN ?_ _ | refine blk_drew ?_ | refine blk_alloc ?_ _)); refine blk_far ?_ NB214_218.out _; (with_reducible repeat (first | refine blk_drewN ?_ _ | refine blk_drew ?_ | refine blk_alloc ?_ _)); refine blk_far ?_ NB214_218.out _; (with_reducible repeat (first | refine blk_drewN ?_ _ | refine blk_drew ?_ | refine blk_alloc ?_ _)); exact BK214.out) hb); have n3_ := Aside0.mk (blk_below (g := gb218) (o := .cells #[.int .i64 t215, .int .i64 t216] 30 (0, 0)) (by (with_reducible repeat (first | refine blk_drewN ?_ _ | refine blk_drew ?_ | refine blk_alloc ?_ _)); refine blk_put (cs := #[.int .i64 t215, .int .i64 0]) ?_ 1 _ rfl; (with_reducible repeat (first | refine blk_drewN ?_ _ | refine blk_drew ?_ | refine blk_alloc ?_ _)); refine blk_put (cs := #[.int .i64 0, .int .i64 0]) ?_ 0 _ rfl; (with_reducible repeat (first | refine blk_drewN ?_ _ | refine blk_drew ?_ | refine blk_alloc ?_ _)); exact BK218.out) hb); have n4_ := Aside0.mk (below_step (by repeat (first | (with_reducible first | exact HB.out | apply below_alloc | apply pw_below_drewN | apply below_drew1 | refine below_set ?_ GE205.out | refine below_set ?_ GE210.out | refine below_set ?_ GE214.out | refine below_set ?_ GE218.out) | exact HB.out)) hb); clear BK205; clear BK210; clear BK214; clear BK218; clear HB; have BK205 := n0_; have BK210 := n1_; have BK214 := n2_; have BK218 := n3_; have HB := n4_; clear n0_ n1_ n2_ n3_ n4_; (try clear hb); (try clear hb2); (try clear hk); (try clear hi)) | ((with_reducible refine gate_dst (N := 8) rfl ?_); refine box_event ?hg (N := 8) ?hd (cs := #[.int .i64 0, .int .i64 0]) (t := 30) ?hr ?_; (case hd => rfl); (case hg => rfl); (case hr => first | (go_simp; done) | (go_simp; rfl)); intro gb222 hg w31 hbox hb; have n0_ := Aside0.mk (blk_below (g := gb205) (o := .cells #[.int .i64 a0_0, .int .i64 a0_1, .int .i64 a0_2, .int .i64 a0_3, .int .i64 a0_4, .int .i64 a0_5] 24 (0, 0)) (by (with_reducible repeat (first | refine blk_drewN ?_ _ | refine blk_drew ?_ | refine blk_alloc ?_ _)); exact BK205.out) hb); have n1_ := Aside0.mk (blk_below (g := gb210) (o := .cells #[.int .i64 t207, .int .i64 t208, .int .i64 t209] 23 (0, 0)) (by (with_reducible repeat (first | refine blk_drewN ?_ _ | refine blk_drew ?_ | refine blk_alloc ?_ _)); exact BK210.out) hb); have n2_ := Aside0.mk (blk_below (g := gb214) (o := .cells #[.int .i64 t211, .int .i64 t212, .int .i64 t213] 23 (0, 0)) (by (with_reducible repeat (first | refine blk_drewN ?_ _ | refine blk_drew ?_ | refine blk_alloc ?_ _)); exact BK214.out) hb); have n3_ := Aside0.mk (blk_below (g := gb218) (o := .cells #[.int .i64 t215, .int .i64 t216] 30 (0, 0)) (by (with_reducible repeat (first | refine blk_drewN ?_ _ | refine blk_drew ?_ | refine blk_alloc ?_ _)); exact BK218.out) hb); have n4_ := Aside0.mk (below_step (by repeat (first | (with_reducible first | exact HB.out | apply below_alloc | apply pw_below_drewN | apply below_drew1 | refine below_set ?_ GE205.out | refine below_set ?_ GE210.out | refine below_set ?_ GE214.out | refine below_set ?_ GE218.out) | exact HB.out)) hb); have n5_ := Aside0.mk (hbox); have n6_ := Aside0.mk ((by rw [hg]; exact (below_size (by repeat (first | (with_reducible first | exact HB.out | apply below_alloc | apply pw_below_drewN | apply below_drew1 | refine below_set ?_ GE205.out | refine below_set ?_ GE210.out | refine below_set ?_ GE214.out | refine below_set ?_ GE218.out) | exact HB.out))) : w.heap.size ≤ gb222)); have n7_ := Aside0.mk ((by rw [hg]; exact (below_size (by repeat (first | (with_reducible first | exact HB.out | apply below_alloc | apply pw_below_drewN | apply below_drew1 | refine below_set ?_ GE205.out | refine below_set ?_ GE210.out | refine below_set ?_ GE214.out | refine below_set ?_ GE218.out) | exact HB.out))) : w.heap.size ≤ gb222)); have n8_ := Aside0.mk ((by rw [hg]; exact Nat.ne_of_lt (blk_lt (g := gb205) (o := .cells #[.int .i64 a0_0, .int .i64 a0_1, .int .i64 a0_2, .int .i64 a0_3, .int .i64 a0_4, .int .i64 a0_5] 24 (0, 0)) (by (with_reducible repeat (first | refine blk_drewN ?_ _ | refine blk_drew ?_ | refine blk_alloc ?_ _)); exact BK205.out)) : gb205 ≠ gb222)); have n9_ := Aside0.mk ((by rw [hg]; exact Nat.ne_of_gt (blk_lt (g := gb205) (o := .cells #[.int .i64 a0_0, .int .i64 a0_1, .int .i64 a0_2, .int .i64 a0_3, .int .i64 a0_4, .int .i64 a0_5] 24 (0, 0)) (by (with_reducible repeat (first | refine blk_drewN ?_ _ | refine blk_drew ?_ | refine blk_alloc ?_ _)); exact BK205.out)) : gb222 ≠ gb205)); have n10_ := Aside0.mk ((by rw [hg]; exact Nat.ne_of_lt (blk_lt (g := gb210) (o := .cells #[.int .i64 t207, .int .i64 t208, .int .i64 t209] 23 (0, 0)) (by (with_reducible repeat (first | refine blk_drewN ?_ _ | refine blk_drew ?_ | refine blk_alloc ?_ _)); exact BK210.out)) : gb210 ≠ gb222)); have n11_ := Aside0.mk ((by rw [hg]; exact Nat.ne_of_gt (blk_lt (g := gb210) (o := .cells #[.int .i64 t207, .int .i64 t208, .int .i64 t209] 23 (0, 0)) (by (with_reducible repeat (first | refine blk_drewN ?_ _ | refine blk_drew ?_ | refine blk_alloc ?_ _)); exact BK210.out)) : gb222 ≠ gb210)); have n12_ := Aside0.mk ((by rw [hg]; exact Nat.ne_of_lt (blk_lt (g := gb214) (o := .cells #[.int .i64 t211, .int .i64 t212, .int .i64 t213] 23 (0, 0)) (by (with_reducible repeat (first | refine blk_drewN ?_ _ | refine blk_drew ?_ | refine blk_alloc ?_ _)); exact BK214.out)) : gb214 ≠ gb222)); have n13_ := Aside0.mk ((by rw [hg]; exact Nat.ne_of_gt (blk_lt (g := gb214) (o := .cells #[.int .i64 t211, .int .i64 t212, .int .i64 t213] 23 (0, 0)) (by (with_reducible repeat (first | refine blk_drewN ?_ _ | refine blk_drew ?_ | refine blk_alloc ?_ _)); exact BK214.out)) : gb222 ≠ gb214)); have n14_ := Aside0.mk ((by rw [hg]; exact Nat.ne_of_lt (blk_lt (g := gb218) (o := .cells #[.int .i64 t215, .int .i64 t216] 30 (0, 0)) (by (with_reducible repeat (first | refine blk_drewN ?_ _ | refine blk_drew ?_ | refine blk_alloc ?_ _)); exact BK218.out)) : gb218 ≠ gb222)); have n15_ := Aside0.mk ((by rw [hg]; exact Nat.ne_of_gt (blk_lt (g := gb218) (o := .cells #[.int .i64 t215, .int .i64 t216] 30 (0, 0)) (by (with_reducible repeat (first | refine blk_drewN ?_ _ | refine blk_drew ?_ | refine blk_alloc ?_ _)); exact BK218.out)) : gb222 ≠ gb218)); clear BK205; clear BK210; clear BK214; clear BK218; clear HB; have BK205 := n0_; have BK210 := n1_; have BK214 := n2_; have BK218 := n3_; have HB := n4_; have BK222 := n5_; have GW222 := n6_; have GE222 := n7_; have NB205_222 := n8_; have NB222_205 := n9_; have NB210_222 := n10_; have NB222_210 := n11_; have NB214_222 := n12_; have NB222_214 := n13_; have NB218_222 := n14_; have NB222_218 := n15_; clear n0_ n1_ n2_ n3_ n4_ n5_ n6_ n7_ n8_ n9_ n10_ n11_ n12_ n13_ n14_ n15_; clear hb hbox hg; have hnb32 := NB222_205.out; have hnc32 := NB205_222.out; have hnb33 := NB222_210.out; have hnc33 := NB210_222.out; have hnb34 := NB222_214.out; have hnc34 := NB214_222.out; have hnb35 := NB222_218.out; have hnc35 := NB218_222.out; have hcz36_0 : w31.cell? ⟨gb222, 0, none⟩ = some (.int .i64 0) := (blk_cell BK222.out 0).trans rfl; have hcz36_1 : w31.cell? ⟨gb222, 1, none⟩ = some (.int .i64 0) := (blk_cell BK222.out 1).trans rfl; have hfz36_0 := blk_frozen BK222.out 0; have hfz36_1 := blk_frozen BK222.out 1))
  (try simp only [Act.put, List.setIfInBounds_toArray, List.set_cons_zero, List.set_cons_succ])
  go_cut [45] (fun v45 wc => ∃ (kq : Nat) (x45_6 : Bool), v45 = .bool x45_6 ∧ Aside0 (careenlaw09_NegoBoth.j0 kq t206 t217 x45_6 t207 t208 t209 t211 t212 t213 t215 t216 = some true) ∧ Aside0 (kq ≤ k) ∧ Aside0 (wc.heap[gb205]? = some (.cells #[.int .i64 a0_0, .int .i64 a0_1, .int .i64 a0_2, .int .i64 a0_3, .int .i64 a0_4, .int .i64 a0_5] 24 (0, 0))) ∧ Aside0 (wc.heap[gb210]? = some (.cells #[.int .i64 t207, .int .i64 t208, .int .i64 t209] 23 (0, 0))) ∧ Aside0 (wc.heap[gb214]? = some (.cells #[.int .i64 t211, .int .i64 t212, .int .i64 t213] 23 (0, 0))) ∧ Aside0 (wc.heap[gb218]? = some (.cells #[.int .i64 t215, .int .i64 t216] 30 (0, 0))) ∧ Aside0 (wc.heap[gb222]? = some (.cells #[.int .i64 t219, .int .i64 t220] 30 (0, 0))) ∧ Aside0 (Below w.heap.size w wc))
  case first =>
    have H := HC7.out
    clear HC7
    by_cases c37 : (!(t215 == t219) || (!(t216 == t220))) = true
    · rw [if_pos c37] at H
      have c37b0 : (!(t215 == t219) || (!(t216 == t220))) = true := c37
      clear c37
      (first | rw [c37b0] | (simp only [i64_w, i32_w]; rw [c37b0]) | skip)
      have H' := Aside0.mk H
      clear H
      have hnb38 := NB218_205.out
      have hnc38 := NB205_218.out
      have hnb39 := NB218_210.out
      have hnc39 := NB210_218.out
      have hnb40 := NB218_214.out
      have hnc40 := NB214_218.out
      have hnb41 := NB218_222.out
      have hnc41 := NB222_218.out
      have hcz42_0 : w31.cell? ⟨gb218, 0, none⟩ = some (.int .i64 t215) := (blk_cell BK218.out 0).trans rfl
      have hcz42_1 : w31.cell? ⟨gb218, 1, none⟩ = some (.int .i64 t216) := (blk_cell BK218.out 1).trans rfl
      have hfz42_0 := blk_frozen BK218.out 0
      have hfz42_1 := blk_frozen BK218.out 1
      have hnb43 := NB222_205.out
      have hnc43 := NB205_222.out
      have hnb44 := NB222_210.out
      have hnc44 := NB210_222.out
      have hnb45 := NB222_214.out
      have hnc45 := NB214_222.out
      have hcz46_0 : w31.cell? ⟨gb222, 0, none⟩ = some (.int .i64 0) := (blk_cell BK222.out 0).trans rfl
      have hcz46_1 : w31.cell? ⟨gb222, 1, none⟩ = some (.int .i64 0) := (blk_cell BK222.out 1).trans rfl
      have hfz46_0 := blk_frozen BK222.out 0
      have hfz46_1 := blk_frozen BK222.out 1
      go_wp2
      go_meet
      case rel => exact ⟨_, (true), (by first | rfl | (simp; done) | (simp [*]; done)), H', ⟨by first | omega | exact Nat.le_refl _⟩, ⟨by (with_reducible repeat (first | refine blk_drewN ?_ _ | refine blk_drew ?_ | refine blk_alloc ?_ _)); refine blk_far ?_ NB205_222.out _; (with_reducible repeat (first | refine blk_drewN ?_ _ | refine blk_drew ?_ | refine blk_alloc ?_ _)); refine blk_far ?_ NB205_222.out _; (with_reducible repeat (first | refine blk_drewN ?_ _ | refine blk_drew ?_ | refine blk_alloc ?_ _)); exact BK205.out⟩, ⟨by (with_reducible repeat (first | refine blk_drewN ?_ _ | refine blk_drew ?_ | refine blk_alloc ?_ _)); refine blk_far ?_ NB210_222.out _; (with_reducible repeat (first | refine blk_drewN ?_ _ | refine blk_drew ?_ | refine blk_alloc ?_ _)); refine blk_far ?_ NB210_222.out _; (with_reducible repeat (first | refine blk_drewN ?_ _ | refine blk_drew ?_ | refine blk_alloc ?_ _)); exact BK210.out⟩, ⟨by (with_reducible repeat (first | refine blk_drewN ?_ _ | refine blk_drew ?_ | refine blk_alloc ?_ _)); refine blk_far ?_ NB214_222.out _; (with_reducible repeat (first | refine blk_drewN ?_ _ | refine blk_drew ?_ | refine blk_alloc ?_ _)); refine blk_far ?_ NB214_222.out _; (with_reducible repeat (first | refine blk_drewN ?_ _ | refine blk_drew ?_ | refine blk_alloc ?_ _)); exact BK214.out⟩, ⟨by (with_reducible repeat (first | refine blk_drewN ?_ _ | refine blk_drew ?_ | refine blk_alloc ?_ _)); refine blk_far ?_ NB218_222.out _; (with_reducible repeat (first | refine blk_drewN ?_ _ | refine blk_drew ?_ | refine blk_alloc ?_ _)); refine blk_far ?_ NB218_222.out _; (with_reducible repeat (first | refine blk_drewN ?_ _ | refine blk_drew ?_ | refine blk_alloc ?_ _)); exact BK218.out⟩, ⟨by (with_reducible repeat (first | refine blk_drewN ?_ _ | refine blk_drew ?_ | refine blk_alloc ?_ _)); refine blk_put (cs := #[.int .i64 t219, .int .i64 0]) ?_ 1 _ rfl; (with_reducible repeat (first | refine blk_drewN ?_ _ | refine blk_drew ?_ | refine blk_alloc ?_ _)); refine blk_put (cs := #[.int .i64 0, .int .i64 0]) ?_ 0 _ rfl; (with_reducible repeat (first | refine blk_drewN ?_ _ | refine blk_drew ?_ | refine blk_alloc ?_ _)); exact BK222.out⟩, ⟨by repeat (first | (with_reducible first | exact HB.out | apply below_alloc | apply pw_below_drewN | apply below_drew1 | refine below_set ?_ GE205.out | refine below_set ?_ GE210.out | refine below_set ?_ GE214.out | refine below_set ?_ GE218.out | refine below_set ?_ GE222.out) | exact HB.out)⟩⟩
    · rw [if_neg c37] at H
      have c37b0 : (!(t215 == t219) || (!(t216 == t220))) = false := by simpa using c37
      clear c37
      (first | rw [c37b0] | (simp only [i64_w, i32_w]; rw [c37b0]) | skip)
      have H' := Aside0.mk H
      clear H
      have hnb47 := NB218_205.out
      have hnc47 := NB205_218.out
      have hnb48 := NB218_210.out
      have hnc48 := NB210_218.out
      have hnb49 := NB218_214.out
      have hnc49 := NB214_218.out
      have hnb50 := NB218_222.out
      have hnc50 := NB222_218.out
      have hcz51_0 : w31.cell? ⟨gb218, 0, none⟩ = some (.int .i64 t215) := (blk_cell BK218.out 0).trans rfl
      have hcz51_1 : w31.cell? ⟨gb218, 1, none⟩ = some (.int .i64 t216) := (blk_cell BK218.out 1).trans rfl
      have hfz51_0 := blk_frozen BK218.out 0
      have hfz51_1 := blk_frozen BK218.out 1
      have hnb52 := NB222_205.out
      have hnc52 := NB205_222.out
      have hnb53 := NB222_210.out
      have hnc53 := NB210_222.out
      have hnb54 := NB222_214.out
      have hnc54 := NB214_222.out
      have hcz55_0 : w31.cell? ⟨gb222, 0, none⟩ = some (.int .i64 0) := (blk_cell BK222.out 0).trans rfl
      have hcz55_1 : w31.cell? ⟨gb222, 1, none⟩ = some (.int .i64 0) := (blk_cell BK222.out 1).trans rfl
      have hfz55_0 := blk_frozen BK222.out 0
      have hfz55_1 := blk_frozen BK222.out 1
      go_wp2
      go_meet
      case rel => exact ⟨_, ((t217 != t221)), (by first | rfl | (simp; done) | (simp [*]; done)), H', ⟨by first | omega | exact Nat.le_refl _⟩, ⟨by (with_reducible repeat (first | refine blk_drewN ?_ _ | refine blk_drew ?_ | refine blk_alloc ?_ _)); refine blk_far ?_ NB205_222.out _; (with_reducible repeat (first | refine blk_drewN ?_ _ | refine blk_drew ?_ | refine blk_alloc ?_ _)); refine blk_far ?_ NB205_222.out _; (with_reducible repeat (first | refine blk_drewN ?_ _ | refine blk_drew ?_ | refine blk_alloc ?_ _)); exact BK205.out⟩, ⟨by (with_reducible repeat (first | refine blk_drewN ?_ _ | refine blk_drew ?_ | refine blk_alloc ?_ _)); refine blk_far ?_ NB210_222.out _; (with_reducible repeat (first | refine blk_drewN ?_ _ | refine blk_drew ?_ | refine blk_alloc ?_ _)); refine blk_far ?_ NB210_222.out _; (with_reducible repeat (first | refine blk_drewN ?_ _ | refine blk_drew ?_ | refine blk_alloc ?_ _)); exact BK210.out⟩, ⟨by (with_reducible repeat (first | refine blk_drewN ?_ _ | refine blk_drew ?_ | refine blk_alloc ?_ _)); refine blk_far ?_ NB214_222.out _; (with_reducible repeat (first | refine blk_drewN ?_ _ | refine blk_drew ?_ | refine blk_alloc ?_ _)); refine blk_far ?_ NB214_222.out _; (with_reducible repeat (first | refine blk_drewN ?_ _ | refine blk_drew ?_ | refine blk_alloc ?_ _)); exact BK214.out⟩, ⟨by (with_reducible repeat (first | refine blk_drewN ?_ _ | refine blk_drew ?_ | refine blk_alloc ?_ _)); refine blk_far ?_ NB218_222.out _; (with_reducible repeat (first | refine blk_drewN ?_ _ | refine blk_drew ?_ | refine blk_alloc ?_ _)); refine blk_far ?_ NB218_222.out _; (with_reducible repeat (first | refine blk_drewN ?_ _ | refine blk_drew ?_ | refine blk_alloc ?_ _)); exact BK218.out⟩, ⟨by (with_reducible repeat (first | refine blk_drewN ?_ _ | refine blk_drew ?_ | refine blk_alloc ?_ _)); refine blk_put (cs := #[.int .i64 t219, .int .i64 0]) ?_ 1 _ rfl; (with_reducible repeat (first | refine blk_drewN ?_ _ | refine blk_drew ?_ | refine blk_alloc ?_ _)); refine blk_put (cs := #[.int .i64 0, .int .i64 0]) ?_ 0 _ rfl; (with_reducible repeat (first | refine blk_drewN ?_ _ | refine blk_drew ?_ | refine blk_alloc ?_ _)); exact BK222.out⟩, ⟨by repeat (first | (with_reducible first | exact HB.out | apply below_alloc | apply pw_below_drewN | apply below_drew1 | refine below_set ?_ GE205.out | refine below_set ?_ GE210.out | refine below_set ?_ GE214.out | refine below_set ?_ GE218.out | refine below_set ?_ GE222.out) | exact HB.out)⟩⟩
  case rest =>
    clear HC7
    try clear c1
    try clear c2
    try clear p2
    try clear c3
    try clear c4
    try clear c5
    try clear c8
    try clear c9
    try clear c10
    try clear c13
    try clear c18
    try clear c19
    try clear c24
    try clear c25
    try clear c26
    try clear c32
    try clear c33
    try clear c34
    try clear c35
    try clear c37
    try clear c37b0
    try clear c38
    try clear c39
    try clear c40
    try clear c41
    try clear c43
    try clear c44
    try clear c45
    try clear c47
    try clear c48
    try clear c49
    try clear c50
    try clear c52
    try clear c53
    try clear c54
    try clear hcz10_0
    try clear hcz10_1
    try clear hcz10_2
    try clear hcz10_3
    try clear hcz10_4
    try clear hcz10_5
    try clear hcz14_0
    try clear hcz14_1
    try clear hcz14_2
    try clear hcz15_0
    try clear hcz15_1
    try clear hcz15_2
    try clear hcz15_3
    try clear hcz15_4
    try clear hcz15_5
    try clear hcz20_0
    try clear hcz20_1
    try clear hcz20_2
    try clear hcz21_0
    try clear hcz21_1
    try clear hcz21_2
    try clear hcz27_0
    try clear hcz27_1
    try clear hcz28_0
    try clear hcz28_1
    try clear hcz28_2
    try clear hcz29_0
    try clear hcz29_1
    try clear hcz29_2
    try clear hcz36_0
    try clear hcz36_1
    try clear hcz42_0
    try clear hcz42_1
    try clear hcz46_0
    try clear hcz46_1
    try clear hcz51_0
    try clear hcz51_1
    try clear hcz55_0
    try clear hcz55_1
    try clear hfz10_0
    try clear hfz10_1
    try clear hfz10_2
    try clear hfz10_3
    try clear hfz10_4
    try clear hfz10_5
    try clear hfz14_0
    try clear hfz14_1
    try clear hfz14_2
    try clear hfz15_0
    try clear hfz15_1
    try clear hfz15_2
    try clear hfz15_3
    try clear hfz15_4
    try clear hfz15_5
    try clear hfz20_0
    try clear hfz20_1
    try clear hfz20_2
    try clear hfz21_0
    try clear hfz21_1
    try clear hfz21_2
    try clear hfz27_0
    try clear hfz27_1
    try clear hfz28_0
    try clear hfz28_1
    try clear hfz28_2
    try clear hfz29_0
    try clear hfz29_1
    try clear hfz29_2
    try clear hfz36_0
    try clear hfz36_1
    try clear hfz42_0
    try clear hfz42_1
    try clear hfz46_0
    try clear hfz46_1
    try clear hfz51_0
    try clear hfz51_1
    try clear hfz55_0
    try clear hfz55_1
    obtain ⟨kq, x45_6, rfl, HA, HJ6, BK205, BK210, BK214, BK218, BK222, HB⟩ := hcut
    cases kq with
    | zero => cases (show (none : Option _) = some _ from HA.out)
    | succ kj6 =>
      have H := HA.out
      clear HA
      simp only [careenlaw09_NegoBoth.j0] at H
      by_cases c56 : x45_6 = true
      · subst c56
        have H1 : (some false) = some true := by rw [if_pos rfl] at H; exact H
        clear H
        have H := H1
        clear H1
        exact absurd H (by simp)
      · replace c56 := Bool.eq_false_iff.mpr c56
        subst c56
        have H1 : (if t217 = 0 then (if t206 = true then (if t207 ≤ t215 then (if t215 ≤ t208 then (if t211 ≤ t215 then (if t215 ≤ t212 then (if (Go.bits .and .i64 t216 t209) = t216 then (if (Go.bits .and .i64 t216 t213) = t216 then (if t215 = 2 then (if t208 = 2 then (some ((t215 == 2) == (t212 == 2))) else (some ((t215 == 2) == false))) else (if t216 ≤ 7 then (if t208 = 2 then (some ((t215 == 2) == (t212 == 2))) else (some ((t215 == 2) == false))) else (some false))) else (some false)) else (some false)) else (some false)) else (some false)) else (some false)) else (some false)) else (some false)) else (if t206 = true then (if t217 = 22 then (if t208 < t211 then (some true) else (some (decide (t212 < t207)))) else (some false)) else (some false))) = some true := by rw [if_neg (show ¬ (false = true) by decide)] at H; exact H
        clear H
        have H := H1
        clear H1
        by_cases c57 : t217 = 0
        · rw [if_pos c57] at H
          have c57b0 : (t217 == 0) = true := beq_iff_eq.mpr c57
          have c57b1 : (t217 != 0) = false := bne_eq_false_iff_eq.mpr c57
          clear c57
          by_cases c58 : t206 = true
          · subst c58
            have H1 : (if t207 ≤ t215 then (if t215 ≤ t208 then (if t211 ≤ t215 then (if t215 ≤ t212 then (if (Go.bits .and .i64 t216 t209) = t216 then (if (Go.bits .and .i64 t216 t213) = t216 then (if t215 = 2 then (if t208 = 2 then (some ((t215 == 2) == (t212 == 2))) else (some ((t215 == 2) == false))) else (if t216 ≤ 7 then (if t208 = 2 then (some ((t215 == 2) == (t212 == 2))) else (some ((t215 == 2) == false))) else (some false))) else (some false)) else (some false)) else (some false)) else (some false)) else (some false)) else (some false)) = some true := by rw [if_pos rfl] at H; exact H
            clear H
            have H := H1
            clear H1
            by_cases c59 : t207 ≤ t215
            · rw [if_pos c59] at H
              have c59b0 : decide (t207 ≤ t215) = true := decide_eq_true c59
              clear c59
              by_cases c60 : t215 ≤ t208
              · rw [if_pos c60] at H
                have c60b0 : decide (t215 ≤ t208) = true := decide_eq_true c60
                clear c60
                by_cases c61 : t211 ≤ t215
                · rw [if_pos c61] at H
                  have c61b0 : decide (t211 ≤ t215) = true := decide_eq_true c61
                  clear c61
                  by_cases c62 : t215 ≤ t212
                  · rw [if_pos c62] at H
                    have c62b0 : decide (t215 ≤ t212) = true := decide_eq_true c62
                    clear c62
                    by_cases c63 : (Go.bits .and .i64 t216 t209) = t216
                    · rw [if_pos c63] at H
                      have c63b0 : ((Go.bits .and .i64 t216 t209) == t216) = true := beq_iff_eq.mpr c63
                      have c63b1 : ((Go.bits .and .i64 t216 t209) != t216) = false := bne_eq_false_iff_eq.mpr c63
                      clear c63
                      by_cases c64 : (Go.bits .and .i64 t216 t213) = t216
                      · rw [if_pos c64] at H
                        have c64b0 : ((Go.bits .and .i64 t216 t213) == t216) = true := beq_iff_eq.mpr c64
                        have c64b1 : ((Go.bits .and .i64 t216 t213) != t216) = false := bne_eq_false_iff_eq.mpr c64
                        clear c64
                        by_cases c65 : t215 = 2
                        · rw [if_pos c65] at H
                          have c65b0 : (t215 == 2) = true := beq_iff_eq.mpr c65
                          have c65b1 : (t215 != 2) = false := bne_eq_false_iff_eq.mpr c65
                          clear c65
                          by_cases c66 : t208 = 2
                          · rw [if_pos c66] at H
                            have c66b0 : (t208 == 2) = true := beq_iff_eq.mpr c66
                            have c66b1 : (t208 != 2) = false := bne_eq_false_iff_eq.mpr c66
                            clear c66
                            have HV_ := Aside0.mk (Option.some.inj H)
                            clear H
                            have hnb67 := NB218_205.out
                            have hnc67 := NB205_218.out
                            have hnb68 := NB218_210.out
                            have hnc68 := NB210_218.out
                            have hnb69 := NB218_214.out
                            have hnc69 := NB214_218.out
                            have hnb70 := NB218_222.out
                            have hnc70 := NB222_218.out
                            have hcz71_0 : wc.cell? ⟨gb218, 0, none⟩ = some (.int .i64 t215) := (blk_cell BK218.out 0).trans rfl
                            have hcz71_1 : wc.cell? ⟨gb218, 1, none⟩ = some (.int .i64 t216) := (blk_cell BK218.out 1).trans rfl
                            have hfz71_0 := blk_frozen BK218.out 0
                            have hfz71_1 := blk_frozen BK218.out 1
                            have hnb72 := NB210_205.out
                            have hnc72 := NB205_210.out
                            have hnb73 := NB210_214.out
                            have hnc73 := NB214_210.out
                            have hnb74 := NB210_222.out
                            have hnc74 := NB222_210.out
                            have hcz75_0 : wc.cell? ⟨gb210, 0, none⟩ = some (.int .i64 t207) := (blk_cell BK210.out 0).trans rfl
                            have hcz75_1 : wc.cell? ⟨gb210, 1, none⟩ = some (.int .i64 t208) := (blk_cell BK210.out 1).trans rfl
                            have hcz75_2 : wc.cell? ⟨gb210, 2, none⟩ = some (.int .i64 t209) := (blk_cell BK210.out 2).trans rfl
                            have hfz75_0 := blk_frozen BK210.out 0
                            have hfz75_1 := blk_frozen BK210.out 1
                            have hfz75_2 := blk_frozen BK210.out 2
                            have hnb76 := NB214_205.out
                            have hnc76 := NB205_214.out
                            have hnb77 := NB214_222.out
                            have hnc77 := NB222_214.out
                            have hcz78_0 : wc.cell? ⟨gb214, 0, none⟩ = some (.int .i64 t211) := (blk_cell BK214.out 0).trans rfl
                            have hcz78_1 : wc.cell? ⟨gb214, 1, none⟩ = some (.int .i64 t212) := (blk_cell BK214.out 1).trans rfl
                            have hcz78_2 : wc.cell? ⟨gb214, 2, none⟩ = some (.int .i64 t213) := (blk_cell BK214.out 2).trans rfl
                            have hfz78_0 := blk_frozen BK214.out 0
                            have hfz78_1 := blk_frozen BK214.out 1
                            have hfz78_2 := blk_frozen BK214.out 2
                            go_wp2
                            go_ret
                            exact ⟨by first | (have hv_ := HV_.out; simp only [c65b0] at hv_; (simp at hv_ ⊢) <;> first | exact hv_ | assumption) | exact congrArg (fun b_ => Ending.returned (Value.bool b_)) HV_.out | (have hv_ := HV_.out; simp only [Bool.and_eq_true, beq_iff_eq] at hv_; simp [hv_]; done) | (have hv_ := HV_.out; simp at hv_; simp [*]; done) | rfl | (simp [errW_none, errW_some] <;> rfl) | (simp [*, errW_none, errW_some] <;> rfl), by repeat (first | (with_reducible first | exact HB.out | apply below_alloc | apply pw_below_drewN | apply below_drew1 | refine below_set ?_ GE205.out | refine below_set ?_ GE210.out | refine below_set ?_ GE214.out | refine below_set ?_ GE218.out | refine below_set ?_ GE222.out) | exact HB.out)⟩
                          · rw [if_neg c66] at H
                            have c66b0 : (t208 == 2) = false := beq_eq_false_iff_ne.mpr c66
                            have c66b1 : (t208 != 2) = true := bne_iff_ne.mpr c66
                            have HV_ := Aside0.mk (Option.some.inj H)
                            clear H
                            have hnb79 := NB218_205.out
                            have hnc79 := NB205_218.out
                            have hnb80 := NB218_210.out
                            have hnc80 := NB210_218.out
                            have hnb81 := NB218_214.out
                            have hnc81 := NB214_218.out
                            have hnb82 := NB218_222.out
                            have hnc82 := NB222_218.out
                            have hcz83_0 : wc.cell? ⟨gb218, 0, none⟩ = some (.int .i64 t215) := (blk_cell BK218.out 0).trans rfl
                            have hcz83_1 : wc.cell? ⟨gb218, 1, none⟩ = some (.int .i64 t216) := (blk_cell BK218.out 1).trans rfl
                            have hfz83_0 := blk_frozen BK218.out 0
                            have hfz83_1 := blk_frozen BK218.out 1
                            have hnb84 := NB210_205.out
                            have hnc84 := NB205_210.out
                            have hnb85 := NB210_214.out
                            have hnc85 := NB214_210.out
                            have hnb86 := NB210_222.out
                            have hnc86 := NB222_210.out
                            have hcz87_0 : wc.cell? ⟨gb210, 0, none⟩ = some (.int .i64 t207) := (blk_cell BK210.out 0).trans rfl
                            have hcz87_1 : wc.cell? ⟨gb210, 1, none⟩ = some (.int .i64 t208) := (blk_cell BK210.out 1).trans rfl
                            have hcz87_2 : wc.cell? ⟨gb210, 2, none⟩ = some (.int .i64 t209) := (blk_cell BK210.out 2).trans rfl
                            have hfz87_0 := blk_frozen BK210.out 0
                            have hfz87_1 := blk_frozen BK210.out 1
                            have hfz87_2 := blk_frozen BK210.out 2
                            have hnb88 := NB214_205.out
                            have hnc88 := NB205_214.out
                            have hnb89 := NB214_222.out
                            have hnc89 := NB222_214.out
                            have hcz90_0 : wc.cell? ⟨gb214, 0, none⟩ = some (.int .i64 t211) := (blk_cell BK214.out 0).trans rfl
                            have hcz90_1 : wc.cell? ⟨gb214, 1, none⟩ = some (.int .i64 t212) := (blk_cell BK214.out 1).trans rfl
                            have hcz90_2 : wc.cell? ⟨gb214, 2, none⟩ = some (.int .i64 t213) := (blk_cell BK214.out 2).trans rfl
                            have hfz90_0 := blk_frozen BK214.out 0
                            have hfz90_1 := blk_frozen BK214.out 1
                            have hfz90_2 := blk_frozen BK214.out 2
                            go_wp2
                            go_ret
                            exact ⟨by first | (have hv_ := HV_.out; simp only [c65b0] at hv_; (simp at hv_ ⊢) <;> first | exact hv_ | assumption) | exact congrArg (fun b_ => Ending.returned (Value.bool b_)) HV_.out | (have hv_ := HV_.out; simp only [Bool.and_eq_true, beq_iff_eq] at hv_; simp [hv_]; done) | (have hv_ := HV_.out; simp at hv_; simp [*]; done) | rfl | (simp [errW_none, errW_some] <;> rfl) | (simp [*, errW_none, errW_some] <;> rfl), by repeat (first | (with_reducible first | exact HB.out | apply below_alloc | apply pw_below_drewN | apply below_drew1 | refine below_set ?_ GE205.out | refine below_set ?_ GE210.out | refine below_set ?_ GE214.out | refine below_set ?_ GE218.out | refine below_set ?_ GE222.out) | exact HB.out)⟩
                        · rw [if_neg c65] at H
                          have c65b0 : (t215 == 2) = false := beq_eq_false_iff_ne.mpr c65
                          have c65b1 : (t215 != 2) = true := bne_iff_ne.mpr c65
                          by_cases c91 : t216 ≤ 7
                          · rw [if_pos c91] at H
                            have c91b0 : decide (t216 ≤ 7) = true := decide_eq_true c91
                            clear c91
                            by_cases c92 : t208 = 2
                            · rw [if_pos c92] at H
                              have c92b0 : (t208 == 2) = true := beq_iff_eq.mpr c92
                              have c92b1 : (t208 != 2) = false := bne_eq_false_iff_eq.mpr c92
                              clear c92
                              have HV_ := Aside0.mk (Option.some.inj H)
                              clear H
                              have hnb93 := NB218_205.out
                              have hnc93 := NB205_218.out
                              have hnb94 := NB218_210.out
                              have hnc94 := NB210_218.out
                              have hnb95 := NB218_214.out
                              have hnc95 := NB214_218.out
                              have hnb96 := NB218_222.out
                              have hnc96 := NB222_218.out
                              have hcz97_0 : wc.cell? ⟨gb218, 0, none⟩ = some (.int .i64 t215) := (blk_cell BK218.out 0).trans rfl
                              have hcz97_1 : wc.cell? ⟨gb218, 1, none⟩ = some (.int .i64 t216) := (blk_cell BK218.out 1).trans rfl
                              have hfz97_0 := blk_frozen BK218.out 0
                              have hfz97_1 := blk_frozen BK218.out 1
                              have hnb98 := NB210_205.out
                              have hnc98 := NB205_210.out
                              have hnb99 := NB210_214.out
                              have hnc99 := NB214_210.out
                              have hnb100 := NB210_222.out
                              have hnc100 := NB222_210.out
                              have hcz101_0 : wc.cell? ⟨gb210, 0, none⟩ = some (.int .i64 t207) := (blk_cell BK210.out 0).trans rfl
                              have hcz101_1 : wc.cell? ⟨gb210, 1, none⟩ = some (.int .i64 t208) := (blk_cell BK210.out 1).trans rfl
                              have hcz101_2 : wc.cell? ⟨gb210, 2, none⟩ = some (.int .i64 t209) := (blk_cell BK210.out 2).trans rfl
                              have hfz101_0 := blk_frozen BK210.out 0
                              have hfz101_1 := blk_frozen BK210.out 1
                              have hfz101_2 := blk_frozen BK210.out 2
                              have hnb102 := NB214_205.out
                              have hnc102 := NB205_214.out
                              have hnb103 := NB214_222.out
                              have hnc103 := NB222_214.out
                              have hcz104_0 : wc.cell? ⟨gb214, 0, none⟩ = some (.int .i64 t211) := (blk_cell BK214.out 0).trans rfl
                              have hcz104_1 : wc.cell? ⟨gb214, 1, none⟩ = some (.int .i64 t212) := (blk_cell BK214.out 1).trans rfl
                              have hcz104_2 : wc.cell? ⟨gb214, 2, none⟩ = some (.int .i64 t213) := (blk_cell BK214.out 2).trans rfl
                              have hfz104_0 := blk_frozen BK214.out 0
                              have hfz104_1 := blk_frozen BK214.out 1
                              have hfz104_2 := blk_frozen BK214.out 2
                              go_wp2
                              go_ret
                              exact ⟨by first | (have hv_ := HV_.out; simp only [c65b0] at hv_; (simp at hv_ ⊢) <;> first | exact hv_ | assumption) | exact congrArg (fun b_ => Ending.returned (Value.bool b_)) HV_.out | (have hv_ := HV_.out; simp only [Bool.and_eq_true, beq_iff_eq] at hv_; simp [hv_]; done) | (have hv_ := HV_.out; simp at hv_; simp [*]; done) | rfl | (simp [errW_none, errW_some] <;> rfl) | (simp [*, errW_none, errW_some] <;> rfl), by repeat (first | (with_reducible first | exact HB.out | apply below_alloc | apply pw_below_drewN | apply below_drew1 | refine below_set ?_ GE205.out | refine below_set ?_ GE210.out | refine below_set ?_ GE214.out | refine below_set ?_ GE218.out | refine below_set ?_ GE222.out) | exact HB.out)⟩
                            · rw [if_neg c92] at H
                              have c92b0 : (t208 == 2) = false := beq_eq_false_iff_ne.mpr c92
                              have c92b1 : (t208 != 2) = true := bne_iff_ne.mpr c92
                              have HV_ := Aside0.mk (Option.some.inj H)
                              clear H
                              have hnb105 := NB218_205.out
                              have hnc105 := NB205_218.out
                              have hnb106 := NB218_210.out
                              have hnc106 := NB210_218.out
                              have hnb107 := NB218_214.out
                              have hnc107 := NB214_218.out
                              have hnb108 := NB218_222.out
                              have hnc108 := NB222_218.out
                              have hcz109_0 : wc.cell? ⟨gb218, 0, none⟩ = some (.int .i64 t215) := (blk_cell BK218.out 0).trans rfl
                              have hcz109_1 : wc.cell? ⟨gb218, 1, none⟩ = some (.int .i64 t216) := (blk_cell BK218.out 1).trans rfl
                              have hfz109_0 := blk_frozen BK218.out 0
                              have hfz109_1 := blk_frozen BK218.out 1
                              have hnb110 := NB210_205.out
                              have hnc110 := NB205_210.out
                              have hnb111 := NB210_214.out
                              have hnc111 := NB214_210.out
                              have hnb112 := NB210_222.out
                              have hnc112 := NB222_210.out
                              have hcz113_0 : wc.cell? ⟨gb210, 0, none⟩ = some (.int .i64 t207) := (blk_cell BK210.out 0).trans rfl
                              have hcz113_1 : wc.cell? ⟨gb210, 1, none⟩ = some (.int .i64 t208) := (blk_cell BK210.out 1).trans rfl
                              have hcz113_2 : wc.cell? ⟨gb210, 2, none⟩ = some (.int .i64 t209) := (blk_cell BK210.out 2).trans rfl
                              have hfz113_0 := blk_frozen BK210.out 0
                              have hfz113_1 := blk_frozen BK210.out 1
                              have hfz113_2 := blk_frozen BK210.out 2
                              have hnb114 := NB214_205.out
                              have hnc114 := NB205_214.out
                              have hnb115 := NB214_222.out
                              have hnc115 := NB222_214.out
                              have hcz116_0 : wc.cell? ⟨gb214, 0, none⟩ = some (.int .i64 t211) := (blk_cell BK214.out 0).trans rfl
                              have hcz116_1 : wc.cell? ⟨gb214, 1, none⟩ = some (.int .i64 t212) := (blk_cell BK214.out 1).trans rfl
                              have hcz116_2 : wc.cell? ⟨gb214, 2, none⟩ = some (.int .i64 t213) := (blk_cell BK214.out 2).trans rfl
                              have hfz116_0 := blk_frozen BK214.out 0
                              have hfz116_1 := blk_frozen BK214.out 1
                              have hfz116_2 := blk_frozen BK214.out 2
                              go_wp2
                              go_ret
                              exact ⟨by first | (have hv_ := HV_.out; simp only [c65b0] at hv_; (simp at hv_ ⊢) <;> first | exact hv_ | assumption) | exact congrArg (fun b_ => Ending.returned (Value.bool b_)) HV_.out | (have hv_ := HV_.out; simp only [Bool.and_eq_true, beq_iff_eq] at hv_; simp [hv_]; done) | (have hv_ := HV_.out; simp at hv_; simp [*]; done) | rfl | (simp [errW_none, errW_some] <;> rfl) | (simp [*, errW_none, errW_some] <;> rfl), by repeat (first | (with_reducible first | exact HB.out | apply below_alloc | apply pw_below_drewN | apply below_drew1 | refine below_set ?_ GE205.out | refine below_set ?_ GE210.out | refine below_set ?_ GE214.out | refine below_set ?_ GE218.out | refine below_set ?_ GE222.out) | exact HB.out)⟩
                          · rw [if_neg c91] at H
                            have c91b0 : decide (t216 ≤ 7) = false := decide_eq_false c91
                            clear c91
                            exact absurd H (by simp)
                      · rw [if_neg c64] at H
                        have c64b0 : ((Go.bits .and .i64 t216 t213) == t216) = false := beq_eq_false_iff_ne.mpr c64
                        have c64b1 : ((Go.bits .and .i64 t216 t213) != t216) = true := bne_iff_ne.mpr c64
                        exact absurd H (by simp)
                    · rw [if_neg c63] at H
                      have c63b0 : ((Go.bits .and .i64 t216 t209) == t216) = false := beq_eq_false_iff_ne.mpr c63
                      have c63b1 : ((Go.bits .and .i64 t216 t209) != t216) = true := bne_iff_ne.mpr c63
                      exact absurd H (by simp)
                  · rw [if_neg c62] at H
                    have c62b0 : decide (t215 ≤ t212) = false := decide_eq_false c62
                    clear c62
                    exact absurd H (by simp)
                · rw [if_neg c61] at H
                  have c61b0 : decide (t211 ≤ t215) = false := decide_eq_false c61
                  clear c61
                  exact absurd H (by simp)
              · rw [if_neg c60] at H
                have c60b0 : decide (t215 ≤ t208) = false := decide_eq_false c60
                clear c60
                exact absurd H (by simp)
            · rw [if_neg c59] at H
              have c59b0 : decide (t207 ≤ t215) = false := decide_eq_false c59
              clear c59
              exact absurd H (by simp)
          · replace c58 := Bool.eq_false_iff.mpr c58
            subst c58
            have H1 : (some false) = some true := by rw [if_neg (show ¬ (false = true) by decide)] at H; exact H
            clear H
            have H := H1
            clear H1
            exact absurd H (by simp)
        · rw [if_neg c57] at H
          have c57b0 : (t217 == 0) = false := beq_eq_false_iff_ne.mpr c57
          have c57b1 : (t217 != 0) = true := bne_iff_ne.mpr c57
          by_cases c117 : t206 = true
          · subst c117
            have H1 : (if t217 = 22 then (if t208 < t211 then (some true) else (some (decide (t212 < t207)))) else (some false)) = some true := by rw [if_pos rfl] at H; exact H
            clear H
            have H := H1
            clear H1
            by_cases c118 : t217 = 22
            · rw [if_pos c118] at H
              have c118b0 : (t217 == 22) = true := beq_iff_eq.mpr c118
              have c118b1 : (t217 != 22) = false := bne_eq_false_iff_eq.mpr c118
              clear c118
              by_cases c119 : t208 < t211
              · rw [if_pos c119] at H
                have c119b0 : decide (t208 < t211) = true := decide_eq_true c119
                clear c119
                clear H
                have hnb120 := NB210_205.out
                have hnc120 := NB205_210.out
                have hnb121 := NB210_214.out
                have hnc121 := NB214_210.out
                have hnb122 := NB210_218.out
                have hnc122 := NB218_210.out
                have hnb123 := NB210_222.out
                have hnc123 := NB222_210.out
                have hcz124_0 : wc.cell? ⟨gb210, 0, none⟩ = some (.int .i64 t207) := (blk_cell BK210.out 0).trans rfl
                have hcz124_1 : wc.cell? ⟨gb210, 1, none⟩ = some (.int .i64 t208) := (blk_cell BK210.out 1).trans rfl
                have hcz124_2 : wc.cell? ⟨gb210, 2, none⟩ = some (.int .i64 t209) := (blk_cell BK210.out 2).trans rfl
                have hfz124_0 := blk_frozen BK210.out 0
                have hfz124_1 := blk_frozen BK210.out 1
                have hfz124_2 := blk_frozen BK210.out 2
                have hnb125 := NB214_205.out
                have hnc125 := NB205_214.out
                have hnb126 := NB214_218.out
                have hnc126 := NB218_214.out
                have hnb127 := NB214_222.out
                have hnc127 := NB222_214.out
                have hcz128_0 : wc.cell? ⟨gb214, 0, none⟩ = some (.int .i64 t211) := (blk_cell BK214.out 0).trans rfl
                have hcz128_1 : wc.cell? ⟨gb214, 1, none⟩ = some (.int .i64 t212) := (blk_cell BK214.out 1).trans rfl
                have hcz128_2 : wc.cell? ⟨gb214, 2, none⟩ = some (.int .i64 t213) := (blk_cell BK214.out 2).trans rfl
                have hfz128_0 := blk_frozen BK214.out 0
                have hfz128_1 := blk_frozen BK214.out 1
                have hfz128_2 := blk_frozen BK214.out 2
                go_wp2
                go_ret
                exact ⟨by first | rfl | (simp [errW_none, errW_some] <;> rfl) | (simp [*, errW_none, errW_some] <;> rfl), by repeat (first | (with_reducible first | exact HB.out | apply below_alloc | apply pw_below_drewN | apply below_drew1 | refine below_set ?_ GE205.out | refine below_set ?_ GE210.out | refine below_set ?_ GE214.out | refine below_set ?_ GE218.out | refine below_set ?_ GE222.out) | exact HB.out)⟩
              · rw [if_neg c119] at H
                have c119b0 : decide (t208 < t211) = false := decide_eq_false c119
                clear c119
                have HV_ := Aside0.mk (Option.some.inj H)
                clear H
                have hnb129 := NB210_205.out
                have hnc129 := NB205_210.out
                have hnb130 := NB210_214.out
                have hnc130 := NB214_210.out
                have hnb131 := NB210_218.out
                have hnc131 := NB218_210.out
                have hnb132 := NB210_222.out
                have hnc132 := NB222_210.out
                have hcz133_0 : wc.cell? ⟨gb210, 0, none⟩ = some (.int .i64 t207) := (blk_cell BK210.out 0).trans rfl
                have hcz133_1 : wc.cell? ⟨gb210, 1, none⟩ = some (.int .i64 t208) := (blk_cell BK210.out 1).trans rfl
                have hcz133_2 : wc.cell? ⟨gb210, 2, none⟩ = some (.int .i64 t209) := (blk_cell BK210.out 2).trans rfl
                have hfz133_0 := blk_frozen BK210.out 0
                have hfz133_1 := blk_frozen BK210.out 1
                have hfz133_2 := blk_frozen BK210.out 2
                have hnb134 := NB214_205.out
                have hnc134 := NB205_214.out
                have hnb135 := NB214_218.out
                have hnc135 := NB218_214.out
                have hnb136 := NB214_222.out
                have hnc136 := NB222_214.out
                have hcz137_0 : wc.cell? ⟨gb214, 0, none⟩ = some (.int .i64 t211) := (blk_cell BK214.out 0).trans rfl
                have hcz137_1 : wc.cell? ⟨gb214, 1, none⟩ = some (.int .i64 t212) := (blk_cell BK214.out 1).trans rfl
                have hcz137_2 : wc.cell? ⟨gb214, 2, none⟩ = some (.int .i64 t213) := (blk_cell BK214.out 2).trans rfl
                have hfz137_0 := blk_frozen BK214.out 0
                have hfz137_1 := blk_frozen BK214.out 1
                have hfz137_2 := blk_frozen BK214.out 2
                go_wp2
                go_ret
                exact ⟨by first | (have hv_ := HV_.out; simp only [c65b0] at hv_; (simp at hv_ ⊢) <;> first | exact hv_ | assumption) | exact congrArg (fun b_ => Ending.returned (Value.bool b_)) HV_.out | (have hv_ := HV_.out; simp only [Bool.and_eq_true, beq_iff_eq] at hv_; simp [hv_]; done) | (have hv_ := HV_.out; simp at hv_; simp [*]; done) | rfl | (simp [errW_none, errW_some] <;> rfl) | (simp [*, errW_none, errW_some] <;> rfl), by repeat (first | (with_reducible first | exact HB.out | apply below_alloc | apply pw_below_drewN | apply below_drew1 | refine below_set ?_ GE205.out | refine below_set ?_ GE210.out | refine below_set ?_ GE214.out | refine below_set ?_ GE218.out | refine below_set ?_ GE222.out) | exact HB.out)⟩
            · rw [if_neg c118] at H
              have c118b0 : (t217 == 22) = false := beq_eq_false_iff_ne.mpr c118
              have c118b1 : (t217 != 22) = true := bne_iff_ne.mpr c118
              exact absurd H (by simp)
          · replace c117 := Bool.eq_false_iff.mpr c117
            subst c117
            have H1 : (some false) = some true := by rw [if_neg (show ¬ (false = true) by decide)] at H; exact H
            clear H
            have H := H1
            clear H1
            exact absurd H (by simp)

/-- THE ONE PURE STATEMENT of careenlaw09_NegoBoth. -/
def careenlaw09_NegoBoth.Pure : Prop := ∀ (a0_0 : Int) (a0_1 : Int) (a0_2 : Int) (a0_3 : Int) (a0_4 : Int) (a0_5 : Int), (Lit.int .i64 a0_0).wf = true → (Lit.int .i64 a0_1).wf = true → (Lit.int .i64 a0_2).wf = true → (Lit.int .i64 a0_3).wf = true → (Lit.int .i64 a0_4).wf = true → (Lit.int .i64 a0_5).wf = true → ∃ k, careenlaw09_NegoBoth.f k a0_0 a0_1 a0_2 a0_3 a0_4 a0_5 = some true

end Go.Proofs.Ythfhoccghbdciaa.PAll
