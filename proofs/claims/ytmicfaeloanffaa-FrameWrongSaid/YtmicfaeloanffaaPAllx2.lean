-- Written by a program of this session (wip/xpatch.py, wip/xprint.sh) for seat Ytmicfaeloanffaa.
import Derived.Test.YtmicfaeloanffaaPAllx0
namespace Go.Proofs.Ytmicfaeloanffaa.PAll
attribute [local go_sem high] Go.Proofs.Ytmicfaeloanffaa.Hand.unary_xor_u32
open Go.RowKit Go.Proofs.YtmicfaeloanffaaW.PrintWords Go.Proofs.YtmicfaeloanffaaW.PrintLast Go.Proofs.YtmicfaeloanffaaW.PrintMore
attribute [local go_sem] max2_int min2_int max_two min_two max_three min_three max_four min_four   -- for this text's walks alone
set_option linter.unusedVariables false
set_option linter.unusedSimpArgs false

/-! ### varint_size: function 58 -/
def varint_size.l0 : Nat → ByteArray → Int → Int → Option (Int)
 | 0, _, _, _ => none
 | k + 1, x0, x6, x7 => if x7 < x6 then (if 0 ≤ x7 then (if x7 < (x0.size : Int) then (if (bt x0 x7) < 128 then (some (wrap64 (x7 + 1))) else (varint_size.l0 k x0 x6 (wrap64 (x7 + 1)))) else (none)) else (none)) else (some 0)
def varint_size.f (k : Nat) (a0 : ByteArray) : Option (Int) := varint_size.l0 k a0 (mn (a0.size : Int) 8) 0
theorem varint_size.mono_l : ∀ k, (∀ y0 y1 y2, LeO (varint_size.l0 k y0 y1 y2) (varint_size.l0 (k + 1) y0 y1 y2))
 | 0 => (fun _ _ _ r h => by cases (show (none : Option _) = some r from h))
 | k + 1 => by
  have ih0 := varint_size.mono_l k
  ·intro y0 y1 y2
   unfold varint_size.l0
   repeat' first
   | (with_reducible exact ih0 _ _ _)
   | (with_reducible exact LeO.refl _)
   | (with_reducible exact LeO.none _)
   | (with_reducible refine LeO.ite ?_ ?_)
   | (with_reducible refine LeO.bind ?_ (fun _ => ?_))
   | exact ih0 _ _ _
   | exact LeO.none _
   | refine LeO.ite ?_ ?_
   | refine LeO.bind ?_ (fun _ => ?_)
theorem varint_size.mono : ∀ a0 k, LeO (varint_size.f k a0) (varint_size.f (k + 1) a0) := by
 intro a0 k
 have ih0 := varint_size.mono_l k
 unfold varint_size.f
 repeat' first
   | (with_reducible exact ih0 _ _ _)
   | (with_reducible exact LeO.refl _)
   | (with_reducible exact LeO.none _)
   | (with_reducible refine LeO.ite ?_ ?_)
   | (with_reducible refine LeO.bind ?_ (fun _ => ?_))
   | exact ih0 _ _ _
   | exact LeO.none _
   | refine LeO.ite ?_ ?_
   | refine LeO.bind ?_ (fun _ => ?_)
set_option maxHeartbeats 8000000 in
set_option maxRecDepth 100000 in
theorem varint_size.calls (k : Nat) (a0 : ByteArray) (r : Int) (w : World) (h : varint_size.f k a0 = some r) :
  Calls Try.prog 58 #[.string a0] w fun e w' => e = .returned (.int .i64 r) ∧ Below w.heap.size w w' := by
 have HB := Aside0.mk (Below.refl w.heap.size w)
 have H : (varint_size.l0 k a0 (mn (a0.size : Int) 8) 0) = some r := h
 clear h
 obtain ⟨ji2, hji2⟩ : ∃ j_ : Int, (mn (a0.size : Int) 8) = j_ := ⟨_, rfl⟩
 replace H : (varint_size.l0 k a0 ji2 0) = some r := by first | (rw [hji2] at H; exact H) | (simp only [hji2] at H ⊢; exact H)
 (try (have hji2h : ji2 ≤ 8 := by (rw [← hji2]; unfold mn; (repeat' split) <;> omega)))
 (try (have hji2g : ji2 ≤ 64 := by omega))
 (try (have hji2l : 0 ≤ ji2 := by (rw [← hji2]; unfold mn; (repeat' split) <;> omega)))
 (try (have hji2m : 0 ≤ ji2 := by omega))
 have hji2_ : (if 8 < (a0.size : Int) then 8 else (a0.size : Int)) = ji2 := hji2
 have H' := Aside0.mk H
 clear H
 go_enter Try.func58, Try.ntmps58
 go_wp2
 go_loopg [7] k (fun kq v7 w' => ∃ (x7_1 : Int), v7 = .int .i64 x7_1 ∧ Aside0 (varint_size.l0 kq a0 ji2 x7_1 = some r) ∧ Aside0 (kq ≤ k) ∧ Aside0 (Below w.heap.size w w'))
 case atStart => exact ⟨(0), (by first | rfl | (simp; done) | (simp [*]; done)), H', ⟨Nat.le_refl _⟩, ⟨by repeat (first | (with_reducible first | exact HB.out | apply below_alloc | apply pw_below_drewN | apply below_drew1) | exact HB.out)⟩⟩
 case round =>
  clear H'
  try clear p2
  obtain ⟨x7_1, rfl, HA, HK1, HB⟩ := hrel
  cases gk with
  | zero => cases (show (none : Option _) = some _ from HA.out)
  | succ k1 =>
   have H := HA.out
   clear HA
   simp only [varint_size.l0] at H
   by_cases c3 : x7_1 < ji2
   ·rw [if_pos c3] at H
    have c3b0 : decide (x7_1 < ji2) = true := decide_eq_true c3
    clear c3
    by_cases c4 : 0 ≤ x7_1
    ·rw [if_pos c4] at H
     have c4b0 : decide (0 ≤ x7_1) = true := decide_eq_true c4
     clear c4
     by_cases c5 : x7_1 < (a0.size : Int)
     ·rw [if_pos c5] at H
      have c5b0 : decide (x7_1 < (a0.size : Int)) = true := decide_eq_true c5
      clear c5
      by_cases c7 : (bt a0 x7_1) < 128
      ·rw [if_pos c7] at H
       have c7b0 : decide ((bt a0 x7_1) < 128) = true := decide_eq_true c7
       clear c7
       obtain rfl := Option.some.inj H
       have p6 : 0 ≤ (x7_1 : Int) := of_decide_eq_true (by first | (with_reducible assumption) | assumption)
       have q6 : x7_1 < (a0.size : Int) := of_decide_eq_true (by first | (with_reducible assumption) | assumption)
       have hx6 := bt_at a0 x7_1
       replace p6 := eq_true p6
       replace q6 := eq_true q6
       go_wp2
       go_ret
       exact ⟨by first | rfl | (simp [errW_none, errW_some] <;> rfl) | (simp only [← hji2]; first | rfl | (simp [errW_none, errW_some] <;> rfl)) | (simp [*, errW_none, errW_some] <;> rfl), by repeat (first | (with_reducible first | exact HB.out | apply below_alloc | apply pw_below_drewN | apply below_drew1) | exact HB.out)⟩
      ·rw [if_neg c7] at H
       have c7b0 : decide ((bt a0 x7_1) < 128) = false := decide_eq_false c7
       clear c7
       have H' := Aside0.mk H
       clear H
       have p6 : 0 ≤ (x7_1 : Int) := of_decide_eq_true (by first | (with_reducible assumption) | assumption)
       have q6 : x7_1 < (a0.size : Int) := of_decide_eq_true (by first | (with_reducible assumption) | assumption)
       have hx6 := bt_at a0 x7_1
       replace p6 := eq_true p6
       replace q6 := eq_true q6
       go_wp2
       go_roundg k1
       case measure => have := HK1.out; omega
       case rel => exact ⟨(wrap64 (x7_1 + 1)), (by first | rfl | (simp; done) | (simp [*]; done)), H', ⟨by have := HK1.out; omega⟩, ⟨by repeat (first | (with_reducible first | exact HB.out | apply below_alloc | apply pw_below_drewN | apply below_drew1) | exact HB.out)⟩⟩
     ·rw [if_neg c5] at H
      exact absurd H (by simp)
    ·rw [if_neg c4] at H
     exact absurd H (by simp)
   ·rw [if_neg c3] at H
    have c3b0 : decide (x7_1 < ji2) = false := decide_eq_false c3
    clear c3
    obtain rfl := Option.some.inj H
    go_wp2
    go_ret
    exact ⟨by first | rfl | (simp [errW_none, errW_some] <;> rfl) | (simp only [← hji2]; first | rfl | (simp [errW_none, errW_some] <;> rfl)) | (simp [*, errW_none, errW_some] <;> rfl), by repeat (first | (with_reducible first | exact HB.out | apply below_alloc | apply pw_below_drewN | apply below_drew1) | exact HB.out)⟩

/-! ### varint_Take: function 56 -/
mutual
def varint_Take.j1 : Nat → ByteArray → Int → Int → Option (Int × Int × Int)
 | 0, _, _, _ => none
 | k + 1, x0, x5, x6 => varint_Take.l0 k x0 x5 x6 (wrap64 (x5 - 1))
def varint_Take.l0 : Nat → ByteArray → Int → Int → Int → Option (Int × Int × Int)
 | 0, _, _, _, _ => none
 | k + 1, x0, x5, x6, x7 => if x7 ≥ 0 then (if 0 ≤ x7 then (if x7 < (x0.size : Int) then (varint_Take.l0 k x0 x5 (Go.bits .or .i64 (wrap64 (x6 * 128)) (wrap64 (Go.bits .andNot .u8 (bt x0 x7) 128))) (wrap64 (x7 - 1))) else (none)) else (none)) else (if x6 > 9007199254740992 then (some (0, 0, 11)) else (some (x6, x5, 0)))
def varint_Take.j0 : Nat → ByteArray → Int → Int → Bool → Option (Int × Int × Int)
 | 0, _, _, _, _ => none
 | k + 1, x0, x5, x6, x10 => if x10 = true then (some (0, 0, 10)) else (if x5 = 0 then (some (0, 0, 11)) else (if x5 > 1 then (if 0 ≤ (wrap64 (x5 - 1)) then (if (wrap64 (x5 - 1)) < (x0.size : Int) then (if (bt x0 (wrap64 (x5 - 1))) = 0 then (some (0, 0, 11)) else (varint_Take.j1 k x0 x5 x6)) else (none)) else (none)) else (varint_Take.j1 k x0 x5 x6)))
end
def varint_Take.f (k : Nat) (a0 : ByteArray) : Option (Int × Int × Int) := (varint_size.f k a0).bind fun t101 => (if t101 = 0 then (varint_Take.j0 k a0 t101 0 (decide ((a0.size : Int) < 8))) else (varint_Take.j0 k a0 t101 0 false))
theorem varint_Take.mono_l : ∀ k, (∀ y0 y1 y2, LeO (varint_Take.j1 k y0 y1 y2) (varint_Take.j1 (k + 1) y0 y1 y2)) ∧ (∀ y0 y1 y2 y3, LeO (varint_Take.l0 k y0 y1 y2 y3) (varint_Take.l0 (k + 1) y0 y1 y2 y3)) ∧ (∀ y0 y1 y2 y3, LeO (varint_Take.j0 k y0 y1 y2 y3) (varint_Take.j0 (k + 1) y0 y1 y2 y3))
 | 0 => ⟨(fun _ _ _ r h => by cases (show (none : Option _) = some r from h)), (fun _ _ _ _ r h => by cases (show (none : Option _) = some r from h)), (fun _ _ _ _ r h => by cases (show (none : Option _) = some r from h))⟩
 | k + 1 => by
  obtain ⟨ih0, ih1, ih2⟩ := varint_Take.mono_l k
  refine ⟨?_, ?_, ?_⟩
  ·intro y0 y1 y2
   unfold varint_Take.j1
   repeat' first
   | (with_reducible exact ih0 _ _ _)
   | (with_reducible exact ih1 _ _ _ _)
   | (with_reducible exact ih2 _ _ _ _)
   | (with_reducible exact varint_size.mono _ _)
   | (with_reducible exact LeO.refl _)
   | (with_reducible exact LeO.none _)
   | (with_reducible refine LeO.ite ?_ ?_)
   | (with_reducible refine LeO.bind ?_ (fun _ => ?_))
   | exact ih0 _ _ _
   | exact ih1 _ _ _ _
   | exact ih2 _ _ _ _
   | exact varint_size.mono _ _
   | exact LeO.none _
   | refine LeO.ite ?_ ?_
   | refine LeO.bind ?_ (fun _ => ?_)
  ·intro y0 y1 y2 y3
   unfold varint_Take.l0
   repeat' first
   | (with_reducible exact ih0 _ _ _)
   | (with_reducible exact ih1 _ _ _ _)
   | (with_reducible exact ih2 _ _ _ _)
   | (with_reducible exact varint_size.mono _ _)
   | (with_reducible exact LeO.refl _)
   | (with_reducible exact LeO.none _)
   | (with_reducible refine LeO.ite ?_ ?_)
   | (with_reducible refine LeO.bind ?_ (fun _ => ?_))
   | exact ih0 _ _ _
   | exact ih1 _ _ _ _
   | exact ih2 _ _ _ _
   | exact varint_size.mono _ _
   | exact LeO.none _
   | refine LeO.ite ?_ ?_
   | refine LeO.bind ?_ (fun _ => ?_)
  ·intro y0 y1 y2 y3
   unfold varint_Take.j0
   repeat' first
   | (with_reducible exact ih0 _ _ _)
   | (with_reducible exact ih1 _ _ _ _)
   | (with_reducible exact ih2 _ _ _ _)
   | (with_reducible exact varint_size.mono _ _)
   | (with_reducible exact LeO.refl _)
   | (with_reducible exact LeO.none _)
   | (with_reducible refine LeO.ite ?_ ?_)
   | (with_reducible refine LeO.bind ?_ (fun _ => ?_))
   | exact ih0 _ _ _
   | exact ih1 _ _ _ _
   | exact ih2 _ _ _ _
   | exact varint_size.mono _ _
   | exact LeO.none _
   | refine LeO.ite ?_ ?_
   | refine LeO.bind ?_ (fun _ => ?_)
theorem varint_Take.mono : ∀ a0 k, LeO (varint_Take.f k a0) (varint_Take.f (k + 1) a0) := by
 intro a0 k
 obtain ⟨ih0, ih1, ih2⟩ := varint_Take.mono_l k
 unfold varint_Take.f
 repeat' first
   | (with_reducible exact ih0 _ _ _)
   | (with_reducible exact ih1 _ _ _ _)
   | (with_reducible exact ih2 _ _ _ _)
   | (with_reducible exact varint_size.mono _ _)
   | (with_reducible exact LeO.refl _)
   | (with_reducible exact LeO.none _)
   | (with_reducible refine LeO.ite ?_ ?_)
   | (with_reducible refine LeO.bind ?_ (fun _ => ?_))
   | exact ih0 _ _ _
   | exact ih1 _ _ _ _
   | exact ih2 _ _ _ _
   | exact varint_size.mono _ _
   | exact LeO.none _
   | refine LeO.ite ?_ ?_
   | refine LeO.bind ?_ (fun _ => ?_)
set_option maxHeartbeats 8000000 in
set_option maxRecDepth 100000 in
theorem varint_Take.calls (k : Nat) (a0 : ByteArray) (r1 : Int) (r2 : Int) (r3 : Int) (w : World) (h : varint_Take.f k a0 = some (r1, r2, r3)) :
  Calls Try.prog 56 #[.string a0] w fun e w' => e = .returned (.tuple #[.int .i64 r1, .int .i64 r2, .int .i64 r3]) ∧ Below w.heap.size w w' := by
 have HB := Aside0.mk (Below.refl w.heap.size w)
 have H : ((varint_size.f k a0).bind fun t101 => (if t101 = 0 then (varint_Take.j0 k a0 t101 0 (decide ((a0.size : Int) < 8))) else (varint_Take.j0 k a0 t101 0 false))) = some (r1, r2, r3) := h
 clear h
 replace H := Option.bind_eq_some_iff.mp H
 obtain ⟨t101, A20, H⟩ := H
 replace H : (if t101 = 0 then (varint_Take.j0 k a0 t101 0 (decide ((a0.size : Int) < 8))) else (varint_Take.j0 k a0 t101 0 false)) = some (r1, r2, r3) := H
 have A2 := Aside0.mk A20
 clear A20
 have HC3 := Aside0.mk H
 clear H
 go_enter Try.func56, Try.ntmps56
 go_upto_block 0 with (first | ((with_reducible refine gate_callee (f := 58) rfl ?_); refine goesL_ (some 9) rfl rfl Try.func58 (by kernel_rfl) rfl #[.string a0] rfl (by (try simp only [List.map_toArray, List.map_cons, List.map_nil]); first | done | rfl | (simp only [List.length_drop, List.length_take]; rfl)) ?_; (with_reducible refine (varint_size.calls k a0 t101 _ A2.out).mono ?_); rintro e w4 ⟨rfl, hb⟩; refine ⟨_, rfl, ?_⟩; have n0_ := Aside0.mk (below_step (by repeat (first | (with_reducible first | exact HB.out | apply below_alloc | apply pw_below_drewN | apply below_drew1) | exact HB.out)) hb); clear HB; have HB := n0_; clear n0_; (try clear hb); (try clear hb2); (try clear hk); (try clear hi)))
 (try simp only [Act.put, Hand.z1, Hand.z2, Hand.z3])
 go_cut [] (fun wc => ∃ (kq : Nat), Aside0 (varint_Take.j1 kq a0 t101 0 = some (r1, r2, r3)) ∧ Aside0 (kq ≤ k) ∧ Aside0 (Below w.heap.size w wc))
 case first =>
  have H := HC3.out
  clear HC3
  have HC5 := Aside0.mk H
  clear H
  go_upto_region 2 with (fail)
  go_cut [10] (fun v10 wc => ∃ (kq : Nat) (x10_4 : Bool), v10 = .bool x10_4 ∧ Aside0 (varint_Take.j0 kq a0 t101 0 x10_4 = some (r1, r2, r3)) ∧ Aside0 (kq ≤ k) ∧ Aside0 (Below w.heap.size w wc))
  case first =>
   have H := HC5.out
   clear HC5
   by_cases c6 : t101 = 0
   ·rw [if_pos c6] at H
    have c6b0 : (t101 == 0) = true := beq_iff_eq.mpr c6
    have c6b1 : (t101 != 0) = false := bne_eq_false_iff_eq.mpr c6
    clear c6
    (first | rw [c6b0] | (simp only [i64_w, i32_w]; rw [c6b0]) | skip)
    have H' := Aside0.mk H
    clear H
    go_wp2
    go_meet
    case rel => exact ⟨_, (decide ((a0.size : Int) < 8)), (by first | rfl | (simp; done) | (simp [*]; done)), H', ⟨by first | omega | exact Nat.le_refl _⟩, ⟨by repeat (first | (with_reducible first | exact HB.out | apply below_alloc | apply pw_below_drewN | apply below_drew1) | exact HB.out)⟩⟩
   ·rw [if_neg c6] at H
    have c6b0 : (t101 == 0) = false := beq_eq_false_iff_ne.mpr c6
    have c6b1 : (t101 != 0) = true := bne_iff_ne.mpr c6
    (first | rw [c6b0] | (simp only [i64_w, i32_w]; rw [c6b0]) | skip)
    have H' := Aside0.mk H
    clear H
    go_wp2
    go_meet
    case rel => exact ⟨_, (false), (by first | rfl | (simp; done) | (simp [*]; done)), H', ⟨by first | omega | exact Nat.le_refl _⟩, ⟨by repeat (first | (with_reducible first | exact HB.out | apply below_alloc | apply pw_below_drewN | apply below_drew1) | exact HB.out)⟩⟩
  case rest =>
   clear HC5
   try clear p2
   try clear c5
   try clear c6
   try clear c6b0
   try clear c6b1
   obtain ⟨kq, x10_4, rfl, HA, HJ4, HB⟩ := hcut
   cases kq with
   | zero => cases (show (none : Option _) = some _ from HA.out)
   | succ kj4 =>
    have H := HA.out
    clear HA
    simp only [varint_Take.j0] at H
    by_cases c7 : x10_4 = true
    ·subst c7
     have H1 : (some (0, 0, 10)) = some (r1, r2, r3) := by rw [if_pos rfl] at H; exact H
     clear H
     have H := H1
     clear H1
     simp only [Option.some.injEq, Prod.mk.injEq] at H
     obtain ⟨rfl, rfl, rfl⟩ := H
     go_wp2
     go_ret3
     exact ⟨by first | rfl | (simp [errW_none, errW_some] <;> rfl) | (simp [*, errW_none, errW_some] <;> rfl), by repeat (first | (with_reducible first | exact HB.out | apply below_alloc | apply pw_below_drewN | apply below_drew1) | exact HB.out)⟩
    ·replace c7 := Bool.eq_false_iff.mpr c7
     subst c7
     have H1 : (if t101 = 0 then (some (0, 0, 11)) else (if t101 > 1 then (if 0 ≤ (wrap64 (t101 - 1)) then (if (wrap64 (t101 - 1)) < (a0.size : Int) then (if (bt a0 (wrap64 (t101 - 1))) = 0 then (some (0, 0, 11)) else (varint_Take.j1 kj4 a0 t101 0)) else (none)) else (none)) else (varint_Take.j1 kj4 a0 t101 0))) = some (r1, r2, r3) := by rw [if_neg (show ¬ (false = true) by decide)] at H; exact H
     clear H
     have H := H1
     clear H1
     by_cases c8 : t101 = 0
     ·rw [if_pos c8] at H
      have c8b0 : (t101 == 0) = true := beq_iff_eq.mpr c8
      have c8b1 : (t101 != 0) = false := bne_eq_false_iff_eq.mpr c8
      clear c8
      simp only [Option.some.injEq, Prod.mk.injEq] at H
      obtain ⟨rfl, rfl, rfl⟩ := H
      go_wp2
      go_ret3
      exact ⟨by first | rfl | (simp [errW_none, errW_some] <;> rfl) | (simp [*, errW_none, errW_some] <;> rfl), by repeat (first | (with_reducible first | exact HB.out | apply below_alloc | apply pw_below_drewN | apply below_drew1) | exact HB.out)⟩
     ·rw [if_neg c8] at H
      have c8b0 : (t101 == 0) = false := beq_eq_false_iff_ne.mpr c8
      have c8b1 : (t101 != 0) = true := bne_iff_ne.mpr c8
      by_cases c9 : t101 > 1
      ·rw [if_pos c9] at H
       have c9b0 : decide (1 < t101) = true := decide_eq_true c9
       clear c9
       obtain ⟨ji10, hji10⟩ : ∃ j_ : Int, (wrap64 (t101 - 1)) = j_ := ⟨_, rfl⟩
       replace H : (if 0 ≤ (ji10) then (if (ji10) < (a0.size : Int) then (if (bt a0 (ji10)) = 0 then (some (0, 0, 11)) else (varint_Take.j1 kj4 a0 t101 0)) else (none)) else (none)) = some (r1, r2, r3) := by first | (rw [hji10] at H; exact H) | (simp only [hji10] at H ⊢; exact H)
       have hji10w : (IntKind.i64.wrap (t101 - 1)) = ji10 := (i64_w _).trans hji10
       by_cases c11 : 0 ≤ (ji10)
       ·rw [if_pos c11] at H
        have c11b0 : decide (0 ≤ (ji10)) = true := decide_eq_true c11
        clear c11
        by_cases c12 : (ji10) < (a0.size : Int)
        ·rw [if_pos c12] at H
         have c12b0 : decide ((ji10) < (a0.size : Int)) = true := decide_eq_true c12
         clear c12
         by_cases c14 : (bt a0 (ji10)) = 0
         ·rw [if_pos c14] at H
          have c14b0 : ((bt a0 (ji10)) == 0) = true := beq_iff_eq.mpr c14
          have c14b1 : ((bt a0 (ji10)) != 0) = false := bne_eq_false_iff_eq.mpr c14
          clear c14
          simp only [Option.some.injEq, Prod.mk.injEq] at H
          obtain ⟨rfl, rfl, rfl⟩ := H
          have p13 : 0 ≤ ((ji10) : Int) := of_decide_eq_true (by first | (with_reducible assumption) | assumption)
          have q13 : (ji10) < (a0.size : Int) := of_decide_eq_true (by first | (with_reducible assumption) | assumption)
          have hx13 := bt_at a0 (ji10)
          replace p13 := eq_true p13
          replace q13 := eq_true q13
          go_wp2
          go_ret3
          exact ⟨by first | rfl | (simp [errW_none, errW_some] <;> rfl) | (simp only [← hji10]; first | rfl | (simp [errW_none, errW_some] <;> rfl)) | (simp [*, errW_none, errW_some] <;> rfl), by repeat (first | (with_reducible first | exact HB.out | apply below_alloc | apply pw_below_drewN | apply below_drew1) | exact HB.out)⟩
         ·rw [if_neg c14] at H
          have c14b0 : ((bt a0 (ji10)) == 0) = false := beq_eq_false_iff_ne.mpr c14
          have c14b1 : ((bt a0 (ji10)) != 0) = true := bne_iff_ne.mpr c14
          have H' := Aside0.mk H
          clear H
          have p13 : 0 ≤ ((ji10) : Int) := of_decide_eq_true (by first | (with_reducible assumption) | assumption)
          have q13 : (ji10) < (a0.size : Int) := of_decide_eq_true (by first | (with_reducible assumption) | assumption)
          have hx13 := bt_at a0 (ji10)
          replace p13 := eq_true p13
          replace q13 := eq_true q13
          go_wp2
          go_meet
          case rel => exact ⟨_, H', ⟨by have := HJ4.out; first | omega | exact Nat.le_refl _⟩, ⟨by repeat (first | (with_reducible first | exact HB.out | apply below_alloc | apply pw_below_drewN | apply below_drew1) | exact HB.out)⟩⟩
        ·rw [if_neg c12] at H
         exact absurd H (by simp)
       ·rw [if_neg c11] at H
        exact absurd H (by simp)
      ·rw [if_neg c9] at H
       have c9b0 : decide (1 < t101) = false := decide_eq_false c9
       clear c9
       have H' := Aside0.mk H
       clear H
       go_wp2
       go_meet
       case rel => exact ⟨_, H', ⟨by have := HJ4.out; first | omega | exact Nat.le_refl _⟩, ⟨by repeat (first | (with_reducible first | exact HB.out | apply below_alloc | apply pw_below_drewN | apply below_drew1) | exact HB.out)⟩⟩
 case rest =>
  clear HC3
  try clear c1
  try clear p1
  try clear q1
  try clear hx1
  try clear p2
  try clear c5
  try clear c6
  try clear c6b0
  try clear c6b1
  try clear p6
  try clear c7
  try clear c8
  try clear c8b0
  try clear c8b1
  try clear c9
  try clear c9b0
  try clear c11
  try clear c11b0
  try clear c12
  try clear c12b0
  try clear p13
  try clear q13
  try clear hx13
  try clear c14
  try clear c14b0
  try clear c14b1
  try clear p13
  try clear p2
  try clear q13
  obtain ⟨kq, HA, HJ2, HB⟩ := hcut
  cases kq with
  | zero => cases (show (none : Option _) = some _ from HA.out)
  | succ kj2 =>
   have H := HA.out
   clear HA
   simp only [varint_Take.j1] at H
   have H' := Aside0.mk H
   clear H
   go_wp2
   go_loopg [6, 7] kj2 (fun kq v6 v7 w' => ∃ (x6_2 : Int) (x7_2 : Int), v6 = .int .i64 x6_2 ∧ v7 = .int .i64 x7_2 ∧ Aside0 (varint_Take.l0 kq a0 t101 x6_2 x7_2 = some (r1, r2, r3)) ∧ Aside0 (kq ≤ kj2) ∧ Aside0 (Below w.heap.size w w'))
   case atStart => exact ⟨(0), (wrap64 (t101 - 1)), (by first | rfl | (simp; done) | (simp [*]; done)), (by first | rfl | (simp; done) | (simp [*]; done)), H', ⟨Nat.le_refl _⟩, ⟨by repeat (first | (with_reducible first | exact HB.out | apply below_alloc | apply pw_below_drewN | apply below_drew1) | exact HB.out)⟩⟩
   case round =>
    clear H'
    try clear c1
    try clear p1
    try clear q1
    try clear hx1
    try clear p2
    try clear c5
    try clear c6
    try clear c6b0
    try clear c6b1
    try clear p6
    try clear c7
    try clear c8
    try clear c8b0
    try clear c8b1
    try clear c9
    try clear c9b0
    try clear c11
    try clear c11b0
    try clear c12
    try clear c12b0
    try clear p13
    try clear q13
    try clear hx13
    try clear c14
    try clear c14b0
    try clear c14b1
    try clear p1
    try clear p13
    try clear p2
    try clear p6
    try clear q1
    try clear q13
    obtain ⟨x6_2, x7_2, rfl, rfl, HA, HK2, HB⟩ := hrel
    cases gk with
    | zero => cases (show (none : Option _) = some _ from HA.out)
    | succ k2 =>
     have H := HA.out
     clear HA
     simp only [varint_Take.l0] at H
     by_cases c15 : x7_2 ≥ 0
     ·rw [if_pos c15] at H
      have c15b0 : decide (0 ≤ x7_2) = true := decide_eq_true c15
      clear c15
      by_cases c16 : 0 ≤ x7_2
      ·rw [if_pos c16] at H
       have c16b0 : decide (0 ≤ x7_2) = true := decide_eq_true c16
       clear c16
       by_cases c17 : x7_2 < (a0.size : Int)
       ·rw [if_pos c17] at H
        have c17b0 : decide (x7_2 < (a0.size : Int)) = true := decide_eq_true c17
        clear c17
        have H' := Aside0.mk H
        clear H
        have p18 : 0 ≤ (x7_2 : Int) := of_decide_eq_true (by first | (with_reducible assumption) | assumption)
        have q18 : x7_2 < (a0.size : Int) := of_decide_eq_true (by first | (with_reducible assumption) | assumption)
        have hx18 := bt_at a0 x7_2
        replace p18 := eq_true p18
        replace q18 := eq_true q18
        go_wp2
        go_roundg k2
        case measure => have := HJ2.out; have := HK2.out; omega
        case rel => exact ⟨(Go.bits .or .i64 (wrap64 (x6_2 * 128)) (wrap64 (Go.bits .andNot .u8 (bt a0 x7_2) 128))), (wrap64 (x7_2 - 1)), (by first | rfl | (simp; done) | (simp [*]; done)), (by first | rfl | (simp; done) | (simp [*]; done)), H', ⟨by have := HJ2.out; have := HK2.out; omega⟩, ⟨by repeat (first | (with_reducible first | exact HB.out | apply below_alloc | apply pw_below_drewN | apply below_drew1) | exact HB.out)⟩⟩
       ·rw [if_neg c17] at H
        exact absurd H (by simp)
      ·rw [if_neg c16] at H
       exact absurd H (by simp)
     ·rw [if_neg c15] at H
      have c15b0 : decide (0 ≤ x7_2) = false := decide_eq_false c15
      clear c15
      by_cases c19 : x6_2 > 9007199254740992
      ·rw [if_pos c19] at H
       have c19b0 : decide (9007199254740992 < x6_2) = true := decide_eq_true c19
       clear c19
       simp only [Option.some.injEq, Prod.mk.injEq] at H
       obtain ⟨rfl, rfl, rfl⟩ := H
       go_wp2
       go_ret3
       exact ⟨by first | rfl | (simp [errW_none, errW_some] <;> rfl) | (simp [*, errW_none, errW_some] <;> rfl), by repeat (first | (with_reducible first | exact HB.out | apply below_alloc | apply pw_below_drewN | apply below_drew1) | exact HB.out)⟩
      ·rw [if_neg c19] at H
       have c19b0 : decide (9007199254740992 < x6_2) = false := decide_eq_false c19
       clear c19
       simp only [Option.some.injEq, Prod.mk.injEq] at H
       obtain ⟨rfl, rfl, rfl⟩ := H
       go_wp2
       go_ret3
       exact ⟨by first | rfl | (simp [errW_none, errW_some] <;> rfl) | (simp [*, errW_none, errW_some] <;> rfl), by repeat (first | (with_reducible first | exact HB.out | apply below_alloc | apply pw_below_drewN | apply below_drew1) | exact HB.out)⟩

-- NOT PRINTED: function 22 (frame_of)

/-! ### frame_Right: function 14 -/
-- HAND rounds=0 making=1
set_option maxHeartbeats 4000000 in
theorem of_one (w : World) : Calls Try.prog 22 #[.int .i64 1] w fun e w' => e = .returned (.iface 55 (.agg #[])) ∧ w' = w := by
 go_enter Try.func22, Try.ntmps22
 go_wp2
 go_ret
 exact ⟨rfl, rfl⟩
set_option maxHeartbeats 4000000 in
theorem of_two (w : World) : Calls Try.prog 22 #[.int .i64 2] w fun e w' => e = .returned (.iface 60 (.agg #[])) ∧ w' = w := by
 go_enter Try.func22, Try.ntmps22
 go_wp2
 go_ret
 exact ⟨rfl, rfl⟩
set_option maxHeartbeats 4000000 in
theorem of_none (v : Int) (h1 : (v == 1) = false) (h2 : (v == 2) = false) (w : World) : Calls Try.prog 22 #[.int .i64 v] w fun e w' => e = .returned .nilIface ∧ w' = w := by
 go_enter Try.func22, Try.ntmps22
 go_wp2
 go_ret
 exact ⟨rfl, rfl⟩
set_option maxHeartbeats 4000000 in
set_option maxRecDepth 100000 in
theorem right_none (v : Int) (h1 : (v == 1) = false) (h2 : (v == 2) = false) (k g : Int) (d : ByteArray) (w : World) :
  Calls Try.prog 14 #[.int .i64 v, .agg #[.int .i64 k, .int .i64 g, .string d]] w fun e w' => e = .returned (.bool false) ∧ Below w.heap.size w w' := by
 have hta1 : ∀ W : World, (Instr.typeAssert (.iface 55 (.agg #[])) 48 55 true).run Try.prog W = .ok (.tuple #[.agg #[], .bool true]) W := fun W => by rfl
 have hta2 : ∀ W : World, (Instr.typeAssert (.iface 60 (.agg #[])) 48 55 true).run Try.prog W = .ok (.tuple #[.agg #[], .bool false]) W := fun W => by rfl
 go_enter Try.func14, Try.ntmps14
 go_wp2_with (first | (go_at_call 22; (refine (of_none v h1 h2 _).mono ?_); rintro e w1 ⟨rfl, rfl⟩))
 go_ret
 exact ⟨rfl, by repeat (first | exact Below.refl _ _ | (refine Below.alloc ?_ (by simp <;> omega) _) | (refine Below.setCell ?_ (by simp <;> omega) _))⟩
set_option maxHeartbeats 4000000 in
set_option maxRecDepth 100000 in
theorem right_one_1 (k g : Int) (d : ByteArray) (w : World) (c1 : k < 1) :
  Calls Try.prog 14 #[.int .i64 1, .agg #[.int .i64 k, .int .i64 g, .string d]] w fun e w' => e = .returned (.bool false) ∧ Below w.heap.size w w' := by
 have hta1 : ∀ W : World, (Instr.typeAssert (.iface 55 (.agg #[])) 48 55 true).run Try.prog W = .ok (.tuple #[.agg #[], .bool true]) W := fun W => by rfl
 have hta2 : ∀ W : World, (Instr.typeAssert (.iface 60 (.agg #[])) 48 55 true).run Try.prog W = .ok (.tuple #[.agg #[], .bool false]) W := fun W => by rfl
 go_enter Try.func14, Try.ntmps14
 go_wp2_with (first | (go_at_call 22; (refine (of_one _).mono ?_); rintro e w1 ⟨rfl, rfl⟩))
 go_ret
 exact ⟨rfl, by repeat (first | exact Below.refl _ _ | (refine Below.alloc ?_ (by simp <;> omega) _) | (refine Below.setCell ?_ (by simp <;> omega) _))⟩
set_option maxHeartbeats 4000000 in
set_option maxRecDepth 100000 in
theorem right_one_2 (k g : Int) (d : ByteArray) (w : World) (c1 : ¬ k < 1) (c2 : k > 255) :
  Calls Try.prog 14 #[.int .i64 1, .agg #[.int .i64 k, .int .i64 g, .string d]] w fun e w' => e = .returned (.bool false) ∧ Below w.heap.size w w' := by
 have hta1 : ∀ W : World, (Instr.typeAssert (.iface 55 (.agg #[])) 48 55 true).run Try.prog W = .ok (.tuple #[.agg #[], .bool true]) W := fun W => by rfl
 have hta2 : ∀ W : World, (Instr.typeAssert (.iface 60 (.agg #[])) 48 55 true).run Try.prog W = .ok (.tuple #[.agg #[], .bool false]) W := fun W => by rfl
 go_enter Try.func14, Try.ntmps14
 go_wp2_with (first | (go_at_call 22; (refine (of_one _).mono ?_); rintro e w1 ⟨rfl, rfl⟩))
 go_ret
 exact ⟨rfl, by repeat (first | exact Below.refl _ _ | (refine Below.alloc ?_ (by simp <;> omega) _) | (refine Below.setCell ?_ (by simp <;> omega) _))⟩
set_option maxHeartbeats 4000000 in
set_option maxRecDepth 100000 in
theorem right_one_3 (k g : Int) (d : ByteArray) (w : World) (c1 : ¬ k < 1) (c2 : ¬ k > 255) (c3 : g < 0) :
  Calls Try.prog 14 #[.int .i64 1, .agg #[.int .i64 k, .int .i64 g, .string d]] w fun e w' => e = .returned (.bool false) ∧ Below w.heap.size w w' := by
 have hta1 : ∀ W : World, (Instr.typeAssert (.iface 55 (.agg #[])) 48 55 true).run Try.prog W = .ok (.tuple #[.agg #[], .bool true]) W := fun W => by rfl
 have hta2 : ∀ W : World, (Instr.typeAssert (.iface 60 (.agg #[])) 48 55 true).run Try.prog W = .ok (.tuple #[.agg #[], .bool false]) W := fun W => by rfl
 go_enter Try.func14, Try.ntmps14
 go_wp2_with (first | (go_at_call 22; (refine (of_one _).mono ?_); rintro e w1 ⟨rfl, rfl⟩))
 go_ret
 exact ⟨rfl, by repeat (first | exact Below.refl _ _ | (refine Below.alloc ?_ (by simp <;> omega) _) | (refine Below.setCell ?_ (by simp <;> omega) _))⟩
set_option maxHeartbeats 4000000 in
set_option maxRecDepth 100000 in
theorem right_one_4 (k g : Int) (d : ByteArray) (w : World) (c1 : ¬ k < 1) (c2 : ¬ k > 255) (c3 : ¬ g < 0) (c4 : g > 255) :
  Calls Try.prog 14 #[.int .i64 1, .agg #[.int .i64 k, .int .i64 g, .string d]] w fun e w' => e = .returned (.bool false) ∧ Below w.heap.size w w' := by
 have hta1 : ∀ W : World, (Instr.typeAssert (.iface 55 (.agg #[])) 48 55 true).run Try.prog W = .ok (.tuple #[.agg #[], .bool true]) W := fun W => by rfl
 have hta2 : ∀ W : World, (Instr.typeAssert (.iface 60 (.agg #[])) 48 55 true).run Try.prog W = .ok (.tuple #[.agg #[], .bool false]) W := fun W => by rfl
 go_enter Try.func14, Try.ntmps14
 go_wp2_with (first | (go_at_call 22; (refine (of_one _).mono ?_); rintro e w1 ⟨rfl, rfl⟩))
 go_ret
 exact ⟨rfl, by repeat (first | exact Below.refl _ _ | (refine Below.alloc ?_ (by simp <;> omega) _) | (refine Below.setCell ?_ (by simp <;> omega) _))⟩
set_option maxHeartbeats 4000000 in
set_option maxRecDepth 100000 in
theorem right_one_5 (k g : Int) (d : ByteArray) (w : World) (c1 : ¬ k < 1) (c2 : ¬ k > 255) (c3 : ¬ g < 0) (c4 : ¬ g > 255) (c5 : (d.size : Int) > 4000) :
  Calls Try.prog 14 #[.int .i64 1, .agg #[.int .i64 k, .int .i64 g, .string d]] w fun e w' => e = .returned (.bool false) ∧ Below w.heap.size w w' := by
 have hta1 : ∀ W : World, (Instr.typeAssert (.iface 55 (.agg #[])) 48 55 true).run Try.prog W = .ok (.tuple #[.agg #[], .bool true]) W := fun W => by rfl
 have hta2 : ∀ W : World, (Instr.typeAssert (.iface 60 (.agg #[])) 48 55 true).run Try.prog W = .ok (.tuple #[.agg #[], .bool false]) W := fun W => by rfl
 go_enter Try.func14, Try.ntmps14
 go_wp2_with (first | (go_at_call 22; (refine (of_one _).mono ?_); rintro e w1 ⟨rfl, rfl⟩))
 go_ret
 exact ⟨rfl, by repeat (first | exact Below.refl _ _ | (refine Below.alloc ?_ (by simp <;> omega) _) | (refine Below.setCell ?_ (by simp <;> omega) _))⟩
set_option maxHeartbeats 4000000 in
set_option maxRecDepth 100000 in
theorem right_one_6 (k g : Int) (d : ByteArray) (w : World) (c1 : ¬ k < 1) (c2 : ¬ k > 255) (c3 : ¬ g < 0) (c4 : ¬ g > 255) (c5 : ¬ (d.size : Int) > 4000) (c6 : ¬ k ≤ 9) :
  Calls Try.prog 14 #[.int .i64 1, .agg #[.int .i64 k, .int .i64 g, .string d]] w fun e w' => e = .returned (.bool false) ∧ Below w.heap.size w w' := by
 have hta1 : ∀ W : World, (Instr.typeAssert (.iface 55 (.agg #[])) 48 55 true).run Try.prog W = .ok (.tuple #[.agg #[], .bool true]) W := fun W => by rfl
 have hta2 : ∀ W : World, (Instr.typeAssert (.iface 60 (.agg #[])) 48 55 true).run Try.prog W = .ok (.tuple #[.agg #[], .bool false]) W := fun W => by rfl
 go_enter Try.func14, Try.ntmps14
 go_wp2_with (first | (go_at_call 22; (refine (of_one _).mono ?_); rintro e w1 ⟨rfl, rfl⟩))
 go_ret
 exact ⟨rfl, by repeat (first | exact Below.refl _ _ | (refine Below.alloc ?_ (by simp <;> omega) _) | (refine Below.setCell ?_ (by simp <;> omega) _))⟩
set_option maxHeartbeats 4000000 in
set_option maxRecDepth 100000 in
theorem right_one_7 (k g : Int) (d : ByteArray) (w : World) (c1 : ¬ k < 1) (c2 : ¬ k > 255) (c3 : ¬ g < 0) (c4 : ¬ g > 255) (c5 : ¬ (d.size : Int) > 4000) (c6 : k ≤ 9) (c7 : (g == 0) = false) :
  Calls Try.prog 14 #[.int .i64 1, .agg #[.int .i64 k, .int .i64 g, .string d]] w fun e w' => e = .returned (.bool false) ∧ Below w.heap.size w w' := by
 have hta1 : ∀ W : World, (Instr.typeAssert (.iface 55 (.agg #[])) 48 55 true).run Try.prog W = .ok (.tuple #[.agg #[], .bool true]) W := fun W => by rfl
 have hta2 : ∀ W : World, (Instr.typeAssert (.iface 60 (.agg #[])) 48 55 true).run Try.prog W = .ok (.tuple #[.agg #[], .bool false]) W := fun W => by rfl
 go_enter Try.func14, Try.ntmps14
 go_wp2_with (first | (go_at_call 22; (refine (of_one _).mono ?_); rintro e w1 ⟨rfl, rfl⟩))
 go_ret
 exact ⟨rfl, by repeat (first | exact Below.refl _ _ | (refine Below.alloc ?_ (by simp <;> omega) _) | (refine Below.setCell ?_ (by simp <;> omega) _))⟩
set_option maxHeartbeats 4000000 in
set_option maxRecDepth 100000 in
theorem right_one_ok (k g : Int) (d : ByteArray) (w : World) (c1 : ¬ k < 1) (c2 : ¬ k > 255) (c3 : ¬ g < 0) (c4 : ¬ g > 255) (c5 : ¬ (d.size : Int) > 4000) (c6 : k ≤ 9) (c7 : (g == 0) = true) :
  Calls Try.prog 14 #[.int .i64 1, .agg #[.int .i64 k, .int .i64 g, .string d]] w fun e w' => e = .returned (.bool true) ∧ Below w.heap.size w w' := by
 have hta1 : ∀ W : World, (Instr.typeAssert (.iface 55 (.agg #[])) 48 55 true).run Try.prog W = .ok (.tuple #[.agg #[], .bool true]) W := fun W => by rfl
 have hta2 : ∀ W : World, (Instr.typeAssert (.iface 60 (.agg #[])) 48 55 true).run Try.prog W = .ok (.tuple #[.agg #[], .bool false]) W := fun W => by rfl
 go_enter Try.func14, Try.ntmps14
 go_wp2_with (first | (go_at_call 22; (refine (of_one _).mono ?_); rintro e w1 ⟨rfl, rfl⟩))
 go_ret
 exact ⟨rfl, by repeat (first | exact Below.refl _ _ | (refine Below.alloc ?_ (by simp <;> omega) _) | (refine Below.setCell ?_ (by simp <;> omega) _))⟩
set_option maxHeartbeats 4000000 in
set_option maxRecDepth 100000 in
theorem right_two_1 (k g : Int) (d : ByteArray) (w : World) (c1 : k < 1) :
  Calls Try.prog 14 #[.int .i64 2, .agg #[.int .i64 k, .int .i64 g, .string d]] w fun e w' => e = .returned (.bool false) ∧ Below w.heap.size w w' := by
 have hta1 : ∀ W : World, (Instr.typeAssert (.iface 55 (.agg #[])) 48 55 true).run Try.prog W = .ok (.tuple #[.agg #[], .bool true]) W := fun W => by rfl
 have hta2 : ∀ W : World, (Instr.typeAssert (.iface 60 (.agg #[])) 48 55 true).run Try.prog W = .ok (.tuple #[.agg #[], .bool false]) W := fun W => by rfl
 go_enter Try.func14, Try.ntmps14
 go_wp2_with (first | (go_at_call 22; (refine (of_two _).mono ?_); rintro e w1 ⟨rfl, rfl⟩))
 go_ret
 exact ⟨rfl, by repeat (first | exact Below.refl _ _ | (refine Below.alloc ?_ (by simp <;> omega) _) | (refine Below.setCell ?_ (by simp <;> omega) _))⟩
set_option maxHeartbeats 4000000 in
set_option maxRecDepth 100000 in
theorem right_two_2 (k g : Int) (d : ByteArray) (w : World) (c1 : ¬ k < 1) (c2 : k > 255) :
  Calls Try.prog 14 #[.int .i64 2, .agg #[.int .i64 k, .int .i64 g, .string d]] w fun e w' => e = .returned (.bool false) ∧ Below w.heap.size w w' := by
 have hta1 : ∀ W : World, (Instr.typeAssert (.iface 55 (.agg #[])) 48 55 true).run Try.prog W = .ok (.tuple #[.agg #[], .bool true]) W := fun W => by rfl
 have hta2 : ∀ W : World, (Instr.typeAssert (.iface 60 (.agg #[])) 48 55 true).run Try.prog W = .ok (.tuple #[.agg #[], .bool false]) W := fun W => by rfl
 go_enter Try.func14, Try.ntmps14
 go_wp2_with (first | (go_at_call 22; (refine (of_two _).mono ?_); rintro e w1 ⟨rfl, rfl⟩))
 go_ret
 exact ⟨rfl, by repeat (first | exact Below.refl _ _ | (refine Below.alloc ?_ (by simp <;> omega) _) | (refine Below.setCell ?_ (by simp <;> omega) _))⟩
set_option maxHeartbeats 4000000 in
set_option maxRecDepth 100000 in
theorem right_two_3 (k g : Int) (d : ByteArray) (w : World) (c1 : ¬ k < 1) (c2 : ¬ k > 255) (c3 : g < 0) :
  Calls Try.prog 14 #[.int .i64 2, .agg #[.int .i64 k, .int .i64 g, .string d]] w fun e w' => e = .returned (.bool false) ∧ Below w.heap.size w w' := by
 have hta1 : ∀ W : World, (Instr.typeAssert (.iface 55 (.agg #[])) 48 55 true).run Try.prog W = .ok (.tuple #[.agg #[], .bool true]) W := fun W => by rfl
 have hta2 : ∀ W : World, (Instr.typeAssert (.iface 60 (.agg #[])) 48 55 true).run Try.prog W = .ok (.tuple #[.agg #[], .bool false]) W := fun W => by rfl
 go_enter Try.func14, Try.ntmps14
 go_wp2_with (first | (go_at_call 22; (refine (of_two _).mono ?_); rintro e w1 ⟨rfl, rfl⟩))
 go_ret
 exact ⟨rfl, by repeat (first | exact Below.refl _ _ | (refine Below.alloc ?_ (by simp <;> omega) _) | (refine Below.setCell ?_ (by simp <;> omega) _))⟩
set_option maxHeartbeats 4000000 in
set_option maxRecDepth 100000 in
theorem right_two_4 (k g : Int) (d : ByteArray) (w : World) (c1 : ¬ k < 1) (c2 : ¬ k > 255) (c3 : ¬ g < 0) (c4 : g > 255) :
  Calls Try.prog 14 #[.int .i64 2, .agg #[.int .i64 k, .int .i64 g, .string d]] w fun e w' => e = .returned (.bool false) ∧ Below w.heap.size w w' := by
 have hta1 : ∀ W : World, (Instr.typeAssert (.iface 55 (.agg #[])) 48 55 true).run Try.prog W = .ok (.tuple #[.agg #[], .bool true]) W := fun W => by rfl
 have hta2 : ∀ W : World, (Instr.typeAssert (.iface 60 (.agg #[])) 48 55 true).run Try.prog W = .ok (.tuple #[.agg #[], .bool false]) W := fun W => by rfl
 go_enter Try.func14, Try.ntmps14
 go_wp2_with (first | (go_at_call 22; (refine (of_two _).mono ?_); rintro e w1 ⟨rfl, rfl⟩))
 go_ret
 exact ⟨rfl, by repeat (first | exact Below.refl _ _ | (refine Below.alloc ?_ (by simp <;> omega) _) | (refine Below.setCell ?_ (by simp <;> omega) _))⟩
set_option maxHeartbeats 4000000 in
set_option maxRecDepth 100000 in
theorem right_two_5 (k g : Int) (d : ByteArray) (w : World) (c1 : ¬ k < 1) (c2 : ¬ k > 255) (c3 : ¬ g < 0) (c4 : ¬ g > 255) (c5 : (d.size : Int) > 4000) :
  Calls Try.prog 14 #[.int .i64 2, .agg #[.int .i64 k, .int .i64 g, .string d]] w fun e w' => e = .returned (.bool false) ∧ Below w.heap.size w w' := by
 have hta1 : ∀ W : World, (Instr.typeAssert (.iface 55 (.agg #[])) 48 55 true).run Try.prog W = .ok (.tuple #[.agg #[], .bool true]) W := fun W => by rfl
 have hta2 : ∀ W : World, (Instr.typeAssert (.iface 60 (.agg #[])) 48 55 true).run Try.prog W = .ok (.tuple #[.agg #[], .bool false]) W := fun W => by rfl
 go_enter Try.func14, Try.ntmps14
 go_wp2_with (first | (go_at_call 22; (refine (of_two _).mono ?_); rintro e w1 ⟨rfl, rfl⟩))
 go_ret
 exact ⟨rfl, by repeat (first | exact Below.refl _ _ | (refine Below.alloc ?_ (by simp <;> omega) _) | (refine Below.setCell ?_ (by simp <;> omega) _))⟩
set_option maxHeartbeats 4000000 in
set_option maxRecDepth 100000 in
theorem right_two_ok (k g : Int) (d : ByteArray) (w : World) (c1 : ¬ k < 1) (c2 : ¬ k > 255) (c3 : ¬ g < 0) (c4 : ¬ g > 255) (c5 : ¬ (d.size : Int) > 4000) :
  Calls Try.prog 14 #[.int .i64 2, .agg #[.int .i64 k, .int .i64 g, .string d]] w fun e w' => e = .returned (.bool true) ∧ Below w.heap.size w w' := by
 have hta1 : ∀ W : World, (Instr.typeAssert (.iface 55 (.agg #[])) 48 55 true).run Try.prog W = .ok (.tuple #[.agg #[], .bool true]) W := fun W => by rfl
 have hta2 : ∀ W : World, (Instr.typeAssert (.iface 60 (.agg #[])) 48 55 true).run Try.prog W = .ok (.tuple #[.agg #[], .bool false]) W := fun W => by rfl
 go_enter Try.func14, Try.ntmps14
 go_wp2_with (first | (go_at_call 22; (refine (of_two _).mono ?_); rintro e w1 ⟨rfl, rfl⟩))
 go_ret
 exact ⟨rfl, by repeat (first | exact Below.refl _ _ | (refine Below.alloc ?_ (by simp <;> omega) _) | (refine Below.setCell ?_ (by simp <;> omega) _))⟩
/-- A frame may be, by a version. -/
def may (v k g : Int) (n : Nat) : Prop := (v = 1 ∨ v = 2) ∧ 1 ≤ k ∧ k ≤ 255 ∧ 0 ≤ g ∧ g ≤ 255 ∧ n ≤ 4000 ∧ (v = 2 ∨ k ≤ 9 ∧ g = 0)
instance (v k g : Int) (n : Nat) : Decidable (may v k g n) := by unfold may; infer_instance
def frame_Right.f (a0 : Int) (a1_0 : Int) (a1_1 : Int) (a1_2 : ByteArray) : Option Bool := some (decide (may a0 a1_0 a1_1 a1_2.size))
theorem frame_Right.calls (a0 : Int) (a1_0 : Int) (a1_1 : Int) (a1_2 : ByteArray) (r : Bool) (w : World) (h : frame_Right.f a0 a1_0 a1_1 a1_2 = some r) :
  Calls Try.prog 14 #[.int .i64 a0, .agg #[.int .i64 a1_0, .int .i64 a1_1, .string a1_2]] w fun e w' => e = .returned (.bool r) ∧ Below w.heap.size w w' := by
 have e : decide (may a0 a1_0 a1_1 a1_2.size) = r := Option.some.inj h
 clear h
 have no : ¬ may a0 a1_0 a1_1 a1_2.size → false = r := fun hn => by rw [← e, decide_eq_false hn]
 have yes : may a0 a1_0 a1_1 a1_2.size → true = r := fun hn => by rw [← e, decide_eq_true hn]
 clear e
 unfold may at no yes
 by_cases h1 : a0 = 1
 ·subst h1
  by_cases c1 : a1_0 < 1
  ·rw [← no (by omega)]; exact right_one_1 a1_0 a1_1 a1_2 w c1
  by_cases c2 : a1_0 > 255
  ·rw [← no (by omega)]; exact right_one_2 a1_0 a1_1 a1_2 w c1 c2
  by_cases c3 : a1_1 < 0
  ·rw [← no (by omega)]; exact right_one_3 a1_0 a1_1 a1_2 w c1 c2 c3
  by_cases c4 : a1_1 > 255
  ·rw [← no (by omega)]; exact right_one_4 a1_0 a1_1 a1_2 w c1 c2 c3 c4
  by_cases c5 : (a1_2.size : Int) > 4000
  ·rw [← no (by omega)]; exact right_one_5 a1_0 a1_1 a1_2 w c1 c2 c3 c4 c5
  by_cases c6 : a1_0 ≤ 9
  ·by_cases c7 : a1_1 = 0
   ·rw [← yes (by omega)]; exact right_one_ok a1_0 a1_1 a1_2 w c1 c2 c3 c4 c5 c6 (by simpa using c7)
   ·rw [← no (by omega)]; exact right_one_7 a1_0 a1_1 a1_2 w c1 c2 c3 c4 c5 c6 (by simpa using c7)
  ·rw [← no (by omega)]; exact right_one_6 a1_0 a1_1 a1_2 w c1 c2 c3 c4 c5 c6
 ·by_cases h2 : a0 = 2
  ·subst h2
   by_cases c1 : a1_0 < 1
   ·rw [← no (by omega)]; exact right_two_1 a1_0 a1_1 a1_2 w c1
   by_cases c2 : a1_0 > 255
   ·rw [← no (by omega)]; exact right_two_2 a1_0 a1_1 a1_2 w c1 c2
   by_cases c3 : a1_1 < 0
   ·rw [← no (by omega)]; exact right_two_3 a1_0 a1_1 a1_2 w c1 c2 c3
   by_cases c4 : a1_1 > 255
   ·rw [← no (by omega)]; exact right_two_4 a1_0 a1_1 a1_2 w c1 c2 c3 c4
   by_cases c5 : (a1_2.size : Int) > 4000
   ·rw [← no (by omega)]; exact right_two_5 a1_0 a1_1 a1_2 w c1 c2 c3 c4 c5
   rw [← yes (by omega)]; exact right_two_ok a1_0 a1_1 a1_2 w c1 c2 c3 c4 c5
  ·rw [← no (by omega)]; exact right_none a0 (by simpa using h1) (by simpa using h2) a1_0 a1_1 a1_2 w

end Go.Proofs.Ytmicfaeloanffaa.PAll
