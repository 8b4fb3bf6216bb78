-- Written by a program of this session (wip/xpatch.py, wip/xprint.sh) for seat Ytmicfaeloanffaa.
import Derived.Test.YtmicfaeloanffaaPAllx0
import Derived.Test.YtmicfaeloanffaaPAllx2
namespace Go.Proofs.Ytmicfaeloanffaa.PAll
attribute [local go_sem high] Go.Proofs.Ytmicfaeloanffaa.Hand.unary_xor_u32
open Go.RowKit Go.Proofs.YtmicfaeloanffaaW.PrintWords Go.Proofs.YtmicfaeloanffaaW.PrintLast Go.Proofs.YtmicfaeloanffaaW.PrintMore
attribute [local go_sem] max2_int min2_int max_two min_two max_three min_three max_four min_four   -- for this text's walks alone
set_option linter.unusedVariables false
set_option linter.unusedSimpArgs false

/-! ### sum_Bytes: function 23 -/
mutual
def sum_Bytes.j0 : Nat → Int → Bool → Option (ByteArray)
 | 0, _, _ => none
 | k + 1, x0, x10 => if x10 = true then (some (⟨#[]⟩ : ByteArray)) else (if 4 ≤ 281474976710656 then ((some (List.replicate 4 0 : List Int)).bind fun y102 => (sum_Bytes.l0 k x0 y102 (y102.length : Int) 0)) else (none))
def sum_Bytes.l0 : Nat → Int → List Int → Int → Int → Option (ByteArray)
 | 0, _, _, _, _ => none
 | k + 1, x0, x3, x13, x14 => if x14 < x13 then (if 0 ≤ (wrap64 (8 * x14)) then (if 0 ≤ x14 then (if x14 < (x3.length : Int) then (sum_Bytes.l0 k x0 (x3.set (x14 : Int).toNat ((shr .i64 x0 (wrap64 (8 * x14))) % 256)) x13 (wrap64 (x14 + 1))) else (none)) else (none)) else (none)) else (some (strOfNums x3))
end
def sum_Bytes.f (k : Nat) (a0 : Int) : Option (ByteArray) := if a0 < 0 then (sum_Bytes.j0 k a0 true) else (sum_Bytes.j0 k a0 (decide (a0 > 4294967295)))
theorem sum_Bytes.mono_l : ∀ k, (∀ y0 y1, LeO (sum_Bytes.j0 k y0 y1) (sum_Bytes.j0 (k + 1) y0 y1)) ∧ (∀ y0 y1 y2 y3, LeO (sum_Bytes.l0 k y0 y1 y2 y3) (sum_Bytes.l0 (k + 1) y0 y1 y2 y3))
 | 0 => ⟨(fun _ _ r h => by cases (show (none : Option _) = some r from h)), (fun _ _ _ _ r h => by cases (show (none : Option _) = some r from h))⟩
 | k + 1 => by
  obtain ⟨ih0, ih1⟩ := sum_Bytes.mono_l k
  refine ⟨?_, ?_⟩
  ·intro y0 y1
   unfold sum_Bytes.j0
   repeat' first
   | (with_reducible exact ih0 _ _)
   | (with_reducible exact ih1 _ _ _ _)
   | (with_reducible exact LeO.refl _)
   | (with_reducible exact LeO.none _)
   | (with_reducible refine LeO.ite ?_ ?_)
   | (with_reducible refine LeO.bind ?_ (fun _ => ?_))
   | exact ih0 _ _
   | exact ih1 _ _ _ _
   | exact LeO.none _
   | refine LeO.ite ?_ ?_
   | refine LeO.bind ?_ (fun _ => ?_)
  ·intro y0 y1 y2 y3
   unfold sum_Bytes.l0
   repeat' first
   | (with_reducible exact ih0 _ _)
   | (with_reducible exact ih1 _ _ _ _)
   | (with_reducible exact LeO.refl _)
   | (with_reducible exact LeO.none _)
   | (with_reducible refine LeO.ite ?_ ?_)
   | (with_reducible refine LeO.bind ?_ (fun _ => ?_))
   | exact ih0 _ _
   | exact ih1 _ _ _ _
   | exact LeO.none _
   | refine LeO.ite ?_ ?_
   | refine LeO.bind ?_ (fun _ => ?_)
theorem sum_Bytes.mono : ∀ a0 k, LeO (sum_Bytes.f k a0) (sum_Bytes.f (k + 1) a0) := by
 intro a0 k
 obtain ⟨ih0, ih1⟩ := sum_Bytes.mono_l k
 unfold sum_Bytes.f
 repeat' first
   | (with_reducible exact ih0 _ _)
   | (with_reducible exact ih1 _ _ _ _)
   | (with_reducible exact LeO.refl _)
   | (with_reducible exact LeO.none _)
   | (with_reducible refine LeO.ite ?_ ?_)
   | (with_reducible refine LeO.bind ?_ (fun _ => ?_))
   | exact ih0 _ _
   | exact ih1 _ _ _ _
   | exact LeO.none _
   | refine LeO.ite ?_ ?_
   | refine LeO.bind ?_ (fun _ => ?_)
set_option maxHeartbeats 8000000 in
set_option maxRecDepth 100000 in
theorem sum_Bytes.calls (k : Nat) (a0 : Int) (r : ByteArray) (w : World) (h : sum_Bytes.f k a0 = some r) :
  Calls Try.prog 23 #[.int .i64 a0] w fun e w' => e = .returned (.string r) ∧ Below w.heap.size w w' := by
 have HB := Aside0.mk (Below.refl w.heap.size w)
 have H : (if a0 < 0 then (sum_Bytes.j0 k a0 true) else (sum_Bytes.j0 k a0 (decide (a0 > 4294967295)))) = some r := h
 clear h
 have HC2 := Aside0.mk H
 clear H
 go_enter Try.func23, Try.ntmps23
 go_upto_region 1 with (fail)
 go_cut [10] (fun v10 wc => ∃ (kq : Nat) (x10_1 : Bool), v10 = .bool x10_1 ∧ Aside0 (sum_Bytes.j0 kq a0 x10_1 = some r) ∧ Aside0 (kq ≤ k) ∧ Aside0 (Below w.heap.size w wc))
 case first =>
  have H := HC2.out
  clear HC2
  by_cases c3 : a0 < 0
  ·rw [if_pos c3] at H
   have c3b0 : decide (a0 < 0) = true := decide_eq_true c3
   clear c3
   (first | rw [c3b0] | (simp only [i64_w, i32_w]; rw [c3b0]) | skip)
   have H' := Aside0.mk H
   clear H
   go_wp2
   go_meet
   case rel => exact ⟨_, (true), (by first | rfl | (simp; done) | (simp [*]; done)), H', ⟨by first | omega | exact Nat.le_refl _⟩, ⟨by repeat (first | (with_reducible first | exact HB.out | apply below_alloc | apply pw_below_drewN | apply below_drew1) | exact HB.out)⟩⟩
  ·rw [if_neg c3] at H
   have c3b0 : decide (a0 < 0) = false := decide_eq_false c3
   clear c3
   (first | rw [c3b0] | (simp only [i64_w, i32_w]; rw [c3b0]) | skip)
   have H' := Aside0.mk H
   clear H
   go_wp2
   go_meet
   case rel => exact ⟨_, (decide (a0 > 4294967295)), (by first | rfl | (simp; done) | (simp [*]; done)), H', ⟨by first | omega | exact Nat.le_refl _⟩, ⟨by repeat (first | (with_reducible first | exact HB.out | apply below_alloc | apply pw_below_drewN | apply below_drew1) | exact HB.out)⟩⟩
 case rest =>
  clear HC2
  try clear c2
  try clear p2
  try clear c3
  try clear c3b0
  obtain ⟨kq, x10_1, rfl, HA, HJ1, HB⟩ := hcut
  cases kq with
  | zero => cases (show (none : Option _) = some _ from HA.out)
  | succ kj1 =>
   have H := HA.out
   clear HA
   simp only [sum_Bytes.j0] at H
   by_cases c4 : x10_1 = true
   ·subst c4
    have H1 : (some (⟨#[]⟩ : ByteArray)) = some r := by rw [if_pos rfl] at H; exact H
    clear H
    have H := H1
    clear H1
    obtain rfl := Option.some.inj H
    go_wp2
    go_ret
    exact ⟨by first | rfl | (simp [errW_none, errW_some] <;> rfl) | (simp [*, errW_none, errW_some] <;> rfl), by repeat (first | (with_reducible first | exact HB.out | apply below_alloc | apply pw_below_drewN | apply below_drew1) | exact HB.out)⟩
   ·replace c4 := Bool.eq_false_iff.mpr c4
    subst c4
    have H1 : (if 4 ≤ 281474976710656 then ((some (List.replicate 4 0 : List Int)).bind fun y102 => (sum_Bytes.l0 kj1 a0 y102 (y102.length : Int) 0)) else (none)) = some r := by rw [if_neg (show ¬ (false = true) by decide)] at H; exact H
    clear H
    have H := H1
    clear H1
    by_cases c5 : 4 ≤ 281474976710656
    ·rw [if_pos c5] at H
     have c5b0 := eq_true c5
     have c5b1 : decide (4 ≤ 281474976710656) = true := decide_eq_true c5
     clear c5
     obtain ⟨y102, hy102⟩ : ∃ y_ : List Int, y_ = (List.replicate 4 0) := ⟨_, rfl⟩
     replace H : (sum_Bytes.l0 kj1 a0 y102 (y102.length : Int) 0) = some r := by first | (rw [hy102]; with_reducible exact H) | (have H2_ := (Option.bind_some _ _).symm.trans H; rw [hy102]; with_reducible exact H2_) | (have H2_ := (Option.bind_some _ _).symm.trans H; with_reducible exact H2_) | with_reducible exact H | (rw [hy102]; exact H) | exact H
     have Ny102 := Aside0.mk hy102
     clear hy102
     have H' := Aside0.mk H
     clear H
     go_wp2_with (first | ((with_reducible refine gate_dst (N := 11) rfl ?_); refine Kd.R_make (Kd.int .u8) _ 5 rfl (N := 11) rfl 43 _ _ rfl 4 rfl rfl Try.underlying43 (.int .u8 0) 1 info5 rfl (by decide) (by omega) 0 (ok := fun _ => True) (okp := fun _ => True) rfl (fun _ hk => hk) trivial (by omega) (by omega) (Below.refl _ _) (Nat.le_refl _) ?_; intro v103 w6 ho7 hb hg_ hnew_; clear hg_ hnew_; (first | rw [← Ny102.out] at ho7 | (simp only [Int.reduceToNat] at ho7; rw [← Ny102.out] at ho7)); have n0_ := Aside0.mk (Kd.R_lower ho7 (below_size (by repeat (first | (with_reducible first | exact HB.out | apply below_alloc | apply pw_below_drewN | apply below_drew1) | exact HB.out)))); have n1_ := Aside0.mk (below_step (by repeat (first | (with_reducible first | exact HB.out | apply below_alloc | apply pw_below_drewN | apply below_drew1) | exact HB.out)) hb); clear HB; have HO104 := n0_; have HB := n1_; clear n0_ n1_; clear hb ho7; obtain ⟨Ao8, co8, eo8⟩ := Kd.R_slice HO104.out; subst eo8))
     go_loopg [14] kj1 (fun kq v14 w' => ∃ (x3_2 : List Int) (x14_2 : Int), v14 = .int .i64 x14_2 ∧ Aside0 (sum_Bytes.l0 kq a0 x3_2 (y102.length : Int) x14_2 = some r) ∧ Aside0 (kq ≤ kj1) ∧ Aside0 (Kd.R (Kd.int .u8) 5 w' w.heap.size (fun _ => True) (.slice Ao8 y102.length co8) x3_2) ∧ Aside0 (Below w.heap.size w w'))
     case atStart => exact ⟨(y102), (0), (by first | rfl | (simp; done) | (simp [*]; done)), H', ⟨Nat.le_refl _⟩, ⟨by (with_reducible repeat (first | apply Kd.R_alloc | apply Kd.R_drewN | apply Kd.R_drew)); exact HO104.out⟩, ⟨by repeat (first | (with_reducible first | exact HB.out | apply below_alloc | apply pw_below_drewN | apply below_drew1) | exact HB.out)⟩⟩
     case round =>
      clear H'
      try clear c2
      try clear p2
      try clear c3
      try clear c3b0
      try clear c4
      try clear c5
      try clear c5b0
      try clear c5b1
      try clear p2
      obtain ⟨x3_2, x14_2, rfl, HA, HK2, HO_3, HB⟩ := hrel
      have hl3_2 := (Kd.R_reads' HO_3.out).1
      rw [hl3_2] at HO_3
      (try simp only [hl3_2])
      cases gk with
      | zero => cases (show (none : Option _) = some _ from HA.out)
      | succ k2 =>
       have H := HA.out
       clear HA
       simp only [sum_Bytes.l0] at H
       by_cases c9 : x14_2 < (y102.length : Int)
       ·rw [if_pos c9] at H
        have c9b0 : decide (x14_2 < (y102.length : Int)) = true := decide_eq_true c9
        (try simp only [hl3_2] at c9b0)
        clear c9
        obtain ⟨ji10, hji10⟩ : ∃ j_ : Int, (wrap64 (8 * x14_2)) = j_ := ⟨_, rfl⟩
        replace H : (if 0 ≤ (ji10) then (if 0 ≤ x14_2 then (if x14_2 < (x3_2.length : Int) then (sum_Bytes.l0 k2 a0 (x3_2.set (x14_2 : Int).toNat ((shr .i64 a0 (ji10)) % 256)) (y102.length : Int) (wrap64 (x14_2 + 1))) else (none)) else (none)) else (none)) = some r := by first | (rw [hji10] at H; exact H) | (simp only [hji10] at H ⊢; exact H)
        have hji10w : (IntKind.i64.wrap (8 * x14_2)) = ji10 := (i64_w _).trans hji10
        by_cases c11 : 0 ≤ (ji10)
        ·rw [if_pos c11] at H
         have c11M : max ji10 0 = ji10 := Int.max_eq_left c11
         have c11b0 := eq_true c11
         have c11b1 : decide (0 ≤ (ji10)) = true := decide_eq_true c11
         clear c11
         obtain ⟨ji12, hji12⟩ : ∃ j_ : Int, (shr .i64 a0 (ji10)) = j_ := ⟨_, rfl⟩
         replace H : (if 0 ≤ x14_2 then (if x14_2 < (x3_2.length : Int) then (sum_Bytes.l0 k2 a0 (x3_2.set (x14_2 : Int).toNat ((ji12) % 256)) (y102.length : Int) (wrap64 (x14_2 + 1))) else (none)) else (none)) = some r := by first | (rw [hji12] at H; exact H) | (simp only [hji12] at H ⊢; exact H)
         have hji12_ : (a0 / 2 ^ min (ji10).toNat 64) = ji12 := hji12
         have hji12z : (ji10) ≤ 64 → (a0 / 2 ^ (ji10).toNat) = ji12 := shr_small hji12
         by_cases c13 : 0 ≤ x14_2
         ·rw [if_pos c13] at H
          have c13b0 : decide (0 ≤ x14_2) = true := decide_eq_true c13
          clear c13
          by_cases c14 : x14_2 < (x3_2.length : Int)
          ·rw [if_pos c14] at H
           have c14b0 : decide (x14_2 < (x3_2.length : Int)) = true := decide_eq_true c14
           (try simp only [hl3_2] at c14b0)
           clear c14
           obtain ⟨y105, hy105⟩ : ∃ y_ : List Int, y_ = (x3_2.set (x14_2 : Int).toNat ((ji12) % 256)) := ⟨_, rfl⟩
           replace H : (sum_Bytes.l0 k2 a0 y105 (y102.length : Int) (wrap64 (x14_2 + 1))) = some r := by first | (rw [hy105]; with_reducible exact H) | (have H2_ := (Option.bind_some _ _).symm.trans H; rw [hy105]; with_reducible exact H2_) | (have H2_ := (Option.bind_some _ _).symm.trans H; with_reducible exact H2_) | with_reducible exact H | (rw [hy105]; exact H) | exact H
           have Ny105 := Aside0.mk hy105
           clear hy105
           have H' := Aside0.mk H
           clear H
           have p15 : 0 ≤ (x14_2 : Int) := of_decide_eq_true (by first | (with_reducible assumption) | assumption)
           have q15 : (x14_2 : Int) < ((x3_2.length : Int) : Int) := of_decide_eq_true (by first | (with_reducible assumption) | assumption)
           obtain ⟨go15, co15, eo15, gb15, gl15, cl15, HG15⟩ := Kd.R_form HO_3.out (by omega)
           (first | cases eo15 | (injection eo15 with ea_ en_ ec_; (first | subst ea_ | (injection ea_ with ea_; subst ea_)); subst ec_; clear en_))
           have GB15 := Aside0.mk gb15
           have GG15 := Aside0.mk HG15
           clear gb15 gl15 HG15
           obtain ⟨hx15_0, hf15_0⟩ := Kd.R_celln 0 HO_3.out (x14_2 : Int) p15 q15
           replace p15 := eq_true p15
           replace q15 := eq_true q15
           have HP16 := Kd.R_putg HO_3.out (x14_2 : Int) ((ji12) % 256)
           go_wp2_with (first | ((with_reducible refine gate_store (t := 5) (p := 24) rfl ?_); refine store_event (t := 5) (p := 24) (v := ?vo_w17) (w1 := (wr.setCell ⟨go15, (x14_2 : Int).toNat, none⟩ (.int .u8 ((ji12) % 256)))) ?hg ?ho ?hn ?hr ?_; (case ho => rfl); (case hg => rfl); (case hn => rfl); (case hr => first | (go_simp; done) | (go_simp; rfl)); intro w17 hw; have hg : wr.grownBy w17 (some go15) := (by rw [hw]; exact HP16.2); have hp_ : Kd.R (Kd.int .u8) 5 w17 w.heap.size (fun _ => True) (.slice (some ⟨go15, 0, none⟩) x3_2.length co8) y105 := (by rw [hw, Ny105.out]; exact HP16.1); clear HP16; have n0_ := Aside0.mk (hp_); have n1_ := Aside0.mk ((by rw [hw]; exact below_set (HB.out) GB15.out : Below w.heap.size w w17)); clear HO_3; clear HB; have HO_3 := n0_; have HB := n1_; clear n0_ n1_; clear hg hw hp_))
           (try simp only [← hl3_2])
           go_roundg k2
           case measure => have := HJ1.out; have := HK2.out; omega
           case rel => exact ⟨(y105), (wrap64 (x14_2 + 1)), (by first | rfl | (simp; done) | (simp [*]; done)), H', ⟨by have := HJ1.out; have := HK2.out; omega⟩, ⟨by (try simp only [hl3_2]); (with_reducible repeat (first | apply Kd.R_alloc | apply Kd.R_drewN | apply Kd.R_drew)); exact HO_3.out⟩, ⟨by repeat (first | (with_reducible first | exact HB.out | apply below_alloc | apply pw_below_drewN | apply below_drew1) | exact HB.out)⟩⟩
          ·rw [if_neg c14] at H
           exact absurd H (by simp)
         ·rw [if_neg c13] at H
          exact absurd H (by simp)
        ·rw [if_neg c11] at H
         exact absurd H (by simp)
       ·rw [if_neg c9] at H
        have c9b0 : decide (x14_2 < (y102.length : Int)) = false := decide_eq_false c9
        (try simp only [hl3_2] at c9b0)
        clear c9
        obtain rfl := Option.some.inj H
        have hcv18 := own_string (P := Try.prog) Try.underlying43 Try.underlying5 Try.underlying9 (Kd.own_of_R HO_3.out)
        go_wp2
        go_ret
        exact ⟨by first | rfl | (simp [errW_none, errW_some] <;> rfl) | (simp [*, errW_none, errW_some] <;> rfl), by repeat (first | (with_reducible first | exact HB.out | apply below_alloc | apply pw_below_drewN | apply below_drew1) | exact HB.out)⟩
    ·rw [if_neg c5] at H
     exact absurd H (by simp)

/-! ### sum_Of: function 24 -/
mutual
def sum_Of.l0 : Nat → ByteArray → Int → Int → Int → Option (Int)
 | 0, _, _, _, _ => none
 | k + 1, x0, x3, x7, x8 => if x8 < x7 then (if 0 ≤ x8 then (if x8 < (x0.size : Int) then (sum_Of.l1 k x0 (Go.bits .xor .u32 x3 ((bt x0 x8) % 4294967296)) x7 x8 0) else (none)) else (none)) else (some (wrap64 (Go.bits .xor .u32 4294967295 x3)))
def sum_Of.l1 : Nat → ByteArray → Int → Int → Int → Int → Option (Int)
 | 0, _, _, _, _, _ => none
 | k + 1, x0, x3, x7, x8, x17 => if x17 < 8 then (sum_Of.l1 k x0 (Go.bits .xor .u32 (x3 / 2) ((3988292384 * (Go.bits .and .u32 x3 1)) % 4294967296)) x7 x8 (wrap64 (x17 + 1))) else (sum_Of.l0 k x0 x3 x7 (wrap64 (x8 + 1)))
end
def sum_Of.f (k : Nat) (a0 : ByteArray) : Option (Int) := sum_Of.l0 k a0 4294967295 (a0.size : Int) 0
theorem sum_Of.mono_l : ∀ k, (∀ y0 y1 y2 y3, LeO (sum_Of.l0 k y0 y1 y2 y3) (sum_Of.l0 (k + 1) y0 y1 y2 y3)) ∧ (∀ y0 y1 y2 y3 y4, LeO (sum_Of.l1 k y0 y1 y2 y3 y4) (sum_Of.l1 (k + 1) y0 y1 y2 y3 y4))
 | 0 => ⟨(fun _ _ _ _ r h => by cases (show (none : Option _) = some r from h)), (fun _ _ _ _ _ r h => by cases (show (none : Option _) = some r from h))⟩
 | k + 1 => by
  obtain ⟨ih0, ih1⟩ := sum_Of.mono_l k
  refine ⟨?_, ?_⟩
  ·intro y0 y1 y2 y3
   unfold sum_Of.l0
   repeat' first
   | (with_reducible exact ih0 _ _ _ _)
   | (with_reducible exact ih1 _ _ _ _ _)
   | (with_reducible exact LeO.refl _)
   | (with_reducible exact LeO.none _)
   | (with_reducible refine LeO.ite ?_ ?_)
   | (with_reducible refine LeO.bind ?_ (fun _ => ?_))
   | exact ih0 _ _ _ _
   | exact ih1 _ _ _ _ _
   | exact LeO.none _
   | refine LeO.ite ?_ ?_
   | refine LeO.bind ?_ (fun _ => ?_)
  ·intro y0 y1 y2 y3 y4
   unfold sum_Of.l1
   repeat' first
   | (with_reducible exact ih0 _ _ _ _)
   | (with_reducible exact ih1 _ _ _ _ _)
   | (with_reducible exact LeO.refl _)
   | (with_reducible exact LeO.none _)
   | (with_reducible refine LeO.ite ?_ ?_)
   | (with_reducible refine LeO.bind ?_ (fun _ => ?_))
   | exact ih0 _ _ _ _
   | exact ih1 _ _ _ _ _
   | exact LeO.none _
   | refine LeO.ite ?_ ?_
   | refine LeO.bind ?_ (fun _ => ?_)
theorem sum_Of.mono : ∀ a0 k, LeO (sum_Of.f k a0) (sum_Of.f (k + 1) a0) := by
 intro a0 k
 obtain ⟨ih0, ih1⟩ := sum_Of.mono_l k
 unfold sum_Of.f
 repeat' first
   | (with_reducible exact ih0 _ _ _ _)
   | (with_reducible exact ih1 _ _ _ _ _)
   | (with_reducible exact LeO.refl _)
   | (with_reducible exact LeO.none _)
   | (with_reducible refine LeO.ite ?_ ?_)
   | (with_reducible refine LeO.bind ?_ (fun _ => ?_))
   | exact ih0 _ _ _ _
   | exact ih1 _ _ _ _ _
   | exact LeO.none _
   | refine LeO.ite ?_ ?_
   | refine LeO.bind ?_ (fun _ => ?_)
set_option maxHeartbeats 8000000 in
set_option maxRecDepth 100000 in
theorem sum_Of.calls (k : Nat) (a0 : ByteArray) (r : Int) (w : World) (h : sum_Of.f k a0 = some r) :
  Calls Try.prog 24 #[.string a0] w fun e w' => e = .returned (.int .i64 r) ∧ Drawn0 w w' := by
 have H : (sum_Of.l0 k a0 4294967295 (a0.size : Int) 0) = some r := h
 clear h
 have H' := Aside0.mk H
 clear H
 go_enter Try.func24, Try.ntmps24
 go_wp2
 go_loopg [3, 8] k (fun kq v3 v8 w' => ∃ (x3_1 : Int) (x8_1 : Int), v3 = .int .u32 x3_1 ∧ v8 = .int .i64 x8_1 ∧ Aside0 (sum_Of.l0 kq a0 x3_1 (a0.size : Int) x8_1 = some r) ∧ Aside0 (kq ≤ k) ∧ Drawn0 w w')
 case atStart => exact ⟨(4294967295), (0), (by first | rfl | (simp; done) | (simp [*]; done)), (by first | rfl | (simp; done) | (simp [*]; done)), H', ⟨Nat.le_refl _⟩, by repeat (first | exact Drawn0.refl _ | apply Drawn0.step)⟩
 case round =>
  clear H'
  obtain ⟨x3_1, x8_1, rfl, rfl, HA, HK1, ⟨m1, rfl⟩⟩ := hrel
  cases gk with
  | zero => cases (show (none : Option _) = some _ from HA.out)
  | succ k1 =>
   have H := HA.out
   clear HA
   simp only [sum_Of.l0] at H
   by_cases c2 : x8_1 < (a0.size : Int)
   ·rw [if_pos c2] at H
    have c2b0 : decide (x8_1 < (a0.size : Int)) = true := decide_eq_true c2
    clear c2
    by_cases c3 : 0 ≤ x8_1
    ·rw [if_pos c3] at H
     have c3b0 : decide (0 ≤ x8_1) = true := decide_eq_true c3
     clear c3
     by_cases c4 : x8_1 < (a0.size : Int)
     ·rw [if_pos c4] at H
      have c4b0 : decide (x8_1 < (a0.size : Int)) = true := decide_eq_true c4
      clear c4
      have H' := Aside0.mk H
      clear H
      have p5 : 0 ≤ (x8_1 : Int) := of_decide_eq_true (by first | (with_reducible assumption) | assumption)
      have q5 : x8_1 < (a0.size : Int) := of_decide_eq_true (by first | (with_reducible assumption) | assumption)
      have hx5 := bt_at a0 x8_1
      replace p5 := eq_true p5
      replace q5 := eq_true q5
      go_wp2
      go_loopg [3, 17] k1 (fun kq v3 v17 w' => ∃ (x3_2 : Int) (x17_2 : Int), v3 = .int .u32 x3_2 ∧ v17 = .int .i64 x17_2 ∧ Aside0 (sum_Of.l1 kq a0 x3_2 (a0.size : Int) x8_1 x17_2 = some r) ∧ Aside0 (kq ≤ k1) ∧ Drawn0 w w')
      case atStart => exact ⟨(Go.bits .xor .u32 x3_1 ((bt a0 x8_1) % 4294967296)), (0), (by first | rfl | (simp; done) | (simp [*]; done)), (by first | rfl | (simp; done) | (simp [*]; done)), H', ⟨Nat.le_refl _⟩, by repeat (first | exact Drawn0.refl _ | apply Drawn0.step)⟩
      case round =>
       clear H'
       try clear c2
       try clear c2b0
       try clear p2
       try clear c3
       try clear c3b0
       try clear c4
       try clear c4b0
       try clear p5
       try clear q5
       try clear hx5
       try clear p5
       try clear q5
       obtain ⟨x3_2, x17_2, rfl, rfl, HA, HK2, ⟨m2, rfl⟩⟩ := hrel
       cases gk with
       | zero => cases (show (none : Option _) = some _ from HA.out)
       | succ k2 =>
        have H := HA.out
        clear HA
        simp only [sum_Of.l1] at H
        by_cases c6 : x17_2 < 8
        ·rw [if_pos c6] at H
         have c6b0 : decide (x17_2 < 8) = true := decide_eq_true c6
         clear c6
         have H' := Aside0.mk H
         clear H
         go_wp2
         go_roundg k2
         case measure => have := HK1.out; have := HK2.out; omega
         case rel => exact ⟨(Go.bits .xor .u32 (x3_2 / 2) ((3988292384 * (Go.bits .and .u32 x3_2 1)) % 4294967296)), (wrap64 (x17_2 + 1)), (by first | rfl | (simp; done) | (simp [*]; done)), (by first | rfl | (simp; done) | (simp [*]; done)), H', ⟨by have := HK1.out; have := HK2.out; omega⟩, by repeat (first | exact Drawn0.refl _ | apply Drawn0.step)⟩
        ·rw [if_neg c6] at H
         have c6b0 : decide (x17_2 < 8) = false := decide_eq_false c6
         clear c6
         have H' := Aside0.mk H
         clear H
         go_wp2
         go_roundg k2
         case measure => have := HK1.out; have := HK2.out; omega
         case rel => exact ⟨(x3_2), (wrap64 (x8_1 + 1)), (by first | rfl | (simp; done) | (simp [*]; done)), (by first | rfl | (simp; done) | (simp [*]; done)), H', ⟨by have := HK1.out; have := HK2.out; omega⟩, by repeat (first | exact Drawn0.refl _ | apply Drawn0.step)⟩
     ·rw [if_neg c4] at H
      exact absurd H (by simp)
    ·rw [if_neg c3] at H
     exact absurd H (by simp)
   ·rw [if_neg c2] at H
    have c2b0 : decide (x8_1 < (a0.size : Int)) = false := decide_eq_false c2
    clear c2
    obtain rfl := Option.some.inj H
    go_wp2
    go_ret
    exact ⟨by first | rfl | (simp; done) | (simp [*]; done), by repeat (first | exact Drawn0.refl _ | apply Drawn0.step)⟩

/-! ### frame_Encode: function 12 -/
-- HAND rounds=0 making=1
-- IMPORT Derived.Test.YtmicfaeloanffaaHandPut
-- IMPORT Derived.Deep.RegionWith
set_option maxHeartbeats 4000000 in
theorem letter_one (w : World) : Calls Try.prog 33 #[.agg #[]] w fun e w' => e = .returned (.int .u8 97) ∧ Below w.heap.size w w' := by
 go_enter Try.func33, Try.ntmps33
 go_wp2
 go_ret
 exact ⟨rfl, (Below.refl _ _).alloc (Nat.le_refl _) _⟩
set_option maxHeartbeats 4000000 in
theorem letter_two (w : World) : Calls Try.prog 34 #[.agg #[]] w fun e w' => e = .returned (.int .u8 98) ∧ Below w.heap.size w w' := by
 go_enter Try.func34, Try.ntmps34
 go_wp2
 go_ret
 exact ⟨rfl, (Below.refl _ _).alloc (Nat.le_refl _) _⟩
theorem lit_cells (w : World) (xs : List Int) (b : Nat) (hb : b = w.heap.size) (i : Nat) (hi : i < xs.length) : (w.alloc (.cells (xs.map (Value.int .u8)).toArray 5)).cell? ⟨b, 0 + i, none⟩ = some (.int .u8 (xs.getD i 0)) := by
 subst hb
 rw [Nat.zero_add]
 unfold World.cell?
 rw [show (w.alloc (.cells (xs.map (Value.int .u8)).toArray 5)).heap[w.heap.size]? = _ from World.alloc_heap_new w _]
 simp [List.getElem?_map, List.getElem?_eq_getElem hi, List.getD_eq_getElem?_getD]
set_option maxHeartbeats 4000000 in
set_option maxRecDepth 100000 in
theorem head_one (k g : Int) (d : ByteArray) (w : World) : Calls Try.prog 51 #[.agg #[], .agg #[.int .i64 k, .int .i64 g, .string d]] w fun e w' => e = .returned (.string (strOfNums [97, k % 256, (d.size : Int) / 256 % 256, (d.size : Int) % 256])) ∧ Below w.heap.size w w' := by
 have hcb : (convert 43 9 (.slice (some ⟨w.heap.size + 1 + 1, 0, none⟩) 4 4)).run Try.prog (((w.alloc (.cells #[] 55)).alloc (.cells #[.int .i64 k, .int .i64 g, .string d] 23)).alloc (.cells #[.int .u8 97, .int .u8 (k % 256), .int .u8 ((d.size : Int) / 256 % 256), .int .u8 ((d.size : Int) % 256)] 5)) = .ok (.string (strOfNums [97, k % 256, (d.size : Int) / 256 % 256, (d.size : Int) % 256])) (((w.alloc (.cells #[] 55)).alloc (.cells #[.int .i64 k, .int .i64 g, .string d] 23)).alloc (.cells #[.int .u8 97, .int .u8 (k % 256), .int .u8 ((d.size : Int) / 256 % 256), .int .u8 ((d.size : Int) % 256)] 5)) :=
  run_convert_bytes_arg _ 43 5 Try.underlying43 Try.underlying5 (w.heap.size + 1 + 1) 0 4 4 [97, k % 256, (d.size : Int) / 256 % 256, (d.size : Int) % 256] rfl (fun i hi => lit_cells ((w.alloc (.cells #[] 55)).alloc (.cells #[.int .i64 k, .int .i64 g, .string d] 23)) [97, k % 256, (d.size : Int) / 256 % 256, (d.size : Int) % 256] _ (by simp) i hi) 9 Try.underlying9
 go_enter Try.func51, Try.ntmps51
 go_wp2
 go_ret
 exact ⟨rfl, by repeat (first | exact Below.refl _ _ | (refine Below.alloc ?_ (by simp <;> omega) _) | (refine Below.setCell ?_ (by simp <;> omega) _))⟩
set_option maxHeartbeats 4000000 in
set_option maxRecDepth 100000 in
theorem head_two (k g : Int) (d : ByteArray) (p : ByteArray) (hp : HandPut.Put.f (d.size : Int) = some (p, 0)) (hs : p.size ≤ 100) (w : World) : Calls Try.prog 53 #[.agg #[], .agg #[.int .i64 k, .int .i64 g, .string d]] w fun e w' => e = .returned (.string (strOfNums [98, g % 256, k % 256] ++ p)) ∧ Below w.heap.size w w' := by
 have HP := Aside0.mk hp
 clear hp
 have hcb : ∀ w1 : World, (convert 43 9 (.slice (some ⟨w1.heap.size, 0, none⟩) 3 3)).run Try.prog (w1.alloc (.cells #[.int .u8 98, .int .u8 (g % 256), .int .u8 (k % 256)] 5)) = .ok (.string (strOfNums [98, g % 256, k % 256])) (w1.alloc (.cells #[.int .u8 98, .int .u8 (g % 256), .int .u8 (k % 256)] 5)) := fun w1 =>
  run_convert_bytes_arg _ 43 5 Try.underlying43 Try.underlying5 w1.heap.size 0 3 3 [98, g % 256, k % 256] rfl (fun i hi => lit_cells w1 [98, g % 256, k % 256] _ rfl i hi) 9 Try.underlying9
 have eW : ((w.alloc (.cells #[] 60)).alloc (.cells #[.int .i64 k, .int .i64 g, .string d] 23)).heap.size = w.heap.size + 2 := by simp
 have B0 : Below w.heap.size w ((w.alloc (.cells #[] 60)).alloc (.cells #[.int .i64 k, .int .i64 g, .string d] 23)) := ((Below.refl _ _).alloc (Nat.le_refl _) _).alloc (by simp) _
 have h3 : (strOfNums [98, g % 256, k % 256]).size = 3 := rfl
 have hcat : (strOfNums [98, g % 256, k % 256]).size + p.size ≤ 9223372036854775807 := by omega
 clear h3
 go_enter Try.func53, Try.ntmps53
 go_wp2_with (first | (go_at_call 55; (refine (HandPut.Put.calls (d.size : Int) p 0 _ HP.out).mono ?_); rintro e w1 ⟨rfl, hb1⟩; have hz := hb1.size; rw [eW] at hz; have q0 : w1.cell? ⟨w.heap.size + 1, 0, none⟩ = some (.int .i64 k) := (by rw [hb1.cell (p := ⟨w.heap.size + 1, 0, none⟩) (by rw [eW]; show w.heap.size + 1 < _; omega)]; simp [go_sem]); have q1 : w1.cell? ⟨w.heap.size + 1, 1, none⟩ = some (.int .i64 g) := (by rw [hb1.cell (p := ⟨w.heap.size + 1, 1, none⟩) (by rw [eW]; show w.heap.size + 1 < _; omega)]; simp [go_sem]); have B1 := B0.trans (hb1.mono (by omega))))
 go_ret
 exact ⟨rfl, B1.alloc (by omega) _⟩
theorem m_head1 (w : World) : (method 192 55 (.agg #[]) "careen/frame.head").run Try.prog w = .ok (51, .agg #[]) w := by kernel_rfl
theorem m_head2 (w : World) : (method 192 60 (.agg #[]) "careen/frame.head").run Try.prog w = .ok (53, .agg #[]) w := by kernel_rfl
set_option maxHeartbeats 4000000 in
set_option maxRecDepth 100000 in
theorem enc_one (k g : Int) (d : ByteArray) (hr : frame_Right.f 1 k g d = some true) (hd : d.size ≤ 4000) (s : ByteArray) (hs : s = strOfNums [97, k % 256, (d.size : Int) / 256 % 256, (d.size : Int) % 256] ++ d) (K : Nat) (u : Int) (hu : sum_Of.f K s = some u) (b : ByteArray) (hb : sum_Bytes.f K u = some b) (hbs : b.size ≤ 100) (w : World) :
  Calls Try.prog 12 #[.int .i64 1, .agg #[.int .i64 k, .int .i64 g, .string d]] w fun e w' => e = .returned (.tuple #[.string (s ++ b), .int .i64 0]) ∧ Below w.heap.size w w' := by
 have HR := Aside0.mk hr
 have HU := Aside0.mk hu
 have HB := Aside0.mk hb
 clear hr hu hb
 have h3 : (strOfNums [97, k % 256, (d.size : Int) / 256 % 256, (d.size : Int) % 256]).size = 4 := rfl
 have hcat : (strOfNums [97, k % 256, (d.size : Int) / 256 % 256, (d.size : Int) % 256]).size + d.size ≤ 9223372036854775807 := by omega
 have hsz : s.size = 4 + d.size := by rw [hs, ByteArray.size_append, h3]
 have hcat2 : s.size + b.size ≤ 9223372036854775807 := by omega
 have eW : (w.alloc (.cells #[.int .i64 k, .int .i64 g, .string d] 23)).heap.size = w.heap.size + 1 := by simp
 have B0 : Below w.heap.size w (w.alloc (.cells #[.int .i64 k, .int .i64 g, .string d] 23)) := (Below.refl _ _).alloc (Nat.le_refl _) _
 clear h3 hsz
 subst hs
 have hm := m_head1
 go_enter Try.func12, Try.ntmps12
 go_upto_region 3 with (first | (go_at_call 14; (refine (frame_Right.calls 1 k g d true _ HR.out).mono ?_); rintro e w1 ⟨rfl, hb1⟩; have hz := hb1.size; rw [eW] at hz; have q0 : w1.cell? ⟨w.heap.size, 0, none⟩ = some (.int .i64 k) := (by rw [hb1.cell (p := ⟨w.heap.size, 0, none⟩) (by rw [eW]; show w.heap.size < _; omega)]; simp [go_sem]); have q1 : w1.cell? ⟨w.heap.size, 1, none⟩ = some (.int .i64 g) := (by rw [hb1.cell (p := ⟨w.heap.size, 1, none⟩) (by rw [eW]; show w.heap.size < _; omega)]; simp [go_sem]); have q2 : w1.cell? ⟨w.heap.size, 2, none⟩ = some (.string d) := (by rw [hb1.cell (p := ⟨w.heap.size, 2, none⟩) (by rw [eW]; show w.heap.size < _; omega)]; simp [go_sem]); have B1 := B0.trans (hb1.mono (by omega))))
 go_region_with (first | (go_at_call 22; (refine (of_one _).mono ?_); rintro e w2 ⟨rfl, rfl⟩) | (go_at_call 51; (refine (head_one k g d _).mono ?_); rintro e w3 ⟨rfl, hb3⟩; have p2 : w3.cell? ⟨w.heap.size, 2, none⟩ = some (.string d) := (hb3.cell (p := ⟨w.heap.size, 2, none⟩) (by show w.heap.size < w1.heap.size; omega)).trans q2; have B3 : Below w.heap.size w w3 := (B1.drew).trans (hb3.mono (by show w.heap.size ≤ w1.heap.size; omega))))
 all_goals
  go_wp2_with (first | (go_at_call 24; (with_reducible refine (sum_Of.calls K _ u _ HU.out).mono ?_); rintro e w4 ⟨rfl, ⟨nd, rfl⟩⟩) | (go_at_call 23; (with_reducible refine (sum_Bytes.calls K u b _ HB.out).mono ?_); rintro e w5 ⟨rfl, hb5⟩; have B5 : Below w.heap.size w w5 := (pw_below_drewN B3 _).trans (hb5.mono (by have := B3.size; simpa using this))))
  refine bodyPost_ret (v := .tuple #[.string (strOfNums [97, k % 256, (d.size : Int) / 256 % 256, (d.size : Int) % 256] ++ d ++ b), .int .i64 0]) (by simp [results, Try.results12, go_sem]) rfl ⟨rfl, ?_⟩
  exact B5
set_option maxHeartbeats 4000000 in
set_option maxRecDepth 100000 in
theorem enc_two (k g : Int) (d : ByteArray) (hr : frame_Right.f 2 k g d = some true) (hd : d.size ≤ 4000) (p : ByteArray) (hp : HandPut.Put.f (d.size : Int) = some (p, 0)) (hps : p.size ≤ 100) (s : ByteArray) (hs : s = strOfNums [98, g % 256, k % 256] ++ p ++ d) (K : Nat) (u : Int) (hu : sum_Of.f K s = some u) (b : ByteArray) (hb : sum_Bytes.f K u = some b) (hbs : b.size ≤ 100) (w : World) :
  Calls Try.prog 12 #[.int .i64 2, .agg #[.int .i64 k, .int .i64 g, .string d]] w fun e w' => e = .returned (.tuple #[.string (s ++ b), .int .i64 0]) ∧ Below w.heap.size w w' := by
 have HR := Aside0.mk hr
 have HU := Aside0.mk hu
 have HB := Aside0.mk hb
 have HPp := Aside0.mk hp
 clear hr hu hb hp
 have h3 : (strOfNums [98, g % 256, k % 256]).size = 3 := rfl
 have h4 : (strOfNums [98, g % 256, k % 256] ++ p).size = 3 + p.size := by rw [ByteArray.size_append, h3]
 have hcat : (strOfNums [98, g % 256, k % 256] ++ p).size + d.size ≤ 9223372036854775807 := by omega
 have hsz : s.size = 3 + p.size + d.size := by rw [hs, ByteArray.size_append, h4]
 have hcat3 : (strOfNums [98, g % 256, k % 256]).size + p.size + d.size ≤ 9223372036854775807 := by omega
 have hcat4 : (strOfNums [98, g % 256, k % 256]).size + p.size + d.size + b.size ≤ 9223372036854775807 := by omega
 have hcat2 : s.size + b.size ≤ 9223372036854775807 := by omega
 have eW : (w.alloc (.cells #[.int .i64 k, .int .i64 g, .string d] 23)).heap.size = w.heap.size + 1 := by simp
 have B0 : Below w.heap.size w (w.alloc (.cells #[.int .i64 k, .int .i64 g, .string d] 23)) := (Below.refl _ _).alloc (Nat.le_refl _) _
 clear h3 h4 hsz
 subst hs
 have hm := m_head2
 go_enter Try.func12, Try.ntmps12
 go_upto_region 3 with (first | (go_at_call 14; (refine (frame_Right.calls 2 k g d true _ HR.out).mono ?_); rintro e w1 ⟨rfl, hb1⟩; have hz := hb1.size; rw [eW] at hz; have q0 : w1.cell? ⟨w.heap.size, 0, none⟩ = some (.int .i64 k) := (by rw [hb1.cell (p := ⟨w.heap.size, 0, none⟩) (by rw [eW]; show w.heap.size < _; omega)]; simp [go_sem]); have q1 : w1.cell? ⟨w.heap.size, 1, none⟩ = some (.int .i64 g) := (by rw [hb1.cell (p := ⟨w.heap.size, 1, none⟩) (by rw [eW]; show w.heap.size < _; omega)]; simp [go_sem]); have q2 : w1.cell? ⟨w.heap.size, 2, none⟩ = some (.string d) := (by rw [hb1.cell (p := ⟨w.heap.size, 2, none⟩) (by rw [eW]; show w.heap.size < _; omega)]; simp [go_sem]); have B1 := B0.trans (hb1.mono (by omega))))
 go_region_with (first | (go_at_call 22; (refine (of_two _).mono ?_); rintro e w2 ⟨rfl, rfl⟩) | (go_at_call 53; (refine (head_two k g d p HPp.out hps _).mono ?_); rintro e w3 ⟨rfl, hb3⟩; have p2 : w3.cell? ⟨w.heap.size, 2, none⟩ = some (.string d) := (hb3.cell (p := ⟨w.heap.size, 2, none⟩) (by show w.heap.size < w1.heap.size; omega)).trans q2; have B3 : Below w.heap.size w w3 := (B1.drew).trans (hb3.mono (by show w.heap.size ≤ w1.heap.size; omega))))
 all_goals
  go_wp2_with (first | (go_at_call 24; (with_reducible refine (sum_Of.calls K _ u _ HU.out).mono ?_); rintro e w4 ⟨rfl, ⟨nd, rfl⟩⟩) | (go_at_call 23; (with_reducible refine (sum_Bytes.calls K u b _ HB.out).mono ?_); rintro e w5 ⟨rfl, hb5⟩; have B5 : Below w.heap.size w w5 := (pw_below_drewN B3 _).trans (hb5.mono (by have := B3.size; simpa using this))))
  refine bodyPost_ret (v := .tuple #[.string (strOfNums [98, g % 256, k % 256] ++ p ++ d ++ b), .int .i64 0]) (by simp [results, Try.results12, go_sem]) rfl ⟨rfl, ?_⟩
  exact B5
set_option maxHeartbeats 4000000 in
set_option maxRecDepth 100000 in
theorem enc_bad (v k g : Int) (d : ByteArray) (hr : frame_Right.f v k g d = some false) (w : World) :
  Calls Try.prog 12 #[.int .i64 v, .agg #[.int .i64 k, .int .i64 g, .string d]] w fun e w' => e = .returned (.tuple #[.string ⟨#[]⟩, .int .i64 1]) ∧ Below w.heap.size w w' := by
 have HR := Aside0.mk hr
 clear hr
 have eW : (w.alloc (.cells #[.int .i64 k, .int .i64 g, .string d] 23)).heap.size = w.heap.size + 1 := by simp
 have B0 : Below w.heap.size w (w.alloc (.cells #[.int .i64 k, .int .i64 g, .string d] 23)) := (Below.refl _ _).alloc (Nat.le_refl _) _
 go_enter Try.func12, Try.ntmps12
 go_wp2_with (first | (go_at_call 14; (refine (frame_Right.calls v k g d false _ HR.out).mono ?_); rintro e w1 ⟨rfl, hb1⟩; have hz := hb1.size; rw [eW] at hz; have B1 := B0.trans (hb1.mono (by omega))))
 refine bodyPost_ret (v := .tuple #[.string ⟨#[]⟩, .int .i64 1]) (by simp [results, Try.results12, go_sem]) rfl ⟨rfl, ?_⟩
 exact B1
/-- What stands ahead of a frame's data. -/
def headF (v k g : Int) (d : ByteArray) : Option ByteArray := if v = 1 then some (strOfNums [97, k % 256, (d.size : Int) / 256 % 256, (d.size : Int) % 256]) else (HandPut.Put.f (d.size : Int)).bind fun p => if p.2 = 0 ∧ p.1.size ≤ 100 then some (strOfNums [98, g % 256, k % 256] ++ p.1) else none
def frame_Encode.f (a0 : Int) (a1_0 : Int) (a1_1 : Int) (a1_2 : ByteArray) : Option (ByteArray × Int) :=
 (frame_Right.f a0 a1_0 a1_1 a1_2).bind fun r => if r = true then (headF a0 a1_0 a1_1 a1_2).bind fun h => (sum_Of.f 50000 (h ++ a1_2)).bind fun u => (sum_Bytes.f 50000 u).bind fun b => if b.size ≤ 100 then some (h ++ a1_2 ++ b, 0) else none else some (⟨#[]⟩, 1)
theorem frame_Encode.calls (a0 : Int) (a1_0 : Int) (a1_1 : Int) (a1_2 : ByteArray) (r1 : ByteArray) (r2 : Int) (w : World) (h : frame_Encode.f a0 a1_0 a1_1 a1_2 = some (r1, r2)) :
  Calls Try.prog 12 #[.int .i64 a0, .agg #[.int .i64 a1_0, .int .i64 a1_1, .string a1_2]] w fun e w' => e = .returned (.tuple #[.string r1, .int .i64 r2]) ∧ Below w.heap.size w w' := by
 unfold frame_Encode.f at h
 obtain ⟨r, hr, h⟩ := Option.bind_eq_some_iff.mp h
 by_cases c : r = true
 ·subst c
  rw [if_pos rfl] at h
  obtain ⟨s, hs, h⟩ := Option.bind_eq_some_iff.mp h
  obtain ⟨u, hu, h⟩ := Option.bind_eq_some_iff.mp h
  obtain ⟨b, hb, h⟩ := Option.bind_eq_some_iff.mp h
  by_cases cb : b.size ≤ 100
  ·rw [if_pos cb] at h
   cases h
   have hm : may a0 a1_0 a1_1 a1_2.size := of_decide_eq_true (Option.some.inj hr)
   have hd : a1_2.size ≤ 4000 := hm.2.2.2.2.2.1
   unfold headF at hs
   by_cases e1 : a0 = 1
   ·subst e1
    rw [if_pos rfl] at hs
    have hs' := Option.some.inj hs
    subst hs'
    exact enc_one a1_0 a1_1 a1_2 hr hd _ rfl 50000 u hu b hb cb w
   ·rw [if_neg e1] at hs
    have e2 : a0 = 2 := hm.1.resolve_left e1
    subst e2
    obtain ⟨⟨p, q⟩, hp, hs⟩ := Option.bind_eq_some_iff.mp hs
    by_cases cp : (p, q).2 = 0 ∧ (p, q).1.size ≤ 100
    ·rw [if_pos cp] at hs
     obtain ⟨cq, cs⟩ := cp
     have cq' : q = 0 := cq
     subst cq'
     have hs' := Option.some.inj hs
     subst hs'
     exact enc_two a1_0 a1_1 a1_2 hr hd p hp cs _ rfl 50000 u hu b hb cb w
    ·rw [if_neg cp] at hs; cases hs
  ·rw [if_neg cb] at h; cases h
 ·rw [if_neg c] at h
  rw [Bool.not_eq_true] at c
  subst c
  cases h
  exact enc_bad a0 a1_0 a1_1 a1_2 hr w

-- NOT PRINTED: function 33 (frame_one_letter)

-- NOT PRINTED: function 34 (frame_two_letter)

-- NOT PRINTED: function 31 (frame_begins)

end Go.Proofs.Ytmicfaeloanffaa.PAll
