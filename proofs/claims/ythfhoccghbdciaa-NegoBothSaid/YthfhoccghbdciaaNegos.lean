/- What the printed functions of the hellos answer, in plain words. -/
import Derived.Test.YthfhoccghbdciaaBase
import Derived.Test.YthfhoccghbdciaaPAllx3
import Derived.Test.YthfhoccghbdciaaPAllx4
namespace Go.Proofs.Ythfhoccghbdciaa.Negos
open Go.RowKit Go.Proofs.YthfhoccghbdciaaW.PrintWords Go.Proofs.YthfhoccghbdciaaW.PrintLast Go.Proofs.YthfhoccghbdciaaW.PrintMore Go.Proofs.Ythfhoccghbdciaa.PAll Go.Proofs.Ythfhoccghbdciaa.Base

theorem wrap_ok (n : Int) (h0 : 0 ≤ n) (h1 : n < 2 ^ 63) : IntKind.i64.wrap n = n := by rw [IntKind.wrap_i64]; omega
theorem and_nat (a b : Nat) (ha : a < 2 ^ 63) (hb : b < 2 ^ 63) : Go.bits .and .i64 (a : Int) (b : Int) = ((a &&& b : Nat) : Int) := (bits_nat .i64 63 (by decide) wrap_ok a b ha hb).1
theorem or_nat (a b : Nat) (ha : a < 2 ^ 63) (hb : b < 2 ^ 63) : Go.bits .or .i64 (a : Int) (b : Int) = ((a ||| b : Nat) : Int) := (bits_nat .i64 63 (by decide) wrap_ok a b ha hb).2
theorem andNot_nat (a m : Nat) (ha : a < 2 ^ 63) (hm : m < 2 ^ 64) : ∃ N : Nat, Go.bits .andNot .i64 (a : Int) (m : Int) = (N : Int) ∧ ∀ i, N.testBit i = (a.testBit i && !(m.testBit i)) := by
  refine ⟨a &&& (2 ^ 64 - (m + 1)), ?_, fun i => ?_⟩
  · have e : Go.bits .andNot .i64 (a : Int) (m : Int) = IntKind.i64.wrap (((BitVec.ofInt 64 (a : Int)) &&& ~~~ (BitVec.ofInt 64 (m : Int))).toNat : Int) := rfl
    have h : a &&& (2 ^ 64 - (m + 1)) ≤ a := Nat.and_le_left
    rw [e, BitVec.toNat_and, BitVec.toNat_not, BitVec.ofInt_natCast, BitVec.ofInt_natCast, BitVec.toNat_ofNat, BitVec.toNat_ofNat, Nat.mod_eq_of_lt (by omega), Nat.mod_eq_of_lt hm]
    have e2 : 2 ^ 64 - 1 - m = 2 ^ 64 - (m + 1) := by omega
    rw [e2, wrap_ok _ (by omega) (by omega)]
  · rw [Nat.testBit_and, Nat.testBit_two_pow_sub_succ hm]
    by_cases h : i < 64
    · simp [h]
    · have : a.testBit i = false := Nat.testBit_lt_two_pow (Nat.lt_of_lt_of_le ha (Nat.pow_le_pow_right (by decide) (by omega)))
      simp [this]
theorem within (a : Nat) (ha : a < 2 ^ 63) : (Go.bits .andNot .i64 (a : Int) 1048575 == 0) = decide ((a : Int) ≤ 1048575) := by
  obtain ⟨N, e, h⟩ := andNot_nat a (2 ^ 20 - 1) ha (by decide)
  have e' : Go.bits .andNot .i64 (a : Int) 1048575 = (N : Int) := e
  rw [e']
  by_cases g : (a : Int) ≤ 1048575
  · have : N = 0 := by
      apply Nat.eq_of_testBit_eq
      intro i
      rw [h, Nat.testBit_two_pow_sub_one, Nat.zero_testBit]
      by_cases hi : i < 20
      · simp [hi]
      · rw [Nat.testBit_lt_two_pow (Nat.lt_of_lt_of_le (by omega : a < 2 ^ 20) (Nat.pow_le_pow_right (by decide) (by omega)))]; rfl
    subst this
    simp [g]
  · have : N ≠ 0 := by
      rintro rfl
      have : a < 2 ^ 20 := Nat.lt_pow_two_of_testBit a (fun i hi => by
        have := h i
        rw [Nat.testBit_two_pow_sub_one, Nat.zero_testBit] at this
        have hd : decide (i < 20) = false := decide_eq_false (by omega)
        rw [hd] at this
        simpa using this.symm)
      omega
    rw [decide_eq_false g]
    exact beq_eq_false_iff_ne.2 (by omega)
theorem low3 (a : Nat) (ha : a < 2 ^ 20) : Go.bits .andNot .i64 (a : Int) 1048568 = ((a % 8 : Nat) : Int) := by
  obtain ⟨N, e, h⟩ := andNot_nat a (2 ^ 20 - (7 + 1)) (by omega) (by decide)
  have e' : Go.bits .andNot .i64 (a : Int) 1048568 = (N : Int) := e
  rw [e']
  congr 1
  apply Nat.eq_of_testBit_eq
  intro i
  rw [h, Nat.testBit_two_pow_sub_succ (by decide), show 8 = 2 ^ 3 from rfl, Nat.testBit_mod_two_pow, show 7 = 2 ^ 3 - 1 from rfl, Nat.testBit_two_pow_sub_one]
  by_cases hi : i < 20
  · simp [hi, Bool.and_comm]
  · rw [Nat.testBit_lt_two_pow (Nat.lt_of_lt_of_le ha (Nat.pow_le_pow_right (by decide) (by omega)))]; simp

/-- A hello that may be. -/
def Right (l h f : Int) : Prop := 1 ≤ l ∧ l ≤ h ∧ h ≤ 2 ∧ 0 ≤ f ∧ f ≤ 1048575
instance (l h f : Int) : Decidable (Right l h f) := by unfold Right; infer_instance
theorem right_eq (l h f : Int) (hf : f ≤ 9223372036854775807) : nego_Right.f l h f = some (decide (Right l h f)) := by
  have no : ¬ Right l h f → some false = some (decide (Right l h f)) := fun g => by rw [decide_eq_false g]
  unfold nego_Right.f
  by_cases h1 : 1 ≤ l
  · rw [if_pos h1]
    by_cases h2 : l ≤ h
    · rw [if_pos h2]
      by_cases h3 : h ≤ 2
      · rw [if_pos h3]
        by_cases h4 : f ≥ 0
        · rw [if_pos h4]
          obtain ⟨m, rfl⟩ := Int.eq_ofNat_of_zero_le h4
          rw [within m (by omega)]
          congr 1
          exact decide_eq_decide.2 (by unfold Right; omega)
        · rw [if_neg h4]; exact no (fun g => by unfold Right at g; omega)
      · rw [if_neg h3]; exact no (fun g => by unfold Right at g; omega)
    · rw [if_neg h2]; exact no (fun g => by unfold Right at g; omega)
  · rw [if_neg h1]; exact no (fun g => by unfold Right at g; omega)
theorem ref_right_eq (l h f : Int) : careenref09_Right.f l h f = some (decide (Right l h f)) := by
  have no : ¬ Right l h f → some false = some (decide (Right l h f)) := fun g => by rw [decide_eq_false g]
  unfold careenref09_Right.f
  by_cases h1 : l ≥ 1
  · rw [if_pos h1]
    by_cases h2 : l ≤ h
    · rw [if_pos h2]
      by_cases h3 : h ≤ 2
      · rw [if_pos h3]
        by_cases h4 : f ≥ 0
        · rw [if_pos h4]
          congr 1
          exact decide_eq_decide.2 (by unfold Right; omega)
        · rw [if_neg h4]; exact no (fun g => by unfold Right at g; omega)
      · rw [if_neg h3]; exact no (fun g => by unfold Right at g; omega)
    · rw [if_neg h2]; exact no (fun g => by unfold Right at g; omega)
  · rw [if_neg h1]; exact no (fun g => by unfold Right at g; omega)
/-- What two agree on: features as natural numbers. -/
def agreeV (la ha : Int) (fa : Nat) (lb hb : Int) (fb : Nat) : Int × Int × Int :=
  if min ha hb < max la lb then (0, 0, 22) else if min ha hb = 1 then (1, (((fa &&& fb) % 8 : Nat) : Int), 0) else (2, ((fa &&& fb : Nat) : Int), 0)
theorem agree_no (la ha fa lb hb fb : Int) (h1 : fa ≤ 9223372036854775807) (h2 : fb ≤ 9223372036854775807) (h : ¬ (Right la ha fa ∧ Right lb hb fb))   : nego_Agree.f la ha fa lb hb fb = some (0, 0, 1) := by
  unfold nego_Agree.f
  rw [right_eq la ha fa h1, Option.bind_some]
  by_cases g : Right la ha fa
  · rw [if_pos (decide_eq_true g), right_eq lb hb fb h2, Option.bind_some, if_neg (by simp; exact fun g2 => h ⟨g, g2⟩)]
  · rw [if_neg (by simpa using g)]
theorem agree_yes (la ha : Int) (fa : Nat) (lb hb : Int) (fb : Nat) (g1 : Right la ha fa) (g2 : Right lb hb fb)   : nego_Agree.f la ha fa lb hb fb = some (agreeV la ha fa lb hb fb) := by
  have k1 := g1
  have k2 := g2
  unfold Right at k1 k2
  have hle : fa &&& fb ≤ fa := Nat.and_le_left
  unfold nego_Agree.f agreeV
  rw [right_eq la ha fa (by omega), Option.bind_some, if_pos (decide_eq_true g1), right_eq lb hb fb (by omega), Option.bind_some, if_pos (decide_eq_true g2), mn_eq, mx_eq, and_nat fa fb (by omega) (by omega), low3 _ (by omega)]
  by_cases c1 : min ha hb < max la lb
  · rw [if_pos c1, if_pos c1]
  · rw [if_neg c1, if_neg c1]
    by_cases c2 : min ha hb = 1
    · rw [if_pos c2, if_pos c2]
    · rw [if_neg c2, if_neg c2]
      have : min ha hb = 2 := by omega
      rw [this]
theorem ref_agree_no (la ha fa lb hb fb : Int) (h : ¬ (Right la ha fa ∧ Right lb hb fb)) (k : Nat) : careenref09_Agree.f (k + 1) la ha fa lb hb fb = some (0, 0, 1) := by
  unfold careenref09_Agree.f
  rw [ref_right_eq la ha fa, Option.bind_some]
  by_cases g : Right la ha fa
  · rw [if_pos (decide_eq_true g), ref_right_eq lb hb fb, Option.bind_some, careenref09_Agree.j0, if_pos (by simp; exact fun g2 => h ⟨g, g2⟩)]
  · rw [if_neg (by simpa using g), careenref09_Agree.j0, if_pos rfl]
theorem knows_eq (l h f v : Int) : careenref09_knows.f l h f v = some (decide (l ≤ v ∧ v ≤ h)) := by
  unfold careenref09_knows.f
  by_cases g : l ≤ v
  · rw [if_pos g]; simp [g]
  · rw [if_neg g]; simp [g]
theorem ref_round (la ha fa lb hb fb v : Int) (k : Nat) (hv : 1 ≤ v) (hv2 : v ≤ 2) : careenref09_Agree.l0 (k + 2) v la ha fa lb hb fb =
    if (la ≤ v ∧ v ≤ ha) ∧ (lb ≤ v ∧ v ≤ hb) then (if v = 1 then (some (v, Int.tmod (Go.bits .and .i64 fa fb) 8, 0)) else (some (v, Go.bits .and .i64 fa fb, 0))) else careenref09_Agree.l0 k (v - 1) la ha fa lb hb fb := by
  rw [careenref09_Agree.l0, if_pos hv, knows_eq, Option.bind_some]
  have w : wrap64 (v - 1) = v - 1 := wrap64_id (by omega) (by omega)
  by_cases g1 : la ≤ v ∧ v ≤ ha
  · rw [if_pos (decide_eq_true g1), knows_eq, Option.bind_some]
    by_cases g2 : lb ≤ v ∧ v ≤ hb
    · rw [decide_eq_true g2, careenref09_Agree.j2, if_neg (by decide), if_pos (show (la ≤ v ∧ v ≤ ha) ∧ (lb ≤ v ∧ v ≤ hb) from ⟨g1, g2⟩)]
    · rw [decide_eq_false g2, careenref09_Agree.j2, if_pos (by decide), if_neg (fun h => g2 h.2), w]
  · rw [if_neg (by simpa using g1), careenref09_Agree.j2, if_pos rfl, if_neg (fun h => g1 h.1), w]
theorem ref_agree_yes (la ha : Int) (fa : Nat) (lb hb : Int) (fb : Nat) (g1 : Right la ha fa) (g2 : Right lb hb fb) (k : Nat) : careenref09_Agree.f (k + 6) la ha fa lb hb fb = some (agreeV la ha fa lb hb fb) := by
  have k1 := g1
  have k2 := g2
  unfold Right at k1 k2
  have e8 : Int.tmod (((fa &&& fb : Nat)) : Int) 8 = (((fa &&& fb) % 8 : Nat) : Int) := by rw [Int.tmod_eq_emod_of_nonneg (by omega)]; omega
  have r2 := ref_round la ha fa lb hb fb 2 (k + 3) (by decide) (by decide)
  have r1 := ref_round la ha fa lb hb fb 1 (k + 1) (by decide) (by decide)
  have r0 : careenref09_Agree.l0 (k + 1) 0 la ha fa lb hb fb = some (0, 0, 22) := by rw [careenref09_Agree.l0, if_neg (by decide)]
  rw [show (2 : Int) - 1 = 1 from rfl, if_neg (show ¬ (2 : Int) = 1 by decide)] at r2
  rw [show (1 : Int) - 1 = 0 from rfl, r0, if_pos (show (1 : Int) = 1 from rfl)] at r1
  rw [r1, and_nat fa fb (by omega) (by omega), e8] at r2
  unfold careenref09_Agree.f agreeV
  rw [ref_right_eq la ha fa, Option.bind_some, if_pos (decide_eq_true g1), ref_right_eq lb hb fb, Option.bind_some, decide_eq_true g2, careenref09_Agree.j0, if_neg (by decide), r2]
  by_cases c1 : min ha hb < max la lb
  · rw [if_pos c1, if_neg (show ¬ ((la ≤ 2 ∧ 2 ≤ ha) ∧ lb ≤ 2 ∧ 2 ≤ hb) by omega), if_neg (show ¬ ((la ≤ 1 ∧ 1 ≤ ha) ∧ lb ≤ 1 ∧ 1 ≤ hb) by omega)]
  · rw [if_neg c1]
    by_cases c2 : min ha hb = 1
    · rw [if_pos c2, if_neg (show ¬ ((la ≤ 2 ∧ 2 ≤ ha) ∧ lb ≤ 2 ∧ 2 ≤ hb) by omega), if_pos (show ((la ≤ 1 ∧ 1 ≤ ha) ∧ lb ≤ 1 ∧ 1 ≤ hb) by omega)]
    · rw [if_neg c2, if_pos (show ((la ≤ 2 ∧ 2 ≤ ha) ∧ lb ≤ 2 ∧ 2 ≤ hb) by omega)]
theorem pick_eq (c n : Int) (hc : (Lit.int .i64 c).wf = true) (hn : 0 < n) : careenlaw09_pick.f c n = some (pickN c n) := by
  obtain ⟨h0, h1⟩ := wf_i64 hc
  exact pick_tells h0 h1 hn
/-- A hello out of raw numbers. -/
theorem hello_eq (x y z : Int) (hx : (Lit.int .i64 x).wf = true) (hy : (Lit.int .i64 y).wf = true) (hz : (Lit.int .i64 z).wf = true) : ∃ (l h : Int) (f : Nat), careenlaw09_Hello.f x y z = some (l, h, (f : Int)) ∧ Right l h f := by
  obtain ⟨a0, a1⟩ := pickN_lt (c := x) (n := 2) (by decide)
  obtain ⟨b0, b1⟩ := pickN_lt (c := y) (n := 2) (by decide)
  obtain ⟨c0, c1⟩ := pickN_lt (c := z) (n := 1048576) (by decide)
  obtain ⟨f, hf⟩ := Int.eq_ofNat_of_zero_le c0
  refine ⟨min (1 + pickN x 2) (1 + pickN y 2), max (1 + pickN x 2) (1 + pickN y 2), f, ?_, ?_⟩
  · unfold careenlaw09_Hello.f
    rw [pick_eq x 2 hx (by decide), Option.bind_some, pick_eq y 2 hy (by decide), Option.bind_some, pick_eq z 1048576 hz (by decide), Option.bind_some, mn_eq, mx_eq, hf, wrap64_id (n := 1 + pickN x 2) (by omega) (by omega), wrap64_id (n := 1 + pickN y 2) (by omega) (by omega)]
  · unfold Right; omega
theorem awake_eq : careenlaw09_awake.f = some true := by decide +kernel
theorem ref_of_eq (a b : Int) (k : Nat) : careenref09_Of.f (k + 1) a b = nego_Of.f a b := by
  unfold careenref09_Of.f nego_Of.f
  by_cases h1 : a = 1
  · rw [if_pos h1, if_pos h1]
  · rw [if_neg h1, if_neg h1]
    by_cases h2 : a = 2
    · rw [if_pos h2, if_pos h2, careenref09_Of.j0]
      by_cases h3 : b = 2
      · rw [if_pos (by simpa using h3), if_pos h3]
      · rw [if_neg (by simpa using h3), if_neg h3, if_pos h2]
    · rw [if_neg h2, if_neg h2, careenref09_Of.j0, if_neg (by decide), if_neg h2]
/-- Bits. -/
theorem sub_l (a b : Nat) : (a &&& b) &&& a = a &&& b := by rw [Nat.and_comm (a &&& b) a, ← Nat.and_assoc, Nat.and_self]
theorem sub_r (a b : Nat) : (a &&& b) &&& b = a &&& b := by rw [Nat.and_assoc, Nat.and_self]
theorem mod8 (a : Nat) : a % 8 = a &&& 7 := (Nat.and_two_pow_sub_one_eq_mod a 3).symm
theorem ext_bits {a b : Nat} (h : ∀ i, a.testBit i = b.testBit i) : a = b := Nat.eq_of_testBit_eq h
theorem bit3 (f : Bool → Bool → Bool → Bool) (h : ∀ x y z, f x y z = true) (x y z : Bool) : f x y z = true := h x y z
theorem sub8_l (a b : Nat) : ((a &&& b) % 8) &&& a = (a &&& b) % 8 := by
  rw [mod8]; apply ext_bits; intro i; simp only [Nat.testBit_and]
  generalize a.testBit i = x; generalize b.testBit i = y; generalize Nat.testBit 7 i = z; revert x y z; decide
theorem sub8_r (a b : Nat) : ((a &&& b) % 8) &&& b = (a &&& b) % 8 := by
  rw [mod8]; apply ext_bits; intro i; simp only [Nat.testBit_and]
  generalize a.testBit i = x; generalize b.testBit i = y; generalize Nat.testBit 7 i = z; revert x y z; decide
theorem more8 (a b m : Nat) : ((a &&& b) % 8) &&& (((a ||| m) &&& b) % 8) = (a &&& b) % 8 := by
  rw [mod8, mod8]; apply ext_bits; intro i; simp only [Nat.testBit_and, Nat.testBit_or]
  generalize a.testBit i = x; generalize b.testBit i = y; generalize m.testBit i = u; generalize Nat.testBit 7 i = z; revert x y z u; decide
theorem more20 (a b m : Nat) : (a &&& b) &&& ((a ||| m) &&& b) = a &&& b := by
  apply ext_bits; intro i; simp only [Nat.testBit_and, Nat.testBit_or]
  generalize a.testBit i = x; generalize b.testBit i = y; generalize m.testBit i = u; revert x y u; decide
/-- Features agreed upon at a version. -/
def fea (v : Int) (a b : Nat) : Nat := if v = 1 then (a &&& b) % 8 else a &&& b
theorem three (u v : Int) (a b c : Nat) : (fea u a b &&& fea v b c) &&& (a &&& c) = fea u a b &&& fea v b c := by
  unfold fea
  split <;> split <;> (try rw [mod8]) <;> (try rw [mod8]) <;> apply ext_bits <;> intro i <;> simp only [Nat.testBit_and] <;>
    (generalize a.testBit i = x; generalize b.testBit i = y; generalize c.testBit i = u; generalize Nat.testBit 7 i = z; revert x y z u; decide)
theorem fea_le (v : Int) (a b : Nat) : fea v a b ≤ a := by
  have h : a &&& b ≤ a := Nat.and_le_left
  unfold fea
  split
  · exact Nat.le_trans (Nat.mod_le _ _) h
  · exact h
theorem agreeV_no (la ha : Int) (fa : Nat) (lb hb : Int) (fb : Nat) (h : min ha hb < max la lb) : agreeV la ha fa lb hb fb = (0, 0, 22) := by
  unfold agreeV; rw [if_pos h]
theorem agreeV_yes (la ha : Int) (fa : Nat) (lb hb : Int) (fb : Nat) (g1 : Right la ha fa) (g2 : Right lb hb fb) (h : ¬ min ha hb < max la lb) : agreeV la ha fa lb hb fb = (min ha hb, ((fea (min ha hb) fa fb : Nat) : Int), 0) := by
  unfold Right at g1 g2
  unfold agreeV fea
  rw [if_neg h]
  by_cases c : min ha hb = 1
  · rw [if_pos c, if_pos c, c]
  · rw [if_neg c, if_neg c, show min ha hb = 2 by omega]
theorem agreeV_comm (la ha : Int) (fa : Nat) (lb hb : Int) (fb : Nat) : agreeV lb hb fb la ha fa = agreeV la ha fa lb hb fb := by
  unfold agreeV
  rw [Nat.and_comm fb fa, Int.min_comm hb ha, Int.max_comm lb la]
/-- Program and reference agree alike. -/
theorem same (la ha fa lb hb fb : Int) (h1 : fa ≤ 9223372036854775807) (h2 : fb ≤ 9223372036854775807) : ∃ v, nego_Agree.f la ha fa lb hb fb = some v ∧ ∀ k, careenref09_Agree.f (k + 6) la ha fa lb hb fb = some v := by
  by_cases g : Right la ha fa ∧ Right lb hb fb
  · obtain ⟨g1, g2⟩ := g
    obtain ⟨a, rfl⟩ := Int.eq_ofNat_of_zero_le g1.2.2.2.1
    obtain ⟨b, rfl⟩ := Int.eq_ofNat_of_zero_le g2.2.2.2.1
    exact ⟨_, agree_yes la ha a lb hb b g1 g2, ref_agree_yes la ha a lb hb b g1 g2⟩
  · exact ⟨_, agree_no la ha fa lb hb fb h1 h2 g, fun k => ref_agree_no la ha fa lb hb fb g (k + 5)⟩
end Go.Proofs.Ythfhoccghbdciaa.Negos
