/- The Go function VarintRow, called with any row of numbers, returns true: numbers put one behind the other are taken one by one, and nothing is left. No condition. -/
import Derived.Test.YtdoehfppncgieaaPAllx5
import Derived.Test.YtdoehfppncgieaaVars2
namespace Go.Proofs.Ytdoehfppncgieaa.Pure
open Go.RowKit Go.Proofs.Ytdoehfppncgieaa.PAll Go.Proofs.YtdoehfppncgieaaW.PrintWords Go.Proofs.YtdoehfppncgieaaW.PrintLast Go.Proofs.YtdoehfppncgieaaW.PrintMore Go.Proofs.Ytdoehfppncgieaa.Base Go.Proofs.Ytdoehfppncgieaa.Vari Go.Proofs.Ytdoehfppncgieaa.Vars Go.Proofs.Ytdoehfppncgieaa.HandPut

/-- The bytes of the numbers that a row's first n speak of. -/
def num1 (l : List Int) (i : Nat) : Nat := (pickN (rd l (i : Int)) 9007199254740993).toNat
theorem num1_le (l : List Int) (i : Nat) : num1 l i ≤ 9007199254740992 := by
  obtain ⟨p0, p1⟩ := pickN_lt (c := rd l (i : Int)) (n := 9007199254740993) (by decide)
  unfold num1; omega
theorem num1_eq (l : List Int) (i : Nat) : pickN (rd l (i : Int)) 9007199254740993 = ((num1 l i : Nat) : Int) := by
  obtain ⟨p0, p1⟩ := pickN_lt (c := rd l (i : Int)) (n := 9007199254740993) (by decide)
  unfold num1; omega
/-- The bytes of d numbers from the i-th on. -/
def cat (l : List Int) : Nat → Nat → List Nat
  | _, 0 => []
  | i, d + 1 => dg (num1 l i) ++ cat l (i + 1) d
theorem cat_last (l : List Int) : ∀ (d i : Nat), cat l i (d + 1) = cat l i d ++ dg (num1 l (i + d))
  | 0, i => by simp [cat]
  | d + 1, i => by rw [cat, cat_last l d (i + 1), cat, List.append_assoc, show i + 1 + d = i + (d + 1) by omega]
theorem cat_len (l : List Int) : ∀ (d i : Nat), (cat l i d).length ≤ 8 * d
  | 0, i => by simp [cat]
  | d + 1, i => by
    have := cat_len l d (i + 1)
    have h := dg_len 7 (num1 l i) (by have := num1_le l i; omega)
    rw [cat, List.length_append]; omega
theorem take_all (l : List Int) (hw : ∀ i : Nat, i < l.length → (Lit.int .i64 (rd l (i : Int))).wf = true) (n : Nat) (hn : n ≤ l.length) (h20 : n ≤ 20) : ∀ (d j k : Nat) (s : ByteArray), j + d = n → bl s = cat l j d →
    careenlaw01_VarintRow.l1 (k + d + 21) l true s (n : Int) (j : Int) = some true := by
  intro d
  induction d with
  | zero =>
    intro j k s hj he
    have hs : s.toList = [] := by
      have : (bl s) = [] := he
      unfold bl at this
      exact List.map_eq_nil_iff.1 this
    rw [careenlaw01_VarintRow.l1, if_neg (by omega), if_pos rfl, hs]; rfl
  | succ d ih =>
    intro j k s hj he
    have hle := num1_le l j
    have hp := shape_pos (dg_shape (num1 l j))
    have hz : (bl s).length = (dg (num1 l j)).length + (cat l (j + 1) d).length := by rw [he, cat, List.length_append]
    rw [bl_len] at hz
    have hd : bl (s.extract (dg (num1 l j)).length s.size) = cat l (j + 1) d := by rw [bl_drop, he, cat, List.drop_left']; rfl
    rw [show k + (d + 1) + 21 = (k + d + 1) + 20 + 1 from by omega, careenlaw01_VarintRow.l1, if_pos (by omega), take_eq, Option.bind_some, he, cat, take_put _ hle]
    dsimp only
    rw [if_pos rfl, if_pos (by omega), if_pos (by omega), pick_eq _ _ (hw j (by omega)) (by decide), Option.bind_some, num1_eq, if_pos rfl, if_neg (by omega), if_neg (by omega), if_pos (by omega), if_pos (by omega), Int.toNat_natCast, wrap64_id (by omega) (by omega), show (j : Int) + 1 = ((j + 1 : Nat) : Int) from by omega, show k + d + 1 + 20 = k + d + 21 from by omega]
    exact ih (j + 1) k _ (by omega) hd
theorem put_all (l : List Int) (hw : ∀ i : Nat, i < l.length → (Lit.int .i64 (rd l (i : Int))).wf = true) (n : Nat) (hn : n ≤ l.length) (h20 : n ≤ 20) : ∀ (d i k : Nat) (s : ByteArray), i + d = n → 50 ≤ k → bl s = cat l 0 i →
    careenlaw01_VarintRow.l0 (k + d + 1) l true s (n : Int) (i : Int) = some true := by
  intro d
  induction d with
  | zero =>
    intro i k s hi hk he
    obtain rfl : i = n := by omega
    rw [careenlaw01_VarintRow.l0, if_neg (by omega)]
    have := take_all l hw i hn h20 i 0 (k - i - 21) s (by omega) he
    rw [show k - i - 21 + i + 21 = k from by omega] at this
    exact this
  | succ d ih =>
    intro i k s hi hk he
    have hle := num1_le l i
    have hz := cat_len l i 0
    rw [← he, bl_len] at hz
    have hzn := num_size (num1 l i)
    have hl8 := dg_len 7 (num1 l i) (by omega)
    have he2 : bl (s ++ num (num1 l i)) = cat l 0 (i + 1) := by rw [bl_append, he, bl_num, cat_last, Nat.zero_add]
    rw [careenlaw01_VarintRow.l0, if_pos (by omega), if_pos (by omega), if_pos (by omega), pick_eq _ _ (hw i (by omega)) (by decide), Option.bind_some, num1_eq, put_ok _ hle, Option.bind_some]
    dsimp only
    rw [if_pos rfl, if_pos (by omega), wrap64_id (by omega) (by omega), show (i : Int) + 1 = ((i + 1 : Nat) : Int) from by omega, show k + (d + 1) = k + d + 1 from by omega]
    exact ih (i + 1) k _ (by omega) hk he2

theorem VarintRow : careenlaw01_VarintRow.Pure := by
  intro l hl _ hw
  have hw' : ∀ i : Nat, i < l.length → (Lit.int .i64 (rd l (i : Int))).wf = true := by
    intro i hi
    unfold rd
    rw [Int.toNat_natCast, List.getD_eq_getElem?_getD, List.getElem?_eq_getElem hi]
    exact hw _ (List.getElem_mem hi)
  refine ⟨100, ?_⟩
  unfold careenlaw01_VarintRow.f
  rw [awake_eq 100 (by decide), Option.bind_some]
  have em : mn (l.length : Int) 20 = ((min l.length 20 : Nat) : Int) := by rw [mn_eq]; omega
  rw [em]
  have := put_all l hw' (min l.length 20) (by omega) (by omega) (min l.length 20) 0 (99 - min l.length 20) ⟨#[]⟩ (by omega) (by omega) (by show bl _ = _; rw [bl, tl_nil]; rfl)
  rw [show 99 - min l.length 20 + min l.length 20 + 1 = 100 from by omega] at this
  exact this
#print axioms VarintRow
end Go.Proofs.Ytdoehfppncgieaa.Pure
