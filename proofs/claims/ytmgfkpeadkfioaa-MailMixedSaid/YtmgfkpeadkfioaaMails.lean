/- What the printed functions of the mail answer, in plain words. -/
import Derived.Test.YtmgfkpeadkfioaaBase
import Derived.Test.YtmgfkpeadkfioaaPAllx0
import Derived.Test.YtmgfkpeadkfioaaPAllx1
import Derived.Test.YtmgfkpeadkfioaaPAllx2
import Derived.Test.YtmgfkpeadkfioaaPAllx3
import Derived.Test.YtmgfkpeadkfioaaPAllx4
namespace Go.Proofs.Ytmgfkpeadkfioaa.Mails
open Go.RowKit Go.Proofs.YtmgfkpeadkfioaaW.PrintWords Go.Proofs.YtmgfkpeadkfioaaW.PrintLast Go.Proofs.YtmgfkpeadkfioaaW.PrintMore Go.Proofs.Ytmgfkpeadkfioaa.PAll Go.Proofs.Ytmgfkpeadkfioaa.Base
theorem pick_eq (c n : Int) (hc : (Lit.int .i64 c).wf = true) (hn : 0 < n) : careenlaw11_pick.f c n = some (pickN c n) := by
  obtain ⟨h0, h1⟩ := wf_i64 hc
  exact pick_tells h0 h1 hn
theorem awake_eq (k : Nat) (hk : 60 ≤ k) : careenlaw11_awake.f k = some true :=
  at_rounds (fun k => careenlaw11_awake.mono k) hk (by decide +kernel)
theorem post_less (l : List S23) (h : l.length < 200) (a b : Int) (c : ByteArray) : mail_Post.f l a b c = some (l ++ [⟨a, b, c⟩], 0) := by
  unfold mail_Post.f api_Letter_17.f
  rw [if_pos (by omega), Option.bind_some, if_neg (by omega), if_pos (by omega)]
theorem post_full (l : List S23) (h : 200 ≤ l.length) (h2 : l.length < 1000000) (a b : Int) (c : ByteArray) : mail_Post.f l a b c = some (l, 50) := by
  unfold mail_Post.f api_Letter_17.f
  rw [if_pos (by omega), Option.bind_some, if_pos (by omega)]
/-- What is left when the letter at place i is taken. -/
def gone (l : List S23) (i : Nat) : List S23 := l.take i ++ l.drop (i + 1)
theorem gone_len (l : List S23) (i : Nat) (h : i < l.length) : (gone l i).length + 1 = l.length := by
  unfold gone
  rw [List.length_append, List.length_take, List.length_drop]; omega
theorem take_eq (l : List S23) (h : l.length < 1000000) (i : Nat) (hi : i < l.length) : mail_Take.f l (i : Int) = some ((rd_T23 l (i : Int)).f0, (rd_T23 l (i : Int)).f1, (rd_T23 l (i : Int)).f2, gone l i, true) := by
  unfold mail_Take.f gone
  rw [if_pos h, if_pos (by omega), Int.toNat_natCast]
theorem take_none (l : List S23) (h : l.length < 1000000) (i : Int) (hi : ¬ (0 ≤ i ∧ i < (l.length : Int))) : mail_Take.f l i = some (0, 0, ⟨#[]⟩, l, false) := by
  unfold mail_Take.f
  rw [if_pos h, if_neg hi]
theorem lose_eq (l : List S23) (h : l.length < 1000000) (i : Nat) (hi : i < l.length) : mail_Lose.f l (i : Int) = some (gone l i, 0) := by
  unfold mail_Lose.f
  rw [take_eq l h i hi, Option.bind_some, if_pos rfl]
theorem same_loop (l : List S23) (hl : l.length < 1000000) : ∀ (d i k : Nat), i + d = l.length → d < k → careenref11_Same.l0 k l l (i : Int) = some true := by
  intro d
  induction d with
  | zero =>
    intro i k hi hk
    obtain ⟨k, rfl⟩ : ∃ m, k = m + 1 := ⟨k - 1, by omega⟩
    rw [careenref11_Same.l0, if_neg (by omega)]
  | succ d ih =>
    intro i k hi hk
    obtain ⟨k, rfl⟩ : ∃ m, k = m + 1 := ⟨k - 1, by omega⟩
    have ew : wrap64 ((i : Int) + 1) = ((i + 1 : Nat) : Int) := by rw [wrap64_id (by omega) (by omega)]; omega
    rw [careenref11_Same.l0, if_pos (by omega), if_pos (by omega), if_pos (by omega), if_neg (by simp), ew]
    exact ih (i + 1) k (by omega) (by omega)
theorem same_eq (l : List S23) (hl : l.length < 1000000) (k : Nat) (hk : l.length < k) : careenref11_Same.f k l l = some true := by
  unfold careenref11_Same.f
  rw [if_pos rfl]
  exact same_loop l hl l.length 0 k (by omega) hk
/-- A raw letter. -/
def body (c : Int) : ByteArray := rdOf ByteArray.empty [(⟨#[]⟩ : ByteArray), (⟨#[97]⟩ : ByteArray), (⟨#[98, 99]⟩ : ByteArray), (⟨#[1]⟩ : ByteArray)] (pickN c 4)
def letter (x : S45) : S23 := ⟨pickN x.f0 3, pickN x.f1 3, body x.f2⟩
def letters (x : List S45) : List S23 := (x.take 30).map letter
theorem letters_len (x : List S45) : (letters x).length = min 30 x.length := by unfold letters; rw [List.length_map, List.length_take]
theorem rd45 (x : List S45) (i : Nat) (h : i < x.length) : rd_T45 x (i : Int) = x[i] := by
  unfold rd_T45
  rw [Int.toNat_natCast, List.getD_eq_getElem?_getD, List.getElem?_eq_getElem h]; rfl
theorem rd23 (x : List S23) (i : Nat) (h : i < x.length) : rd_T23 x (i : Int) = x[i] := by
  unfold rd_T23
  rw [Int.toNat_natCast, List.getD_eq_getElem?_getD, List.getElem?_eq_getElem h]; rfl
theorem letters_loop (x : List S45) (hw : ∀ y ∈ x, (Lit.int .i64 y.f0).wf = true ∧ (Lit.int .i64 y.f1).wf = true ∧ (Lit.int .i64 y.f2).wf = true) : ∀ (d i k : Nat), i + d = min 30 x.length → 2 * d + 2 ≤ k →
    careenlaw11_Letters.l0 k x ((x.take i).map letter) (i : Int) = some (letters x) := by
  intro d
  induction d with
  | zero =>
    intro i k hi hk
    obtain ⟨k, rfl⟩ : ∃ m, k = m + 2 := ⟨k - 2, by omega⟩
    have e : (x.take i).map letter = letters x := by
      unfold letters
      by_cases h : x.length ≤ 30
      · rw [List.take_of_length_le (by omega), List.take_of_length_le (by omega)]
      · rw [show i = 30 by omega]
    rw [careenlaw11_Letters.l0, e]
    by_cases h : (i : Int) < (x.length : Int)
    · rw [if_pos h, decide_eq_false (by omega), careenlaw11_Letters.j1, if_neg (by simp)]
    · rw [if_neg h, careenlaw11_Letters.j1, if_neg (by simp)]
  | succ d ih =>
    intro i k hi hk
    obtain ⟨k, rfl⟩ : ∃ m, k = m + 2 := ⟨k - 2, by omega⟩
    have hx : i < x.length := by omega
    have hy := hw _ (List.getElem_mem hx)
    have ew : wrap64 ((i : Int) + 1) = ((i + 1 : Nat) : Int) := by rw [wrap64_id (by omega) (by omega)]; omega
    obtain ⟨p0, p1⟩ := pickN_lt (c := x[i].f2) (n := 4) (by decide)
    have hlen : ((x.take i).map letter).length < 4398046511104 := by rw [List.length_map, List.length_take]; omega
    have e : (x.take i).map letter ++ [letter x[i]] = (x.take (i + 1)).map letter := by
      rw [List.take_succ_eq_append_getElem hx, List.map_append]; rfl
    rw [careenlaw11_Letters.l0, if_pos (by omega), decide_eq_true (by omega), careenlaw11_Letters.j1, if_pos rfl, if_pos (by omega), if_pos (by omega), rd45 x i hx, pick_eq _ 3 hy.1 (by decide), Option.bind_some, pick_eq _ 3 hy.2.1 (by decide), Option.bind_some, Option.bind_some, pick_eq _ 4 hy.2.2 (by decide), Option.bind_some, if_pos p0, if_pos (show pickN x[i].f2 4 < (([(⟨#[]⟩ : ByteArray), (⟨#[97]⟩ : ByteArray), (⟨#[98, 99]⟩ : ByteArray), (⟨#[1]⟩ : ByteArray)] : List ByteArray).length : Int) from p1), if_pos hlen, ew]
    have := ih (i + 1) k (by omega) (by omega)
    rw [← e] at this
    exact this
theorem letters_eq (x : List S45) (hw : ∀ y ∈ x, (Lit.int .i64 y.f0).wf = true ∧ (Lit.int .i64 y.f1).wf = true ∧ (Lit.int .i64 y.f2).wf = true) (k : Nat) (hk : 62 ≤ k) : careenlaw11_Letters.f k x = some (letters x) :=
  letters_loop x hw (min 30 x.length) 0 k (by omega) (by omega)
end Go.Proofs.Ytmgfkpeadkfioaa.Mails
