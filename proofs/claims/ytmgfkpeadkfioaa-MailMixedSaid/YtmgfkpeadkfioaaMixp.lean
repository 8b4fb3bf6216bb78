/- Letters counted by whom they are to and how long they are. -/
import Derived.Test.YtmgfkpeadkfioaaMails
namespace Go.Proofs.Ytmgfkpeadkfioaa.Mix
open Go.RowKit Go.Proofs.YtmgfkpeadkfioaaW.PrintWords Go.Proofs.YtmgfkpeadkfioaaW.PrintLast Go.Proofs.YtmgfkpeadkfioaaW.PrintMore Go.Proofs.Ytmgfkpeadkfioaa.PAll Go.Proofs.Ytmgfkpeadkfioaa.Base Go.Proofs.Ytmgfkpeadkfioaa.Mails
/-- A letter's place among the twelve. -/
def idx (m : S23) : Nat := m.f1.toNat * 4 + min m.f2.size 3
def num (M : List S23) (j : Nat) : Int := ((M.filter (fun m => idx m == j)).length : Int)
def cells (M : List S23) : Array Value := ((List.range 12).map fun j => Value.int .i64 (num M j)).toArray
def Good (m : S23) : Prop := 0 ≤ m.f1 ∧ m.f1 ≤ 2
theorem idx_lt {m : S23} (h : Good m) : idx m < 12 := by
  have := h.1; have := h.2
  unfold idx; omega
theorem num_bound (M : List S23) (j : Nat) : 0 ≤ num M j ∧ num M j ≤ M.length := by
  unfold num
  have := List.length_filter_le (fun m => idx m == j) M
  omega
theorem num_append (A B : List S23) (j : Nat) : num (A ++ B) j = num A j + num B j := by
  unfold num
  rw [List.filter_append, List.length_append]; omega
theorem num_one (m : S23) (j : Nat) : num [m] j = if idx m = j then 1 else 0 := by
  unfold num
  by_cases h : idx m = j
  · rw [if_pos h, List.filter_cons_of_pos (by simpa using h)]; rfl
  · rw [if_neg h, List.filter_cons_of_neg (by simpa using h)]; rfl
theorem num_snoc (M : List S23) (m : S23) (j : Nat) : num (M ++ [m]) j = num M j + if idx m = j then 1 else 0 := by
  rw [num_append, num_one]
theorem num_gone (M : List S23) (i : Nat) (h : i < M.length) (j : Nat) : num (gone M i) j = num M j - if idx M[i] = j then 1 else 0 := by
  have e : M = M.take i ++ ([M[i]] ++ M.drop (i + 1)) := by
    rw [List.singleton_append, ← List.drop_eq_getElem_cons, List.take_append_drop]
  have e2 : num M j = num (M.take i) j + (num [M[i]] j + num (M.drop (i + 1)) j) := by rw [← num_append, ← num_append, ← e]
  unfold gone
  rw [num_append, e2, num_one]; omega
theorem cells_size (M : List S23) : (cells M).size = 12 := by simp [cells]
theorem cells_at (M : List S23) (j : Nat) (h : j < 12) : (cells M)[j]? = some (.int .i64 (num M j)) := by
  unfold cells
  rw [List.getElem?_toArray, List.getElem?_map, List.getElem?_range h]; rfl
theorem cells_set (M M' : List S23) (a : Nat) (v : Int) (ha : a < 12) (h1 : num M' a = v) (h2 : ∀ j, j ≠ a → num M' j = num M j) : (cells M).setIfInBounds a (.int .i64 v) = cells M' := by
  apply Array.ext_getElem?
  intro j
  rw [Array.getElem?_setIfInBounds]
  by_cases hj : a = j
  · subst hj
    rw [if_pos rfl, if_pos (by rw [cells_size]; exact ha), cells_at M' a ha, h1]
  · rw [if_neg hj]
    by_cases hl : j < 12
    · rw [cells_at M j hl, cells_at M' j hl, h2 j (fun e => hj e.symm)]
    · rw [Array.getElem?_eq_none (by rw [cells_size]; omega), Array.getElem?_eq_none (by rw [cells_size]; omega)]
theorem cells_nil : cells [] = #[.int .i64 0, .int .i64 0, .int .i64 0, .int .i64 0, .int .i64 0, .int .i64 0, .int .i64 0, .int .i64 0, .int .i64 0, .int .i64 0, .int .i64 0, .int .i64 0] := rfl
/-- A letter's numbers: whom it is to, and how long, as the program has them. -/
theorem letter_nums {m : S23} (h : Good m) : ∃ t b : Nat, m.f1 = (t : Int) ∧ (if 3 < (m.f2.size : Int) then 3 else (m.f2.size : Int)) = (b : Int) ∧ t < 3 ∧ b < 4 ∧ t * 4 + b = idx m := by
  have h0 := h.1; have h1 := h.2
  refine ⟨m.f1.toNat, min m.f2.size 3, by omega, ?_, by omega, by omega, rfl⟩
  split <;> omega
theorem good_letters (x : List S45) : ∀ m ∈ letters x, Good m := by
  intro m hm
  unfold letters at hm
  obtain ⟨y, _, rfl⟩ := List.mem_map.mp hm
  obtain ⟨p0, p1⟩ := pickN_lt (c := y.f1) (n := 3) (by decide)
  exact ⟨p0, by show pickN y.f1 3 ≤ 2; omega⟩
theorem good_gone {M : List S23} (h : ∀ m ∈ M, Good m) (i : Nat) : ∀ m ∈ gone M i, Good m := by
  intro m hm
  unfold gone at hm
  rcases List.mem_append.mp hm with hm | hm
  · exact h m (List.mem_of_mem_take hm)
  · exact h m (List.mem_of_mem_drop hm)
end Go.Proofs.Ytmgfkpeadkfioaa.Mix
