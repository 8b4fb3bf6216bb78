/- The Go function MailStays, called with any letters and places, returns true: what is taken was posted; what is neither taken nor lost stays, in order. No condition. -/
import Derived.Test.YtmgfkpeadkfioaaPAllx5
import Derived.Test.YtmgfkpeadkfioaaMails
namespace Go.Proofs.Ytmgfkpeadkfioaa.Pure
open Go.RowKit Go.Proofs.Ytmgfkpeadkfioaa.PAll Go.Proofs.YtmgfkpeadkfioaaW.PrintWords Go.Proofs.YtmgfkpeadkfioaaW.PrintLast Go.Proofs.YtmgfkpeadkfioaaW.PrintMore Go.Proofs.Ytmgfkpeadkfioaa.Base Go.Proofs.Ytmgfkpeadkfioaa.Mails
theorem stays_end (x1 : List Int) (l : List S23) (hl : l.length ≤ 30) (i : Int) (k : Nat) (hk : 40 ≤ k) : careenlaw11_MailStays.j2 (k + 1) x1 true l l i false = some true := by
  rw [careenlaw11_MailStays.j2, if_neg (by simp), if_pos rfl, same_eq l (by omega) k (by omega), Option.bind_some]
theorem stays_take (x1 : List Int) (hw : ∀ y ∈ x1, (Lit.int .i64 y).wf = true) : ∀ (d i k : Nat) (l : List S23), i + d = 40 → 3 * d + 50 ≤ k → l.length ≤ 30 → careenlaw11_MailStays.l1 k x1 true l l (i : Int) = some true := by
  intro d
  induction d with
  | zero =>
    intro i k l hi hk hl
    obtain ⟨k, rfl⟩ : ∃ m, k = m + 2 := ⟨k - 2, by omega⟩
    rw [careenlaw11_MailStays.l1]
    by_cases h : (i : Int) < (x1.length : Int)
    · rw [if_pos h, if_neg (by omega)]; exact stays_end x1 l hl _ k (by omega)
    · rw [if_neg h]; exact stays_end x1 l hl _ k (by omega)
  | succ d ih =>
    intro i k l hi hk hl
    obtain ⟨k, rfl⟩ : ∃ m, k = m + 3 := ⟨k - 3, by omega⟩
    rw [careenlaw11_MailStays.l1]
    by_cases h : (i : Int) < (x1.length : Int)
    · rw [if_pos h, if_pos (by omega)]
      by_cases h0 : l.length = 0
      · rw [decide_eq_false (by omega)]; exact stays_end x1 l hl _ (k + 1) (by omega)
      · have hx : i < x1.length := by omega
        have b1 : (0 : Int) ≤ (i : Int) := by omega
        have bl : (0 : Int) < (l.length : Int) := by omega
        have bd : (l.length : Int) > 0 := bl
        have b2 : l.length < 1000000 := by omega
        have hi2 : i + 1 + d = 40 := by omega
        have hk2 : 3 * d + 50 ≤ k := by omega
        obtain ⟨p0, p1⟩ := pickN_lt (c := x1[i]) (n := (l.length : Int)) bl
        obtain ⟨m, em⟩ := Int.eq_ofNat_of_zero_le p0
        rw [em] at p1
        have hm : m < l.length := by omega
        have b3 : (0 : Int) ≤ (m : Int) := by omega
        have b4 : (m : Int) ≤ (l.length : Int) := by omega
        have b5 : (0 : Int) ≤ ((m + 1 : Nat) : Int) := by omega
        have b6 : ((m + 1 : Nat) : Int) ≤ (l.length : Int) := by omega
        have hg := gone_len l m hm
        have b7 : (gone l m).length < 1000000 := by omega
        have b8 : (gone l m).length < k + 1 := by omega
        have b9 : (gone l m).length < k := by omega
        have b10 : (gone l m).length ≤ 30 := by omega
        have t1 : ([] : List S23).length + (l.take m).length < 4398046511104 := by rw [List.length_take, List.length_nil]; omega
        have t2 : ([] ++ l.take m : List S23).length + (l.drop (m + 1)).length < 4398046511104 := by rw [List.nil_append, List.length_drop, List.length_take]; omega
        have eg : ([] ++ l.take m : List S23) ++ l.drop (m + 1) = gone l m := rfl
        have ew : wrap64 ((i : Int) + 1) = ((i + 1 : Nat) : Int) := by rw [wrap64_id (by omega) (by omega)]; omega
        have em1 : wrap64 ((m : Int) + 1) = ((m + 1 : Nat) : Int) := by clear ew; rw [wrap64_id (by omega) (by omega)]; omega
        have er : rd x1 (i : Int) = x1[i] := by
          unfold rd
          rw [Int.toNat_natCast, List.getD_eq_getElem?_getD, List.getElem?_eq_getElem hx]; rfl
        have hy := hw _ (List.getElem_mem hx)
        have ep := pick_eq x1[i] (l.length : Int) hy bl
        rw [em] at ep
        rw [decide_eq_true bd, careenlaw11_MailStays.j2, if_pos rfl, if_pos b1, if_pos h, er, ep, Option.bind_some, take_eq l b2 m hm, Option.bind_some, lose_eq l b2 m hm, Option.bind_some, if_pos rfl, if_pos rfl, if_pos b3, if_pos p1, if_neg (by simp), same_eq (gone l m) b7 (k + 1) b8, Option.bind_some,
          careenlaw11_MailStays.j3, if_neg (by simp), if_pos b3, if_pos b4, Option.bind_some, Int.toNat_natCast, if_pos t1, Option.bind_some, em1, if_pos b5, if_pos b6, Option.bind_some, Int.toNat_natCast, if_pos t2, Option.bind_some, eg, same_eq (gone l m) b7 k b9, Option.bind_some, if_pos rfl, ew]
        exact ih (i + 1) k (gone l m) hi2 hk2 b10
    · rw [if_neg h]; exact stays_end x1 l hl _ (k + 1) (by omega)
theorem stays_post (x1 : List Int) (hw : ∀ y ∈ x1, (Lit.int .i64 y).wf = true) (l : List S23) (hl : l.length ≤ 30) : ∀ (d i k : Nat), i + d = l.length → d + 200 ≤ k → careenlaw11_MailStays.l0 k x1 true l (l.take i) (i : Int) = some true := by
  intro d
  induction d with
  | zero =>
    intro i k hi hk
    obtain ⟨k, rfl⟩ : ∃ m, k = m + 1 := ⟨k - 1, by omega⟩
    rw [careenlaw11_MailStays.l0, if_neg (by omega), List.take_of_length_le (by omega)]
    exact stays_take x1 hw 40 0 k l (by omega) (by omega) hl
  | succ d ih =>
    intro i k hi hk
    obtain ⟨k, rfl⟩ : ∃ m, k = m + 1 := ⟨k - 1, by omega⟩
    have hx : i < l.length := by omega
    have ew : wrap64 ((i : Int) + 1) = ((i + 1 : Nat) : Int) := by rw [wrap64_id (by omega) (by omega)]; omega
    have e : l.take i ++ [(⟨l[i].f0, l[i].f1, l[i].f2⟩ : S23)] = l.take (i + 1) := by rw [List.take_succ_eq_append_getElem hx]
    rw [careenlaw11_MailStays.l0, if_pos (by omega), if_pos (by omega), rd23 l i hx, post_less (l.take i) (by rw [List.length_take]; omega), Option.bind_some, if_pos rfl, ew, e]
    exact ih (i + 1) k (by omega) (by omega)
theorem MailStays : careenlaw11_MailStays.Pure := by
  intro x x1 _ hx _ hw
  refine ⟨300, ?_⟩
  have hl := letters_len x
  unfold careenlaw11_MailStays.f
  rw [awake_eq 300 (by decide), Option.bind_some, letters_eq x hx 300 (by decide), Option.bind_some]
  exact stays_post x1 hw (letters x) (by omega) (letters x).length 0 300 (by omega) (by omega)
#print axioms MailStays
end Go.Proofs.Ytmgfkpeadkfioaa.Pure
