/- The Go function MailFull, called with any number and letter, returns true: as many letters as there may be are posted, one more is not. No condition. -/
import Derived.Test.YtmgfkpeadkfioaaPAllx3
import Derived.Test.YtmgfkpeadkfioaaMails
namespace Go.Proofs.Ytmgfkpeadkfioaa.Pure
open Go.RowKit Go.Proofs.Ytmgfkpeadkfioaa.PAll Go.Proofs.YtmgfkpeadkfioaaW.PrintWords Go.Proofs.YtmgfkpeadkfioaaW.PrintLast Go.Proofs.YtmgfkpeadkfioaaW.PrintMore Go.Proofs.Ytmgfkpeadkfioaa.Base Go.Proofs.Ytmgfkpeadkfioaa.Mails
theorem full_loop (n : Nat) (hn : n < 204) (a b : Int) (c : ByteArray) : ∀ (d i k : Nat) (l : List S23), i + d = n → d < k → l.length = min i 200 → careenlaw11_MailFull.l0 k true (n : Int) l (i : Int) a b c = some true := by
  intro d
  induction d with
  | zero =>
    intro i k l hi hk hl
    obtain ⟨k, rfl⟩ : ∃ m, k = m + 1 := ⟨k - 1, by omega⟩
    obtain rfl : i = n := by omega
    rw [careenlaw11_MailFull.l0, if_neg (by omega)]
    unfold mail_Copy.f
    by_cases h0 : i = 0
    · subst h0
      rw [take_none l (by omega) 0 (by omega), Option.bind_some, if_neg (by simp)]
      unfold api_Letter_17.f
      rw [if_pos (by omega), Option.bind_some, Option.bind_some, if_pos rfl, if_neg (by decide)]
      rfl
    · have t0 : mail_Take.f l 0 = some ((rd_T23 l 0).f0, (rd_T23 l 0).f1, (rd_T23 l 0).f2, gone l 0, true) := take_eq l (by omega) 0 (by omega)
      rw [t0, Option.bind_some, if_pos rfl]
      by_cases h2 : i < 200
      · rw [post_less l (by omega), Option.bind_some, Option.bind_some, if_pos rfl, if_pos (by omega), decide_eq_true (show (i : Int) < 200 by omega), decide_eq_false (show ¬ (i : Int) ≥ 200 by omega)]
        rfl
      · rw [post_full l (by omega) (by omega), Option.bind_some, Option.bind_some, if_pos rfl, if_pos (by omega), decide_eq_false (show ¬ (i : Int) < 200 by omega), decide_eq_true (show (i : Int) ≥ 200 by omega)]
        rfl
  | succ d ih =>
    intro i k l hi hk hl
    obtain ⟨k, rfl⟩ : ∃ m, k = m + 1 := ⟨k - 1, by omega⟩
    have ew : wrap64 ((i : Int) + 1) = ((i + 1 : Nat) : Int) := by rw [wrap64_id (by omega) (by omega)]; omega
    rw [careenlaw11_MailFull.l0, if_pos (by omega), ew]
    by_cases h2 : i < 200
    · rw [post_less l (by omega), Option.bind_some, decide_eq_true (show (i : Int) < 200 by omega), if_neg (by simp), if_pos (by rw [mn_eq, List.length_append]; simp; omega)]
      exact ih (i + 1) k _ (by omega) (by omega) (by rw [List.length_append]; simp; omega)
    · rw [post_full l (by omega) (by omega), Option.bind_some, decide_eq_false (show ¬ (i : Int) < 200 by omega), if_neg (by simp), if_pos (by rw [mn_eq]; show (l.length : Int) = _; omega)]
      exact ih (i + 1) k l (by omega) (by omega) (by omega)
theorem MailFull : careenlaw11_MailFull.Pure := by
  intro n a b c hn _ _ _
  refine ⟨300, ?_⟩
  obtain ⟨p0, p1⟩ := pickN_lt (c := n) (n := 204) (by decide)
  unfold careenlaw11_MailFull.f
  rw [awake_eq 300 (by decide), Option.bind_some, pick_eq n 204 hn (by decide), Option.bind_some]
  obtain ⟨m, em⟩ := Int.eq_ofNat_of_zero_le p0
  rw [em] at p1 ⊢
  exact full_loop m (by omega) a b c m 0 300 [] (by omega) (by omega) (by simp)
#print axioms MailFull
end Go.Proofs.Ytmgfkpeadkfioaa.Pure
