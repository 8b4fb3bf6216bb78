/- The Go function MailWhose, called with any letters, returns true: each letter is one's, whose To it has; these are all. No condition. -/
import Derived.Test.YtmgfkpeadkfioaaPAllx6
import Derived.Test.YtmgfkpeadkfioaaMails
namespace Go.Proofs.Ytmgfkpeadkfioaa.Pure
open Go.RowKit Go.Proofs.Ytmgfkpeadkfioaa.PAll Go.Proofs.YtmgfkpeadkfioaaW.PrintWords Go.Proofs.YtmgfkpeadkfioaaW.PrintLast Go.Proofs.YtmgfkpeadkfioaaW.PrintMore Go.Proofs.Ytmgfkpeadkfioaa.Base Go.Proofs.Ytmgfkpeadkfioaa.Mails
theorem pl_mem (fb : Nat → Int) (tt : Int) (k : Nat) (i : Nat) (h : i < (HandFor.pl fb tt k).length) : (HandFor.pl fb tt k)[i] < k ∧ fb (HandFor.pl fb tt k)[i] = tt := by
  have hm : ∀ j, j ∈ HandFor.pl fb tt k → j < k ∧ fb j = tt := by
    intro j hj
    unfold HandFor.pl at hj
    rw [List.mem_filter, List.mem_range] at hj
    exact ⟨hj.1, by simpa using hj.2⟩
  exact hm _ (List.getElem_mem h)
theorem pl_rise (fb : Nat → Int) (tt : Int) (k : Nat) (i j : Nat) (hij : i < j) (h : j < (HandFor.pl fb tt k).length) : (HandFor.pl fb tt k)[i] < (HandFor.pl fb tt k)[j] := by
  have p : (HandFor.pl fb tt k).Pairwise (· < ·) := List.Pairwise.filter _ List.pairwise_lt_range
  exact List.pairwise_iff_getElem.mp p i j (by omega) h hij
theorem pl_all (fb : Nat → Int) : ∀ (k : Nat), (∀ j, j < k → 0 ≤ fb j ∧ fb j < 3) → (HandFor.pl fb 0 k).length + (HandFor.pl fb 1 k).length + (HandFor.pl fb 2 k).length = k ∧ (HandFor.pl fb 3 k).length = 0
  | 0, _ => ⟨rfl, rfl⟩
  | k + 1, h => by
    obtain ⟨h1, h2⟩ := pl_all fb k (fun j hj => h j (by omega))
    have hk := h k (by omega)
    rw [HandFor.pl_succ fb 0, HandFor.pl_succ fb 1, HandFor.pl_succ fb 2, HandFor.pl_succ fb 3]
    have e : fb k = 0 ∨ fb k = 1 ∨ fb k = 2 := by omega
    clear h hk
    have n0 : ∀ a b : Int, a ≠ b → (if (a == b) = true then [k] else []) = [] := fun a b hab => if_neg (by simpa using hab)
    have p0 : ∀ a : Int, (if (a == a) = true then [k] else []) = [k] := fun a => if_pos (by simp)
    rcases e with e | e | e
    · rw [e, p0 0, n0 0 1 (by decide), n0 0 2 (by decide), n0 0 3 (by decide)]
      simp only [List.length_append, List.length_cons, List.length_nil]
      omega
    · rw [e, p0 1, n0 1 0 (by decide), n0 1 2 (by decide), n0 1 3 (by decide)]
      simp only [List.length_append, List.length_cons, List.length_nil]
      omega
    · rw [e, p0 2, n0 2 0 (by decide), n0 2 1 (by decide), n0 2 3 (by decide)]
      simp only [List.length_append, List.length_cons, List.length_nil]
      omega
def tos (l : List S23) : Nat → Int := fun j => (rd_T23 l (j : Int)).f1
def mine (l : List S23) (tt : Int) : List Int := (HandFor.pl (tos l) tt l.length).map fun j : Nat => (j : Int)
theorem for_eq (l : List S23) (h : l.length < 1000000) (tt : Int) : mail_For.f l tt = some (mine l tt) := by
  unfold mail_For.f mine tos
  rw [if_pos h]
theorem mine_len (l : List S23) (tt : Int) : (mine l tt).length = (HandFor.pl (tos l) tt l.length).length := by unfold mine; rw [List.length_map]
theorem rd_mine (l : List S23) (tt : Int) (i : Nat) (h : i < (HandFor.pl (tos l) tt l.length).length) : rd (mine l tt) (i : Int) = (((HandFor.pl (tos l) tt l.length)[i] : Nat) : Int) := by
  unfold rd mine
  rw [Int.toNat_natCast, List.getD_eq_getElem?_getD, List.getElem?_map, List.getElem?_eq_getElem h]; rfl
theorem whose_round (l : List S23) (hl : l.length < 1000000) (x5 tt : Int) (i : Nat) (h : i < (HandFor.pl (tos l) tt l.length).length) (k : Nat) :
    careenlaw11_MailWhose.l1 (k + 1) true l x5 tt (mine l tt) (i : Int) = careenlaw11_MailWhose.l1 k true l x5 tt (mine l tt) ((i + 1 : Nat) : Int) := by
  obtain ⟨m1, m2⟩ := pl_mem (tos l) tt l.length i h
  have hn := mine_len l tt
  have hlen := HandFor.pl_len (tos l) tt l.length
  have b1 : (i : Int) < ((mine l tt).length : Int) := by omega
  have b2 : (0 : Int) ≤ (i : Int) := by omega
  have hr := rd_mine l tt i h
  have m3 : (rd_T23 l (((HandFor.pl (tos l) tt l.length)[i] : Nat) : Int)).f1 = tt := m2
  have ris : ∀ j, j < i → (hj : j < (HandFor.pl (tos l) tt l.length).length) → (HandFor.pl (tos l) tt l.length)[j] < (HandFor.pl (tos l) tt l.length)[i] := fun j hj _ => pl_rise (tos l) tt l.length j i hj h
  have rj := rd_mine l tt (i - 1) (by omega)
  have ris1 := fun hi : 0 < i => ris (i - 1) (by omega) (by omega)
  clear ris m2
  generalize (HandFor.pl (tos l) tt l.length)[i] = a at m1 hr m3 ris1
  have b3 : ¬ (a : Int) < 0 := by omega
  have b4 : ¬ (a : Int) ≥ (l.length : Int) := by omega
  have b5 : (0 : Int) ≤ (a : Int) := by omega
  have b6 : (a : Int) < (l.length : Int) := by omega
  by_cases g : i = 0
  · have g2 : ¬ (i : Int) > 0 := by omega
    have ew : wrap64 ((i : Int) + 1) = ((i + 1 : Nat) : Int) := by rw [wrap64_id (by omega) (by omega)]; omega
    rw [careenlaw11_MailWhose.l1, if_pos b1, if_pos b2, hr, if_neg b3, if_neg b4, if_pos b5, if_pos b6, if_pos m3, if_neg g2, ew]
  · have ris2 := ris1 (by omega)
    clear ris1
    generalize (HandFor.pl (tos l) tt l.length)[i - 1] = c at rj ris2
    have g2 : (i : Int) > 0 := by omega
    have b7 : ¬ (a : Int) ≤ (c : Int) := by omega
    have b8 : (0 : Int) ≤ ((i - 1 : Nat) : Int) := by omega
    have b9 : ((i - 1 : Nat) : Int) < ((mine l tt).length : Int) := by omega
    have ew : wrap64 ((i : Int) + 1) = ((i + 1 : Nat) : Int) := by rw [wrap64_id (by omega) (by omega)]; omega
    have em : wrap64 ((i : Int) - 1) = ((i - 1 : Nat) : Int) := by clear ew; rw [wrap64_id (by omega) (by omega)]; omega
    rw [careenlaw11_MailWhose.l1, if_pos b1, if_pos b2, hr, if_neg b3, if_neg b4, if_pos b5, if_pos b6, if_pos m3, if_pos g2, em, if_pos b8, if_pos b9, rj, if_neg b7, ew]
theorem whose_all (l : List S23) (hl : l.length < 1000000) (x5 tt : Int) : ∀ (d i k : Nat), i + d = (HandFor.pl (tos l) tt l.length).length → 
    careenlaw11_MailWhose.l1 (k + d + 1) true l x5 tt (mine l tt) (i : Int) = careenlaw11_MailWhose.l0 k true l (wrap64 (x5 + ((mine l tt).length : Int))) (wrap64 (tt + 1)) := by
  intro d
  induction d with
  | zero =>
    intro i k hi
    have hn := mine_len l tt
    rw [show k + 0 + 1 = k + 1 from rfl, careenlaw11_MailWhose.l1, if_neg (by omega)]
  | succ d ih =>
    intro i k hi
    rw [show k + (d + 1) + 1 = k + d + 1 + 1 from by omega, whose_round l hl x5 tt i (by omega)]
    exact ih (i + 1) k (by omega)
theorem whose_to (l : List S23) (hl : l.length < 1000000) (x5 tt : Int) (h : tt < 3) (k : Nat) : careenlaw11_MailWhose.l0 (k + (HandFor.pl (tos l) tt l.length).length + 1 + 1) true l x5 tt = careenlaw11_MailWhose.l0 k true l (wrap64 (x5 + ((mine l tt).length : Int))) (wrap64 (tt + 1)) := by
  rw [careenlaw11_MailWhose.l0, if_pos h, for_eq l hl, Option.bind_some]
  exact whose_all l hl x5 tt _ 0 k (by omega)
theorem MailWhose : careenlaw11_MailWhose.Pure := by
  intro x _ hx
  refine ⟨300, ?_⟩
  have hn := letters_len x
  unfold careenlaw11_MailWhose.f
  rw [awake_eq 300 (by decide), Option.bind_some, letters_eq x hx 300 (by decide), Option.bind_some]
  have ht : ∀ j, j < (letters x).length → 0 ≤ tos (letters x) j ∧ tos (letters x) j < 3 := by
    intro j hj
    unfold tos
    rw [rd23 _ j hj]
    simp only [letters, List.getElem_map]
    exact pickN_lt (by decide)
  obtain ⟨e1, e2⟩ := pl_all (tos (letters x)) (letters x).length ht
  have hl : (letters x).length < 1000000 := by omega
  have h30 : (letters x).length ≤ 30 := by omega
  clear ht
  generalize letters x = l at e1 e2 hl h30
  have l0 := mine_len l 0
  have l1 := mine_len l 1
  have l2 := mine_len l 2
  have l3 := mine_len l 3
  obtain ⟨k, hk⟩ : ∃ k, 300 = k + 1 + (HandFor.pl (tos l) 2 l.length).length + 1 + 1 + (HandFor.pl (tos l) 1 l.length).length + 1 + 1 + (HandFor.pl (tos l) 0 l.length).length + 1 + 1 := ⟨300 - (7 + (HandFor.pl (tos l) 2 l.length).length + (HandFor.pl (tos l) 1 l.length).length + (HandFor.pl (tos l) 0 l.length).length), by omega⟩
  have w0 : wrap64 (0 + ((mine l 0).length : Int)) = ((mine l 0).length : Int) := by rw [wrap64_id (by omega) (by omega)]; omega
  have w1 : wrap64 (((mine l 0).length : Int) + ((mine l 1).length : Int)) = ((mine l 0).length : Int) + ((mine l 1).length : Int) := by clear w0; rw [wrap64_id (by omega) (by omega)]
  have w2 : wrap64 (((mine l 0).length : Int) + ((mine l 1).length : Int) + ((mine l 2).length : Int)) = (l.length : Int) := by clear w0 w1; rw [wrap64_id (by omega) (by omega)]; omega
  have l3' : (mine l 3).length = 0 := by clear w0 w1 w2; omega
  have t1 : wrap64 (0 + 1) = 1 := wrap64_id (by decide) (by decide)
  have t2 : wrap64 (1 + 1) = 2 := wrap64_id (by decide) (by decide)
  have t3 : wrap64 (2 + 1) = 3 := wrap64_id (by decide) (by decide)
  rw [hk, whose_to l hl 0 0 (by decide), w0, t1, whose_to l hl _ 1 (by decide), w1, t2, whose_to l hl _ 2 (by decide), w2, t3, careenlaw11_MailWhose.l0, if_neg (by decide), if_pos rfl, if_pos rfl, for_eq l hl, Option.bind_some, l3']
  rfl
#print axioms MailWhose
end Go.Proofs.Ytmgfkpeadkfioaa.Pure
