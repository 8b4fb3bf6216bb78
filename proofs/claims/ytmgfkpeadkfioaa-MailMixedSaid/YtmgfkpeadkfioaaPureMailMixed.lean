/- What the calls of MailMixed answer, in plain words. -/
import Derived.Test.YtmgfkpeadkfioaaMixw
namespace Go.Proofs.Ytmgfkpeadkfioaa.Pure
open Go.RowKit Go.Proofs.Ytmgfkpeadkfioaa.PAll Go.Proofs.YtmgfkpeadkfioaaW.PrintWords Go.Proofs.YtmgfkpeadkfioaaW.PrintLast Go.Proofs.YtmgfkpeadkfioaaW.PrintMore Go.Proofs.Ytmgfkpeadkfioaa.Base Go.Proofs.Ytmgfkpeadkfioaa.Mails Go.Proofs.Ytmgfkpeadkfioaa.Mix
theorem picks (l1 : List Int) (hw : ∀ y ∈ l1, (Lit.int .i64 y).wf = true) (i n : Nat) (hi : i < l1.length) (hn : 0 < n) : ∃ q : Nat, q < n ∧ careenlaw11_pick.f (rd l1 (i : Int)) (n : Int) = some (q : Int) := by
  have er : rd l1 (i : Int) = l1[i] := by
    unfold rd
    rw [Int.toNat_natCast, List.getD_eq_getElem?_getD, List.getElem?_eq_getElem hi]; rfl
  have e := pick_eq l1[i] (n : Int) (hw _ (List.getElem_mem hi)) (by omega)
  obtain ⟨p0, p1⟩ := pickN_lt (c := l1[i]) (n := (n : Int)) (by omega)
  rw [er, e]
  obtain ⟨q, eq⟩ := Int.eq_ofNat_of_zero_le p0
  rw [eq] at p1 ⊢
  exact ⟨q, by omega, rfl⟩
theorem mixed_calls (A0 : Option Addr) (c0 : Nat) (l0 : List S45) (A1 : Option Addr) (c1 : Nat) (l1 : List Int) (w : World) (hr0 : Kd.C k45 w A0 l0.length l0) (hc0 : l0.length ≤ c0) (hr1 : Kd.C (Kd.int .i64) w A1 l1.length l1) (hc1 : l1.length ≤ c1) (hw0 : ∀ y ∈ l0, (Lit.int .i64 y.f0).wf = true ∧ (Lit.int .i64 y.f1).wf = true ∧ (Lit.int .i64 y.f2).wf = true) (hb1 : l1.length * 8 ≤ 140737488351232) (hw1 : ∀ y ∈ l1, (Lit.int .i64 y).wf = true) :
    Calls Try.prog 6 #[.slice A0 l0.length c0, .slice A1 l1.length c1] w fun e w' => e = .returned (.bool true) ∧ Below w.heap.size w w' :=
  walk A0 c0 l0 A1 c1 l1 w hr0 hc0 hr1 hc1 (awake_eq 100 (by decide)) (letters l0) (letters_eq l0 hw0 100 (by decide)) (good_letters l0) (by rw [letters_len]; omega) hb1 (fun i n hi hn => picks l1 hw1 i n hi hn)
#print axioms mixed_calls
end Go.Proofs.Ytmgfkpeadkfioaa.Pure
