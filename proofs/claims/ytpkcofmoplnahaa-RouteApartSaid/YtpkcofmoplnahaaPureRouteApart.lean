/- The Go function RouteApart, called with any ways and numbers, returns true: what is learnt of one shard changes nothing of others; learnt twice is learnt once. No condition. -/
import Derived.Test.YtpkcofmoplnahaaPAllx8
import Derived.Test.YtpkcofmoplnahaaLearns
namespace Go.Proofs.Ytpkcofmoplnahaa.Pure
open Go.RowKit Go.Proofs.Ytpkcofmoplnahaa.PAll Go.Proofs.YtpkcofmoplnahaaW.PrintWords Go.Proofs.YtpkcofmoplnahaaW.PrintLast Go.Proofs.YtpkcofmoplnahaaW.PrintMore Go.Proofs.Ytpkcofmoplnahaa.Base Go.Proofs.Ytpkcofmoplnahaa.Routes Go.Proofs.Ytpkcofmoplnahaa.Learns

theorem same_loop (l : List S32) (hl : l.length ≤ 100) : ∀ (d i k : Nat), i + d = l.length → careenref19_Same.l0 (k + d + 1) l l (i : Int) = some true := by
  intro d
  induction d with
  | zero => intro i k hi; rw [careenref19_Same.l0, if_neg (by omega)]
  | succ d ih =>
    intro i k hi
    rw [careenref19_Same.l0, if_pos (by omega), if_pos (by omega), if_pos (by omega), if_neg (by simp), wrap64_id (by omega) (by omega), show (i : Int) + 1 = ((i + 1 : Nat) : Int) from by omega, show k + (d + 1) = k + d + 1 from by omega]
    exact ih (i + 1) k (by omega)
theorem same_eq (l : List S32) (hl : l.length ≤ 8) (k : Nat) : careenref19_Same.f (k + 20) l l = some true := by
  unfold careenref19_Same.f
  rw [if_pos rfl]
  have := same_loop l (by omega) l.length 0 (k + 19 - l.length) (by omega)
  rw [show k + 19 - l.length + l.length + 1 = k + 20 from by omega] at this
  exact this
/-- Learnt twice is learnt once; of its shard the later epoch is known. -/
theorem learn_twice (l : List S32) (s : Nat) (o e : Int) : learn (learn l s o e) s o e = learn l s o e := by
  by_cases h : (lookV (way l s)).2.1 ≥ e
  · have e1 : learn l s o e = l := by unfold learn; rw [if_pos h]
    rw [e1, e1]
  · have e1 : learn l s o e = put l s o e := by unfold learn; rw [if_neg h]
    rw [e1]
    unfold learn
    rw [way_put, if_pos rfl]
    unfold lookV
    by_cases g : e < 1
    · unfold lookV at h
      exfalso
      apply h
      split
      · show (0 : Int) ≥ e; omega
      · show (way l s).f1 ≥ e; omega
    · rw [if_neg g, if_pos (show e ≥ e by omega)]
theorem learn_other (l : List S32) (s : Nat) (o e : Int) (t : Nat) (h : t ≠ s) : way (learn l s o e) t = way l t := by
  unfold learn
  split
  · rfl
  · rw [way_put, if_neg h]
theorem learn_self (l : List S32) (s : Nat) (o e : Int) (he : 1 ≤ e) : (lookV (way (learn l s o e) s)).2.2 = true ∧ (lookV (way (learn l s o e) s)).2.1 = max (lookV (way l s)).2.1 e := by
  unfold learn
  by_cases h : (lookV (way l s)).2.1 ≥ e
  · rw [if_pos h]
    refine ⟨?_, by omega⟩
    unfold lookV at h ⊢
    by_cases g : (way l s).f1 < 1
    · rw [if_pos g] at h; exact absurd (show (0 : Int) ≥ e from h) (by omega)
    · rw [if_neg g]
  · rw [if_neg h, way_put, if_pos rfl]
    have e1 : lookV (⟨o, e⟩ : S32) = (o, e, true) := by unfold lookV; rw [if_neg (show ¬ e < 1 by omega)]
    rw [e1]
    exact ⟨rfl, by show e = _; omega⟩
theorem apart_round (c : Int) (hc : (Lit.int .i64 c).wf = true) (l : List S32) (s : Nat) (o : Int) (b : List S32) (i : Nat) (hi : i < 8) (K : Nat) :
    careenlaw19_RouteApart.l0 (K + 1) c true l (s : Int) (learn l s o (1 + pickN c 12)) b (i : Int) = careenlaw19_RouteApart.l0 K c true l (s : Int) (learn l s o (1 + pickN c 12)) b ((i + 1 : Nat) : Int) := by
  obtain ⟨p0, p1⟩ := pickN_lt (c := c) (n := 12) (by decide)
  have ew : wrap64 ((i : Int) + 1) = ((i + 1 : Nat) : Int) := by rw [wrap64_id (by omega) (by omega)]; omega
  rw [careenlaw19_RouteApart.l0, if_pos (by omega), look_eq, Option.bind_some, look_eq, Option.bind_some, ew]
  by_cases h : i = s
  · subst h
    obtain ⟨h1, h2⟩ := learn_self l i o (1 + pickN c 12) (by omega)
    rw [if_pos rfl, if_pos h1, pick_eq c 12 hc (by decide), Option.bind_some, wrap64_id (n := 1 + pickN c 12) (by omega) (by omega), h2, mx_eq, if_pos rfl]
  · rw [if_neg (show ¬ (i : Int) = (s : Int) by omega), learn_other l s o _ i h, if_neg (by simp), if_neg (by simp)]
theorem RouteApart : careenlaw19_RouteApart.Pure := by
  intro x a b c _ hw ha hb hc
  refine ⟨200, ?_⟩
  obtain ⟨p0, p1⟩ := pickN_lt (c := a) (n := 8) (by decide)
  obtain ⟨q0, q1⟩ := pickN_lt (c := b) (n := 9) (by decide)
  obtain ⟨r0, r1⟩ := pickN_lt (c := c) (n := 12) (by decide)
  obtain ⟨s, es⟩ := Int.eq_ofNat_of_zero_le p0
  obtain ⟨L, eL, hL⟩ := ways_loop x hw (min x.length 30) 0 (178 - 2 * min x.length 30) [] (by omega) (by simp)
  rw [show 178 - 2 * min x.length 30 + 2 * min x.length 30 + 22 = 200 from by omega] at eL
  have eL' : careenlaw19_Ways.f 200 x = some L := eL
  have hs : s < 8 := by omega
  have h1 := learn_len L s (1 + pickN b 9) (1 + pickN c 12) hs hL
  unfold careenlaw19_RouteApart.f
  rw [awake_eq 200 (by decide), Option.bind_some, eL', Option.bind_some, pick_eq a 8 ha (by decide), Option.bind_some, pick_eq b 9 hb (by decide), Option.bind_some, pick_eq c 12 hc (by decide), Option.bind_some, es, wrap64_id (n := 1 + pickN b 9) (by omega) (by omega), wrap64_id (n := 1 + pickN c 12) (by omega) (by omega), learn_eq L hL s hs _ _ (by omega) (by omega) (by omega) 180, Option.bind_some, Option.bind_some, Option.bind_some, wrap64_id (n := 1 + pickN b 9) (by omega) (by omega), wrap64_id (n := 1 + pickN c 12) (by omega) (by omega), learn_eq _ h1 s hs _ _ (by omega) (by omega) (by omega) 180, Option.bind_some, learn_twice]
  have go := fun i hi K => apart_round c hc L s (1 + pickN b 9) (learn L s (1 + pickN b 9) (1 + pickN c 12)) i hi K
  refine (go 0 (by decide) 199).trans ((go 1 (by decide) 198).trans ((go 2 (by decide) 197).trans ((go 3 (by decide) 196).trans ((go 4 (by decide) 195).trans ((go 5 (by decide) 194).trans ((go 6 (by decide) 193).trans ((go 7 (by decide) 192).trans ?_)))))))
  rw [careenlaw19_RouteApart.l0, if_neg (by decide), if_pos rfl, same_eq _ h1 171]
  rfl
#print axioms RouteApart
end Go.Proofs.Ytpkcofmoplnahaa.Pure
