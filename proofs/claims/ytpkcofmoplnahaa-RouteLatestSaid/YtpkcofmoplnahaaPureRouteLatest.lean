/- The Go function RouteLatest, called with any ways and number, returns true: whatever is learnt, in whatever order, the latest epoch is known. No condition. -/
import Derived.Test.YtpkcofmoplnahaaPAllx6
import Derived.Test.YtpkcofmoplnahaaLatest
namespace Go.Proofs.Ytpkcofmoplnahaa.Pure
open Go.RowKit Go.Proofs.Ytpkcofmoplnahaa.PAll Go.Proofs.YtpkcofmoplnahaaW.PrintWords Go.Proofs.YtpkcofmoplnahaaW.PrintLast Go.Proofs.YtpkcofmoplnahaaW.PrintMore Go.Proofs.Ytpkcofmoplnahaa.Base Go.Proofs.Ytpkcofmoplnahaa.Routes Go.Proofs.Ytpkcofmoplnahaa.Learns Go.Proofs.Ytpkcofmoplnahaa.Latest

theorem knows_congr {l : List S32} {f g : Nat → Nat} (h : Knows l f) (e : ∀ s, s < 8 → f s = g s) : Knows l g := fun s hs => by rw [← e s hs]; exact h s hs
def sh (x : List S30) (i : Nat) : Nat := (pickN (rd_T30 x (i : Int)).f0 8).toNat
def ep (x : List S30) (i : Nat) : Nat := (1 + pickN (rd_T30 x (i : Int)).f2 9).toNat
def vv (x : List S30) (i s : Nat) : Nat := if sh x i = s then ep x i else 0
theorem sh_eq (x : List S30) (i : Nat) : pickN (rd_T30 x (i : Int)).f0 8 = (sh x i : Int) ∧ sh x i < 8 := by
  obtain ⟨p0, p1⟩ := pickN_lt (c := (rd_T30 x (i : Int)).f0) (n := 8) (by decide)
  unfold sh; omega
theorem ep_eq (x : List S30) (i : Nat) : wrap64 (1 + pickN (rd_T30 x (i : Int)).f2 9) = (ep x i : Int) ∧ 1 ≤ ep x i ∧ ep x i ≤ 9 := by
  obtain ⟨p0, p1⟩ := pickN_lt (c := (rd_T30 x (i : Int)).f2) (n := 9) (by decide)
  rw [wrap64_id (by omega) (by omega)]
  unfold ep; omega
theorem knows_step {x : List S30} {l : List S32} {idx : Nat → Nat} {n : Nat} (h : Knows l (top (vv x) idx n)) : Knows (learn l (sh x (idx n)) (10 * (ep x (idx n) : Int) + (sh x (idx n) : Int)) (ep x (idx n) : Int)) (top (vv x) idx (n + 1)) := by
  refine knows_congr (knows_learn h (sh x (idx n)) (ep x (idx n)) (sh_eq x _).2 (ep_eq x _).2.1) (fun s _ => ?_)
  rw [top]
  unfold vv
  by_cases g : s = sh x (idx n)
  · rw [if_pos g, if_pos g.symm]
  · rw [if_neg g, if_neg (fun q => g q.symm), Nat.max_zero]
theorem last_round (a b : List S32) (lat : List Int) (M : Nat → Nat) (ha : Knows a M) (hb : Knows b M) (hz : lat.length = 8) (hm : ∀ s : Nat, s < 8 → rd lat (s : Int) = (M s : Int)) (hM : ∀ s, M s ≤ 9) (i : Nat) (hi : i < 8) (K : Nat) :
    careenlaw19_RouteLatest.l1 (K + 1) true a b lat (i : Int) = careenlaw19_RouteLatest.l1 K true a b lat ((i + 1 : Nat) : Int) := by
  have ew : wrap64 ((i : Int) + 1) = ((i + 1 : Nat) : Int) := by rw [wrap64_id (by omega) (by omega)]; omega
  have h9 := hM i
  rw [careenlaw19_RouteLatest.l1, if_pos (by omega), look_eq, Option.bind_some, look_eq, Option.bind_some, ha i hi, hb i hi, if_neg (by simp), if_neg (by simp), if_pos (by omega), if_pos (by omega), hm i hi, ew]
  unfold said
  by_cases g : M i = 0
  · rw [if_pos g, g]; rfl
  · rw [if_neg g]
    dsimp only
    rw [decide_eq_true (show (M i : Int) > 0 by omega), if_neg (by decide), if_pos rfl, if_pos rfl, wrap64_id (n := 10 * (M i : Int)) (by omega) (by omega), wrap64_id (by omega) (by omega), if_pos rfl]
theorem top_nine (x : List S30) (idx : Nat → Nat) (n s : Nat) : top (vv x) idx n s ≤ 9 := by
  refine top_le _ _ _ _ n (fun j _ => ?_)
  unfold vv
  have := (ep_eq x (idx j)).2.2
  split <;> omega
theorem round_eq (x : List S30) (n k i j : Nat) (a b : List S32) (lat : List Int) (s e s2 e2 : Nat) (p p2 : Int) (q : Nat) (hin : i < n) (hnx : n ≤ x.length) (h30 : n ≤ 30) (hj : j < n)
    (ej : Int.tmod (wrap64 ((k : Int) + (i : Int))) (n : Int) = (j : Int)) (h1 : careenlaw19_pick.f (rd_T30 x (i : Int)).f0 8 = some (s : Int)) (h2 : careenlaw19_pick.f (rd_T30 x (i : Int)).f2 9 = some p) (h3 : wrap64 (1 + p) = (e : Int))
    (g1 : careenlaw19_pick.f (rd_T30 x (j : Int)).f0 8 = some (s2 : Int)) (g2 : careenlaw19_pick.f (rd_T30 x (j : Int)).f2 9 = some p2) (g3 : wrap64 (1 + p2) = (e2 : Int)) (s8 : s < 8) (e1 : 1 ≤ e) (e9 : e ≤ 9) (t8 : s2 < 8) (f1 : 1 ≤ e2) (f9 : e2 ≤ 9)
    (ha : a.length ≤ 8) (hb : b.length ≤ 8) (hz : lat.length = 8) :
    careenlaw19_RouteLatest.l0 (q + 20 + 1) x true (n : Int) (k : Int) a b lat (i : Int) = careenlaw19_RouteLatest.l0 (q + 20) x true (n : Int) (k : Int) (learn a s (10 * (e : Int) + (s : Int)) (e : Int)) (learn b s2 (10 * (e2 : Int) + (s2 : Int)) (e2 : Int)) (lat.set s (mx (rd lat (s : Int)) (e : Int))) ((i + 1 : Nat) : Int) := by
  have c1 : (1 : Int) ≤ 10 * (e : Int) + (s : Int) := by clear h1 h2 h3 g1 g2 g3 ej; omega
  have c2 : (1 : Int) ≤ 10 * (e2 : Int) + (s2 : Int) := by clear h1 h2 h3 g1 g2 g3 ej; omega
  have c3 : (1 : Int) ≤ (e : Int) ∧ (e : Int) ≤ 9 := by clear h1 h2 h3 g1 g2 g3 ej; omega
  have c4 : (1 : Int) ≤ (e2 : Int) ∧ (e2 : Int) ≤ 9 := by clear h1 h2 h3 g1 g2 g3 ej; omega
  have b1 : (i : Int) < (n : Int) := by clear h1 h2 h3 g1 g2 g3 ej; omega
  have b2 : (0 : Int) ≤ (i : Int) := by clear h1 h2 h3 g1 g2 g3 ej; omega
  have b3 : (i : Int) < (x.length : Int) := by clear h1 h2 h3 g1 g2 g3 ej; omega
  have b4 : (0 : Int) ≤ (s : Int) := by clear h1 h2 h3 g1 g2 g3 ej; omega
  have b5 : (s : Int) < (lat.length : Int) := by clear h1 h2 h3 g1 g2 g3 ej; omega
  have b6 : ¬ (n : Int) = 0 := by clear h1 h2 h3 g1 g2 g3 ej; omega
  have b7 : (0 : Int) ≤ (j : Int) := by clear h1 h2 h3 g1 g2 g3 ej; omega
  have b8 : (j : Int) < (x.length : Int) := by clear h1 h2 h3 g1 g2 g3 ej; omega
  have i1 : wrap64 ((i : Int) + 1) = ((i + 1 : Nat) : Int) := by clear h1 h2 h3 g1 g2 g3 ej; rw [wrap64_id (by omega) (by omega)]; omega
  have o1 : wrap64 (wrap64 (10 * (e : Int)) + (s : Int)) = 10 * (e : Int) + (s : Int) := by clear h1 h2 h3 g1 g2 g3 ej i1; rw [wrap64_id (n := 10 * (e : Int)) (by omega) (by omega), wrap64_id (by omega) (by omega)]
  have o2 : wrap64 (wrap64 (10 * (e2 : Int)) + (s2 : Int)) = 10 * (e2 : Int) + (s2 : Int) := by clear h1 h2 h3 g1 g2 g3 ej i1 o1; rw [wrap64_id (n := 10 * (e2 : Int)) (by omega) (by omega), wrap64_id (by omega) (by omega)]
  have l1 := learn_eq a ha s s8 (10 * (e : Int) + (s : Int)) (e : Int) c1 c3.1 (Int.le_trans c3.2 (by decide)) q
  have l2 := learn_eq b hb s2 t8 (10 * (e2 : Int) + (s2 : Int)) (e2 : Int) c2 c4.1 (Int.le_trans c4.2 (by decide)) q
  rw [careenlaw19_RouteLatest.l0, if_pos b1, if_pos b2, if_pos b3, h1, Option.bind_some, h2, Option.bind_some, h3, o1, l1, Option.bind_some, if_pos b4, if_pos b5, if_neg b6, ej, if_pos b7, if_pos b8, g1, Option.bind_some, g2, Option.bind_some, Option.bind_some, Option.bind_some, g3, o2, l2, Option.bind_some, Int.toNat_natCast, i1]
theorem main_loop (x : List S30) (hw : ∀ y ∈ x, (Lit.int .i64 y.f0).wf = true ∧ (Lit.int .i64 y.f1).wf = true ∧ (Lit.int .i64 y.f2).wf = true) (n k : Nat) (hn : n ≤ x.length) (h30 : n ≤ 30) (hk : k ≤ n) : ∀ (d i K : Nat) (a b : List S32) (lat : List Int), i + d = n → 40 ≤ K → a.length ≤ 8 → b.length ≤ 8 → lat.length = 8 →
    Knows a (top (vv x) (fun j => j) i) → Knows b (top (vv x) (fun j => (k + j) % n) i) → (∀ s : Nat, s < 8 → rd lat (s : Int) = (top (vv x) (fun j => j) i s : Int)) →
    careenlaw19_RouteLatest.l0 (K + d) x true (n : Int) (k : Int) a b lat (i : Int) = some true := by
  have wf0 : ∀ j, j < x.length → (Lit.int .i64 (rd_T30 x (j : Int)).f0).wf = true ∧ (Lit.int .i64 (rd_T30 x (j : Int)).f2).wf = true := by
    intro j hj
    have hy : rd_T30 x (j : Int) = x[j] := by
      unfold rd_T30
      rw [Int.toNat_natCast, List.getD_eq_getElem?_getD, List.getElem?_eq_getElem hj]; rfl
    rw [hy]
    exact ⟨(hw _ (List.getElem_mem hj)).1, (hw _ (List.getElem_mem hj)).2.2⟩
  intro d
  induction d with
  | zero =>
    intro i K a b lat hi hK ha hb hz ka kb kl
    obtain rfl : i = n := by omega
    obtain ⟨K', rfl⟩ : ∃ K', K = K' + 10 := ⟨K - 10, by omega⟩
    have kb' : Knows b (top (vv x) (fun j => j) i) := knows_congr kb (fun s _ => top_turned (vv x) i k s hk)
    rw [careenlaw19_RouteLatest.l0, if_neg (by omega)]
    have go := fun j hj K => last_round a b lat _ ka kb' hz kl (top_nine x (fun j => j) i) j hj K
    refine (go 0 (by decide) (K' + 8)).trans ((go 1 (by decide) (K' + 7)).trans ((go 2 (by decide) (K' + 6)).trans ((go 3 (by decide) (K' + 5)).trans ((go 4 (by decide) (K' + 4)).trans ((go 5 (by decide) (K' + 3)).trans ((go 6 (by decide) (K' + 2)).trans ((go 7 (by decide) (K' + 1)).trans ?_)))))))
    rw [careenlaw19_RouteLatest.l1, if_neg (by decide)]
  | succ d ih =>
    intro i K a b lat hi hK ha hb hz ka kb kl
    obtain ⟨q, hq⟩ : ∃ q, K + d = q + 20 := ⟨K + d - 20, by omega⟩
    have ej : Int.tmod (wrap64 ((k : Int) + (i : Int))) (n : Int) = (((k + i) % n : Nat) : Int) := by
      rw [wrap64_id (by omega) (by omega), Int.tmod_eq_emod_of_nonneg (by omega), ← Int.natCast_add, ← Int.natCast_emod]
    have hin : i < n := by omega
    have hj : (k + i) % n < n := Nat.mod_lt _ (by omega)
    obtain ⟨s1, s2⟩ := sh_eq x i
    obtain ⟨e1, e2, e3⟩ := ep_eq x i
    have rb := fun (lat2 : List Int) h1 h2 h3 => ih (i + 1) K _ _ lat2 (by omega) hK h1 h2 h3 (knows_step ka) (knows_step (idx := fun j => (k + j) % n) kb)
    clear ih ka kb
    obtain ⟨s3, s4⟩ := sh_eq x ((k + i) % n)
    obtain ⟨e4, e5, e6⟩ := ep_eq x ((k + i) % n)
    have jx : (k + i) % n < x.length := Nat.lt_of_lt_of_le hj hn
    have ix : i < x.length := Nat.lt_of_lt_of_le hin hn
    have kl2 : ∀ s : Nat, s < 8 → rd (lat.set (sh x i) (mx (rd lat (sh x i : Int)) (ep x i : Int))) (s : Int) = (top (vv x) (fun j => j) (i + 1) s : Int) := by
      intro s hs
      have h1 := kl s hs
      have h2 := kl (sh x i) s2
      unfold rd at h1 h2 ⊢
      rw [Int.toNat_natCast, List.getD_eq_getElem?_getD] at h1 h2 ⊢
      rw [Int.toNat_natCast, List.getD_eq_getElem?_getD, List.getElem?_set, h2, mx_eq, top]
      unfold vv
      by_cases g : sh x i = s
      · subst g; rw [if_pos rfl, if_pos (by omega), if_pos rfl]; simp; omega
      · rw [if_neg g, if_neg g, h1, Nat.max_zero]; rfl
    have r := rb _ (learn_len a (sh x i) (10 * (ep x i : Int) + (sh x i : Int)) (ep x i : Int) s2 ha) (learn_len b (sh x ((k + i) % n)) (10 * (ep x ((k + i) % n) : Int) + (sh x ((k + i) % n) : Int)) (ep x ((k + i) % n) : Int) s4 hb) (by rw [List.length_set]; exact hz) kl2
    clear rb kl kl2
    have w1 := pick_eq (rd_T30 x (i : Int)).f0 8 (wf0 i ix).1 (by decide)
    have w2 := pick_eq (rd_T30 x (i : Int)).f2 9 (wf0 i ix).2 (by decide)
    have w3 := pick_eq (rd_T30 x (((k + i) % n : Nat) : Int)).f0 8 (wf0 _ jx).1 (by decide)
    have w4 := pick_eq (rd_T30 x (((k + i) % n : Nat) : Int)).f2 9 (wf0 _ jx).2 (by decide)
    rw [s1] at w1
    rw [s3] at w3
    have go := round_eq x n k i ((k + i) % n) a b lat (sh x i) (ep x i) (sh x ((k + i) % n)) (ep x ((k + i) % n)) _ _ q hin hn h30 hj ej w1 w2 e1 w3 w4 e4 s2 e2 e3 s4 e5 e6 ha hb hz
    rw [show K + (d + 1) = q + 20 + 1 from by rw [← Nat.add_assoc, hq], go, ← hq]
    exact r
theorem RouteLatest : careenlaw19_RouteLatest.Pure := by
  intro x a _ hw ha
  refine ⟨170 + min x.length 30, ?_⟩
  have em : mn (x.length : Int) 30 = ((min x.length 30 : Nat) : Int) := by rw [mn_eq]; omega
  obtain ⟨p0, p1⟩ := pickN_lt (c := a) (n := ((min x.length 30 : Nat) : Int) + 1) (by omega)
  unfold careenlaw19_RouteLatest.f
  rw [awake_eq _ (by omega), Option.bind_some, em, pick_eq a _ ha (by omega), Option.bind_some, if_pos (by decide)]
  obtain ⟨k, ek⟩ := Int.eq_ofNat_of_zero_le p0
  rw [ek] at p1 ⊢
  refine main_loop x hw (min x.length 30) k (by omega) (by omega) (by omega) (min x.length 30) 0 170 [] [] (List.replicate 8 0) (by omega) (by decide) (by simp) (by simp) (by simp) knows_nil knows_nil ?_
  intro s hs
  rw [top]
  unfold rd
  rw [Int.toNat_natCast, List.getD_eq_getElem?_getD, List.getElem?_replicate, if_pos hs]
  rfl
#print axioms RouteLatest
end Go.Proofs.Ytpkcofmoplnahaa.Pure
