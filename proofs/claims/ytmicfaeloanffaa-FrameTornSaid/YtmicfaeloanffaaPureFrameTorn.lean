/- FrameTorn: what its printed answer is, in plain words. -/
import Derived.Test.YtmicfaeloanffaaFrs3
namespace Go.Proofs.Ytmicfaeloanffaa.Pure
open Go.RowKit Go.Proofs.YtmicfaeloanffaaW.PrintWords Go.Proofs.YtmicfaeloanffaaW.PrintLast Go.Proofs.YtmicfaeloanffaaW.PrintMore Go.Proofs.Ytmicfaeloanffaa.PAll Go.Proofs.Ytmicfaeloanffaa.Base Go.Proofs.Ytmicfaeloanffaa.Frs
theorem len_facts (L : List S23) (n k : Nat) (n1 : n ≤ L.length) (hl : L.length ≤ 12) (hk : 40 ≤ k) : (L.take n).length = n ∧ (L.take n).length < 1000000 ∧ (L.take n).length < k ∧ (L.take n).length < k + 1 ∧ ¬ (((L.take n).length : Nat) : Int) > (L.length : Int) ∧ (0 : Int) ≤ (((L.take n).length : Nat) : Int) ∧ (((L.take n).length : Nat) : Int) ≤ (L.length : Int) ∧ L.take (((L.take n).length : Int) : Int).toNat = L.take n := by
  have e : (L.take n).length = n := by rw [List.length_take]; omega
  rw [e]
  refine ⟨rfl, by omega, by omega, by omega, by omega, by omega, by omega, by rw [Int.toNat_natCast]⟩
theorem torn_round (l : List S57) (texts : List ByteArray) (a : Int) (ha : (Lit.int .i64 a).wf = true) (hw : ∀ x ∈ l, (Lit.int .i64 x.f0).wf = true ∧ (Lit.int .i64 x.f1).wf = true ∧ (Lit.int .i64 x.f2).wf = true) (v : Int) (hv : v = 1 ∨ v = 2) (k : Nat) (hk : 40 ≤ k) :
    careenlaw06_FrameTorn.l0 (k + 2) l texts a true v = careenlaw06_FrameTorn.l0 k l texts a true (v + 1) := by
  have ho := okay_all hv texts l
  have hl := raws_len v texts l
  have ew : wrap64 (v + 1) = v + 1 := wrap64_id (by omega) (by omega)
  have b6 : v ≤ 2 := by omega
  have hf1 := frames_eq v l texts hw (k + 1) (by omega)
  generalize raws v texts l = L at ho hl hf1
  have hb1 := bytes_of v L ho (by omega) (k + 1) (by omega)
  have hk1 : 20 ≤ k + 1 := by omega
  have hb := cat_bound v _ ho hl
  have e1 : wrap64 (((cat v L).size : Int) + 1) = ((cat v L).size : Int) + 1 := wrap64_id (by omega) (by omega)
  have ep := pick_eq a (((cat v L).size : Int) + 1) ha (by omega)
  obtain ⟨p0, p1⟩ := pickN_lt (c := a) (n := ((cat v L).size : Int) + 1) (by omega)
  generalize pickN a (((cat v L).size : Int) + 1) = p at ep p0 p1
  obtain ⟨kk, rfl⟩ := Int.eq_ofNat_of_zero_le p0
  have b5 : (kk : Int) ≤ ((cat v L).size : Int) := Int.lt_add_one_iff.mp p1
  obtain ⟨n, n1, hs, hc, hm⟩ := scan_torn v hv L ho hl kk (Int.ofNat_le.mp b5) (k + 1) hk1
  have b1 : ¬ (((cat v (L.take n)).size : Nat) : Int) > (kk : Int) := Int.not_lt.mpr (Int.ofNat_le.mpr hc)
  have hot : ∀ m, ∀ f ∈ L.take m, Okay v f := fun m f hf => ho f (List.mem_of_mem_take hf)
  obtain ⟨g0, g1, g2, g3, g4, g5, g6, g7⟩ := len_facts L n k n1 hl hk
  rw [careenlaw06_FrameTorn.l0, if_pos b6, hf1, Option.bind_some, hb1, Option.bind_some, e1, ep, Option.bind_some, if_pos p0, if_pos b5, Int.toNat_natCast, hs, Option.bind_some]
  dsimp only
  rw [if_pos (show true = true from rfl), if_pos (show (0 : Int) = 0 from rfl), if_neg b1, if_neg g4, if_pos g5, if_pos g6, g7, same_eq _ g1 (k + 1) g3, Option.bind_some, careenlaw06_FrameTorn.j1, if_neg (by decide), if_pos g5, if_pos g6, g7, bytes_of v _ (hot n) g1 k g2, Option.bind_some]
  dsimp only
  rw [if_pos (show (((cat v (L.take n)).size : Nat) : Int) = (((cat v (L.take n)).size : Nat) : Int) from rfl)]
  by_cases c : n < L.length
  · have c5 : ¬ (((cat v (L.take (n + 1))).size : Nat) : Int) ≤ (kk : Int) := Int.not_le.mpr (Int.ofNat_lt.mpr (hm c))
    obtain ⟨_, i1, i2, _⟩ := len_facts L (n + 1) k c hl hk
    clear hs hc hm b1 b5 p1 ep e1 hb hb1
    have c1 : (((L.take n).length : Nat) : Int) < (L.length : Int) := by omega
    have e2 : wrap64 (((L.take n).length : Int) + 1) = ((n + 1 : Nat) : Int) := by rw [g0, wrap64_id (by omega) (by omega)]; omega
    have c2 : (0 : Int) ≤ ((n + 1 : Nat) : Int) := by omega
    have c3 : ((n + 1 : Nat) : Int) ≤ (L.length : Int) := by omega
    rw [if_pos c1, e2, if_pos c2, if_pos c3, Int.toNat_natCast, bytes_of v _ (hot (n + 1)) i1 k i2, Option.bind_some]
    dsimp only
    rw [if_neg c5, ew]
  · clear hs hc hm b1 b5 p1 ep e1 hb hb1
    have c1 : ¬ (((L.take n).length : Nat) : Int) < (L.length : Int) := by omega
    rw [if_neg c1, ew]
theorem FrameTorn : careenlaw06_FrameTorn.Pure := by
  intro l texts a _ hw _ _ ha
  refine ⟨105, ?_⟩
  unfold careenlaw06_FrameTorn.f
  rw [awake_eq 105 (by decide), Option.bind_some, torn_round l texts a ha hw 1 (.inl rfl) 103 (by decide), torn_round l texts a ha hw (1 + 1) (.inr rfl) 101 (by decide), careenlaw06_FrameTorn.l0, if_neg (by decide)]
#print axioms FrameTorn
end Go.Proofs.Ytmicfaeloanffaa.Pure
