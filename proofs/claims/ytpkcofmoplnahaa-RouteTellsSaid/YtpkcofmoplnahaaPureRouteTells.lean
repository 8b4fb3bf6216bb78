/- The Go function RouteTells, called with any key, ways and numbers, returns true: shards of keys, ways, and what is done next, are as the document says. No condition. -/
import Derived.Test.YtpkcofmoplnahaaPTel
import Derived.Test.YtpkcofmoplnahaaTells
namespace Go.Proofs.Ytpkcofmoplnahaa.Pure
open Go.RowKit Go.Proofs.YtpkcofmoplnahaaW.PrintWords Go.Proofs.YtpkcofmoplnahaaW.PrintLast Go.Proofs.YtpkcofmoplnahaaW.PrintMore Go.Proofs.Ytpkcofmoplnahaa.PAll Go.Proofs.Ytpkcofmoplnahaa.Base Go.Proofs.Ytpkcofmoplnahaa.Crc Go.Proofs.Ytpkcofmoplnahaa.Routes Go.Proofs.Ytpkcofmoplnahaa.Learns Go.Proofs.Ytpkcofmoplnahaa.Tells
theorem tells_next (a3 a4 : Int) (ha : (Lit.int .i64 a4).wf = true) (b : Bool) (hb : b = true) : ∀ (d i K : Nat), i + d = 100 → 20 ≤ K → careenlaw19_RouteTells.l3 (K + d + 1) a3 a4 b (i : Int) = some true := by
  intro d
  induction d with
  | zero =>
    intro i K hi hK
    obtain ⟨m, rfl⟩ : ∃ m, K = m + 9 := ⟨K - 9, by omega⟩
    rw [Nat.add_zero, careenlaw19_RouteTells.l3, if_neg (by omega), if_pos hb, show m + 9 = (m + 6) + 3 from rfl, next_eq, Option.bind_some, show (m + 6) + 3 = m + 9 from rfl, ref_next_eq, Option.bind_some, beq_self_eq_true]
  | succ d ih =>
    intro i K hi hK
    obtain ⟨m, hm⟩ : ∃ m, K + (d + 1) = m + 9 := ⟨K + (d + 1) - 9, by omega⟩
    have go := ih (i + 1) K (by omega) hK
    rw [show K + d + 1 = m + 9 from by omega] at go
    rw [hm, careenlaw19_RouteTells.l3, if_pos (by omega), pick_eq a4 8 ha (by decide), Option.bind_some, show m + 9 = (m + 6) + 3 from rfl, next_eq, Option.bind_some, Option.bind_some, show (m + 6) + 3 = m + 9 from rfl, ref_next_eq, Option.bind_some, if_pos rfl, wrap64_id (n := (i : Int) + 1) (by omega) (by omega), show (i : Int) + 1 = ((i + 1 : Nat) : Int) from by omega]
    exact go
theorem tells_row (l1 : List S32) (a3 a4 a5 : Int) (b : Bool) (lL t : List S32) (hL : lL.length < 8796093022208) (i j : Int) (y : List S30) (hy : y.length = 2) (h0 : 0 ≤ j) (h2 : j < 2) (K : Nat) (hK : lL.length + 40 ≤ K) :
    careenlaw19_RouteTells.l2 (K + 1) l1 a3 a4 a5 b lL t i y 2 j = careenlaw19_RouteTells.l2 K l1 a3 a4 a5 b lL t i y 2 (j + 1) := by
  obtain ⟨m, rfl⟩ : ∃ m, K = m + 20 := ⟨K - 20, by omega⟩
  generalize hx : rd_T30 y j = x
  obtain ⟨p, q, r, e1, e2⟩ := look_both lL x.f0
  obtain ⟨L, f1, f2, f3⟩ := learn_both lL hL x.f0 x.f1 x.f2 m
  have f4 := same_eq L (by omega) (m + 20) (by omega)
  have ez : (!(p == p) || (!(q == q))) = false := by simp
  have ez2 : (r != r) = false := bne_self_eq_false _
  rw [careenlaw19_RouteTells.l2, if_pos h2, if_pos h0, if_pos (by rw [hy]; exact h2), hx, e1, Option.bind_some, e2, Option.bind_some]
  dsimp only
  rw [ez, if_neg (by decide), ez2, if_neg (by decide), f1, Option.bind_some, f2, Option.bind_some, f4, Option.bind_some, if_pos rfl, wrap64_id (n := j + 1) (by omega) (by omega)]
theorem tells_rows (l1 : List S32) (a3 a4 a5 : Int) (b : Bool) (lL t : List S32) (hL : lL.length < 8796093022208) (i : Int) (y : List S30) (hy : y.length = 2) (K : Nat) (hK : lL.length + 40 ≤ K) :
    careenlaw19_RouteTells.l2 (K + 3) l1 a3 a4 a5 b lL t i y 2 0 = careenlaw19_RouteTells.l1 K l1 a3 a4 a5 b t (wrap64 (i + 1)) := by
  rw [tells_row l1 a3 a4 a5 b lL t hL i 0 y hy (by decide) (by decide) (K + 2) (by omega), tells_row l1 a3 a4 a5 b lL t hL i (0 + 1) y hy (by decide) (by decide) (K + 1) (by omega), careenlaw19_RouteTells.l2, if_neg (by decide)]
theorem tells_list (l1 : List S32) (a3 a4 a5 : Int) (h3 : (Lit.int .i64 a3).wf = true) (h4 : (Lit.int .i64 a4).wf = true) (h5 : (Lit.int .i64 a5).wf = true) (b : Bool) (t : List S32) (h1 : l1.length < 8796093022208) (ht : t.length < 8796093022208) (i : Int) (p0 : 0 ≤ i) (p2 : i < 2) (K : Nat) (hK : l1.length + t.length + 40 ≤ K) :
    careenlaw19_RouteTells.l1 (K + 4) l1 a3 a4 a5 b t i = careenlaw19_RouteTells.l1 K l1 a3 a4 a5 b t (i + 1) := by
  rw [careenlaw19_RouteTells.l1, if_pos p2, if_pos p0, if_pos p2, pick_eq a3 9 h3 (by decide), Option.bind_some, pick_eq a4 9 h4 (by decide), Option.bind_some, pick_eq a5 10 h5 (by decide), Option.bind_some, Option.bind_some]
  have hL : (if i = 0 then l1 else t).length < 8796093022208 ∧ (if i = 0 then l1 else t).length + 40 ≤ K := by
    split
    · exact ⟨h1, by omega⟩
    · exact ⟨ht, by omega⟩
  have := tells_rows l1 a3 a4 a5 b _ t hL.1 i [(⟨a3, a4, a5⟩ : S30), (⟨pickN a3 9, pickN a4 9, pickN a5 10⟩ : S30)] rfl K hL.2
  rw [wrap64_id (n := i + 1) (by omega) (by omega)] at this
  exact this
theorem tells_shards (l1 : List S32) (l2 : List S30) (a3 a4 a5 : Int) (b : Bool) (s : ByteArray) (hs : s.size ≤ 3000) (y : List Int) (hy : y.length = 2) (j : Int) (h0 : 0 ≤ j) (h2 : j < 2) (K : Nat) (hK : 40000 ≤ K) :
    careenlaw19_RouteTells.l0 (K + 1) l1 l2 a3 a4 a5 b s y 2 j = careenlaw19_RouteTells.l0 K l1 l2 a3 a4 a5 b s y 2 (j + 1) := by
  obtain ⟨r, e1, e2⟩ := shard_both s hs (rd y j) K hK
  rw [careenlaw19_RouteTells.l0, if_pos h2, if_pos h0, if_pos (by rw [hy]; exact h2), e1, Option.bind_some, e2, Option.bind_some, if_pos rfl, wrap64_id (n := j + 1) (by omega) (by omega)]
theorem RouteTells : careenlaw19_RouteTells.Pure := by
  intro s l1 l2 a3 a4 a5 hs hl1 _ hl2 hw h3 h4 h5
  have h1 : l1.length < 8796093022208 := by omega
  obtain ⟨K, hK⟩ : ∃ K, K = l1.length + 100000 := ⟨_, rfl⟩
  obtain ⟨t, ht, htl⟩ := ways_loop l2 hw (min l2.length 30) 0 (K + 8 - (2 * (min l2.length 30) + 22)) [] (by omega) (by simp)
  rw [show K + 8 - (2 * (min l2.length 30) + 22) + 2 * (min l2.length 30) + 22 = K + 8 from by omega] at ht
  have hways : careenlaw19_Ways.f (K + 8) l2 = some t := ht
  have ez : (s.extract 0 (mn (s.size : Int) 3000).toNat).size ≤ 3000 := by rw [ByteArray.size_extract, mn_eq]; omega
  obtain ⟨m, hm⟩ : ∃ m, K = m + 100 + 1 := ⟨K - 101, by omega⟩
  have fin : careenlaw19_RouteTells.l1 K l1 a3 a4 a5 true t 2 = some true := by
    rw [hm, careenlaw19_RouteTells.l1, if_neg (by decide)]
    have := tells_next a3 a4 h4 true rfl 100 0 (m - 1) rfl (by omega)
    rw [show m - 1 + 100 + 1 = m + 100 from by omega] at this
    exact this
  refine ⟨K + 11, ?_⟩
  unfold careenlaw19_RouteTells.f
  rw [awake_eq (K + 11) (by omega), Option.bind_some, if_pos (by rw [mn_eq]; omega), if_pos (by rw [mn_eq]; omega), pick_eq a3 10 h3 (by decide), Option.bind_some, Option.bind_some]
  generalize s.extract 0 (mn (s.size : Int) 3000).toNat = u at ez
  have y2 : (([a3, pickN a3 10] : List Int).length : Int) = 2 := rfl
  rw [y2, tells_shards l1 l2 a3 a4 a5 true u ez _ rfl 0 (by decide) (by decide) (K + 10) (by omega), tells_shards l1 l2 a3 a4 a5 true u ez _ rfl (0 + 1) (by decide) (by decide) (K + 9) (by omega), careenlaw19_RouteTells.l0, if_neg (by decide), hways, Option.bind_some, show K + 8 = K + 4 + 4 from rfl, tells_list l1 a3 a4 a5 h3 h4 h5 true t h1 (by omega) 0 (by decide) (by decide) (K + 4) (by omega), tells_list l1 a3 a4 a5 h3 h4 h5 true t h1 (by omega) (0 + 1) (by decide) (by decide) K (by omega)]
  exact fin
#print axioms RouteTells
end Go.Proofs.Ytpkcofmoplnahaa.Pure
