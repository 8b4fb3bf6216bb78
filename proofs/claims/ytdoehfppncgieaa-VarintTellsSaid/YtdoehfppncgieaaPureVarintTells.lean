/- The Go function VarintTells, called with any number, text, number and text, returns true: numbers are put and taken as the document says. No condition. -/
import Derived.Test.YtdoehfppncgieaaPAllx3
import Derived.Test.YtdoehfppncgieaaVars2
namespace Go.Proofs.Ytdoehfppncgieaa.Pure
open Go.RowKit Go.Proofs.Ytdoehfppncgieaa.PAll Go.Proofs.YtdoehfppncgieaaW.PrintWords Go.Proofs.YtdoehfppncgieaaW.PrintLast Go.Proofs.YtdoehfppncgieaaW.PrintMore Go.Proofs.Ytdoehfppncgieaa.Base Go.Proofs.Ytdoehfppncgieaa.Vari Go.Proofs.Ytdoehfppncgieaa.Vars Go.Proofs.Ytdoehfppncgieaa.HandPut

theorem texts (s : ByteArray) (b0 : Int) (m : ByteArray) (L : List Int) (i : Int) (T : List ByteArray) (hT : ∀ j : Nat, j < T.length → (rdOf ByteArray.empty T (j : Int)).size ≤ 9223372036854775807) (hTl : T.length ≤ 100) : ∀ (d j K : Nat), j + d = T.length →
    careenlaw01_VarintTells.l1 (K + d + 31) s b0 m true L 3 i T (T.length : Int) (j : Int) = careenlaw01_VarintTells.l0 (K + 30) s b0 m true L 3 (wrap64 (i + 1)) := by
  intro d
  induction d with
  | zero => intro j K hj; rw [careenlaw01_VarintTells.l1, if_neg (by omega)]
  | succ d ih =>
    intro j K hj
    rw [show K + (d + 1) + 31 = (K + d + 11) + 20 + 1 from by omega, careenlaw01_VarintTells.l1, if_pos (by omega), if_pos (by omega), if_pos (by omega), take_eq, Option.bind_some, ref_take _ (hT j (by omega)), Option.bind_some, if_pos rfl, if_pos rfl, if_pos rfl, wrap64_id (by omega) (by omega), show (j : Int) + 1 = ((j + 1 : Nat) : Int) from by omega, show K + d + 11 + 20 = K + d + 31 from by omega]
    exact ih (j + 1) K (by omega)
theorem put_some (n : Int) : ∃ (b : ByteArray) (e : Int), varint_Put.f n = some (b, e) ∧ b.size ≤ 8 := by
  rw [put_put]
  by_cases h : 0 ≤ n ∧ n ≤ 9007199254740992
  · rw [if_pos h]
    exact ⟨_, _, rfl, by rw [num_size]; exact dg_len 7 _ (by omega)⟩
  · rw [if_neg h]
    exact ⟨_, _, rfl, by decide⟩
theorem size_cut2 (s : ByteArray) (i j : Nat) : (s.extract i j).size ≤ s.size := by rw [ByteArray.size_extract]; omega
theorem round (s : ByteArray) (b0 : Int) (m : ByteArray) (hb : (Lit.int .i64 b0).wf = true) (hs : s.size ≤ 140737488351232) (hm : m.size ≤ 140737488351232) (L : List Int) (zL : (L.length : Int) = 3) (i : Int) (h0 : 0 ≤ i) (h1 : i < 3) (K : Nat) :
    careenlaw01_VarintTells.l0 (K + 38) s b0 m true L 3 i = careenlaw01_VarintTells.l0 (K + 30) s b0 m true L 3 (i + 1) := by
  obtain ⟨b, e, hp, hz⟩ := put_some (rd L i)
  have hq : careenref01_Put.f (K + 37) (rd L i) = some (b, e) := by rw [show K + 37 = (K + 25) + 12 from rfl, ref_put, hp]
  have ew : wrap64 ((b.size : Int) + 1) = (b.size : Int) + 1 := wrap64_id (by omega) (by omega)
  obtain ⟨p0, p1⟩ := pickN_lt (c := b0) (n := (b.size : Int) + 1) (by omega)
  rw [show K + 38 = K + 37 + 1 from rfl, careenlaw01_VarintTells.l0, if_pos h1, if_pos h0, if_pos (by omega), hp, Option.bind_some, hq, Option.bind_some]
  dsimp only
  rw [if_pos rfl, bne_self_eq_false, show K + 37 = K + 36 + 1 from rfl, careenlaw01_VarintTells.j1, if_neg (by decide), ew, pick_eq b0 _ hb (by omega), Option.bind_some]
  generalize pickN b0 ((b.size : Int) + 1) = p at *
  have ew2 : wrap64 (p + (m.size : Int)) = p + (m.size : Int) := wrap64_id (by omega) (by omega)
  have c1 := size_cut2 b 0 p.toNat
  have c2 := size_cut2 b (mn (p + (m.size : Int)) (b.size : Int)).toNat b.size
  have c3 := size_cut2 b p.toNat b.size
  have c4 : (b.extract 0 p.toNat ++ m).size = (b.extract 0 p.toNat).size + m.size := ByteArray.size_append
  have c5 : (b.extract 0 p.toNat ++ m ++ b.extract (mn (p + (m.size : Int)) (b.size : Int)).toNat b.size).size = (b.extract 0 p.toNat ++ m).size + (b.extract (mn (p + (m.size : Int)) (b.size : Int)).toNat b.size).size := ByteArray.size_append
  have c6 : (b.extract 0 p.toNat ++ m ++ b.extract p.toNat b.size).size = (b.extract 0 p.toNat ++ m).size + (b.extract p.toNat b.size).size := ByteArray.size_append
  rw [ew2, if_pos p0, if_pos (by omega), if_pos (by omega), if_pos (by rw [mn_eq]; omega), if_pos (by rw [mn_eq]; omega), if_pos (by omega), if_pos (by omega), Option.bind_some]
  generalize hT : ([s, b, b.extract 0 p.toNat ++ m ++ b.extract (mn (p + (m.size : Int)) (b.size : Int)).toNat b.size, b.extract 0 p.toNat ++ m ++ b.extract p.toNat b.size, b.extract 0 p.toNat] : List ByteArray) = T
  have zT : T.length = 5 := by rw [← hT]; rfl
  have hall : ∀ j : Nat, j < T.length → (rdOf ByteArray.empty T (j : Int)).size ≤ 9223372036854775807 := by
    intro j hj
    rw [zT] at hj
    rw [← hT]
    obtain rfl | rfl | rfl | rfl | rfl : j = 0 ∨ j = 1 ∨ j = 2 ∨ j = 3 ∨ j = 4 := by omega
    · show s.size ≤ _; omega
    · show b.size ≤ _; omega
    · show (b.extract 0 p.toNat ++ m ++ b.extract (mn (p + (m.size : Int)) (b.size : Int)).toNat b.size).size ≤ _; omega
    · show (b.extract 0 p.toNat ++ m ++ b.extract p.toNat b.size).size ≤ _; omega
    · show (b.extract 0 p.toNat).size ≤ _; omega
  have := texts s b0 m L i T hall (by omega) 5 0 K (by omega)
  rw [wrap64_id (n := i + 1) (by omega) (by omega)] at this
  exact this

theorem VarintTells : careenlaw01_VarintTells.Pure := by
  intro a0 s b0 m ha hs hb hm
  refine ⟨80, ?_⟩
  unfold careenlaw01_VarintTells.f
  rw [awake_eq 80 (by decide), Option.bind_some, pick_eq a0 _ ha (by decide), Option.bind_some, pick_eq a0 _ ha (by decide), Option.bind_some, Option.bind_some]
  generalize hL : ([a0, pickN a0 9007199254740993, pickN a0 70000] : List Int) = L
  have zL : (L.length : Int) = 3 := by rw [← hL]; rfl
  rw [zL, round s b0 m hb hs hm L zL 0 (by omega) (by omega) 42, round s b0 m hb hs hm L zL (0 + 1) (by omega) (by omega) 34, round s b0 m hb hs hm L zL (0 + 1 + 1) (by omega) (by omega) 26, careenlaw01_VarintTells.l0, if_neg (by decide)]
#print axioms VarintTells
end Go.Proofs.Ytdoehfppncgieaa.Pure
