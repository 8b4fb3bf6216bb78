/- The Go function VarintBack, called with any number, text and number, returns true: what was put is taken, whatever stands behind it; cut off it is not. No condition. -/
import Derived.Test.YtdoehfppncgieaaPAllx4
import Derived.Test.YtdoehfppncgieaaVars2
namespace Go.Proofs.Ytdoehfppncgieaa.Pure
open Go.RowKit Go.Proofs.Ytdoehfppncgieaa.PAll Go.Proofs.YtdoehfppncgieaaW.PrintWords Go.Proofs.YtdoehfppncgieaaW.PrintLast Go.Proofs.YtdoehfppncgieaaW.PrintMore Go.Proofs.Ytdoehfppncgieaa.Base Go.Proofs.Ytdoehfppncgieaa.Vari Go.Proofs.Ytdoehfppncgieaa.Vars Go.Proofs.Ytdoehfppncgieaa.HandPut

theorem back_round (s : ByteArray) (b0 : Int) (hb : (Lit.int .i64 b0).wf = true) (hs : s.size ≤ 140737488351232) (L : List Int) (i : Int) (h0 : 0 ≤ i) (h1 : i < 2) (zL : (L.length : Int) = 2) (K n : Nat) (hn : n ≤ 9007199254740992) (hr : rd L i = (n : Int)) :
    careenlaw01_VarintBack.l0 (K + 32) s b0 true L 2 i = careenlaw01_VarintBack.l0 (K + 30) s b0 true L 2 (i + 1) := by
  have z := num_size n
  have zl : (dg n).length ≤ 8 := dg_len 7 n (by omega)
  have zp := shape_pos (dg_shape n)
  obtain ⟨p0, p1⟩ := pickN_lt (c := b0) (n := ((num n).size : Int)) (by omega)
  have hk : (pickN b0 ((num n).size : Int)).toNat < (dg n).length := by omega
  rw [careenlaw01_VarintBack.l0, if_pos h1, if_pos h0, if_pos (by omega), hr, put_ok n hn, Option.bind_some]
  dsimp only
  rw [if_pos rfl, if_neg (by omega), decide_eq_false (by omega), careenlaw01_VarintBack.j1, if_neg (by decide), if_pos (by omega), take_eq _ (K + 10), Option.bind_some, pick_eq b0 _ hb (by omega), Option.bind_some, if_pos p0, if_pos (by omega), take_eq _ (K + 10), Option.bind_some, bl_append, bl_take, bl_num, take_put n hn, take_cut n hn _ hk]
  dsimp only
  rw [if_pos rfl, if_pos rfl, if_pos (by omega), if_pos rfl, wrap64_id (by omega) (by omega)]

theorem VarintBack : careenlaw01_VarintBack.Pure := by
  intro a0 s b0 ha hs hb
  refine ⟨60, ?_⟩
  obtain ⟨p0, p1⟩ := pickN_lt (c := a0) (n := 9007199254740993) (by decide)
  obtain ⟨q0, q1⟩ := pickN_lt (c := a0) (n := 300) (by decide)
  unfold careenlaw01_VarintBack.f
  rw [awake_eq 60 (by decide), Option.bind_some, pick_eq a0 _ ha (by decide), Option.bind_some, pick_eq a0 _ ha (by decide), Option.bind_some, Option.bind_some]
  obtain ⟨a, ea⟩ := Int.eq_ofNat_of_zero_le p0
  obtain ⟨b, eb⟩ := Int.eq_ofNat_of_zero_le q0
  rw [ea] at p1 ⊢
  rw [eb] at q1 ⊢
  generalize hL : ([(a : Int), (b : Int)] : List Int) = L
  have zL : (L.length : Int) = 2 := by rw [← hL]; rfl
  rw [zL, back_round s b0 hb hs L 0 (by omega) (by omega) zL 28 a (by omega) (by rw [← hL]; rfl), back_round s b0 hb hs L (0 + 1) (by omega) (by omega) zL 26 b (by omega) (by rw [← hL]; rfl), careenlaw01_VarintBack.l0, if_neg (by decide)]
#print axioms VarintBack
end Go.Proofs.Ytdoehfppncgieaa.Pure
