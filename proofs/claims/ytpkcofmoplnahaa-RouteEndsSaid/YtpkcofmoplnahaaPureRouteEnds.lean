/- The Go function RouteEnds, called with any row of numbers, returns true: who asks again and again comes to an end. No condition. -/
import Derived.Test.YtpkcofmoplnahaaPAllx7
import Derived.Test.YtpkcofmoplnahaaRoutes
namespace Go.Proofs.Ytpkcofmoplnahaa.Pure
open Go.RowKit Go.Proofs.Ytpkcofmoplnahaa.PAll Go.Proofs.YtpkcofmoplnahaaW.PrintWords Go.Proofs.YtpkcofmoplnahaaW.PrintLast Go.Proofs.YtpkcofmoplnahaaW.PrintMore Go.Proofs.Ytpkcofmoplnahaa.Base Go.Proofs.Ytpkcofmoplnahaa.Crc Go.Proofs.Ytpkcofmoplnahaa.Routes

theorem ends_round (l : List Int) (hw : ∀ x ∈ l, (Lit.int .i64 x).wf = true) (b : Bool) (i : Int) (h0 : 0 ≤ i) (h6 : i < 6) (K : Nat) :
    ∃ b', careenlaw19_RouteEnds.l0 (K + 10) l true b i = careenlaw19_RouteEnds.l0 (K + 9) l true b' (i + 1) ∧ (b = true ∨ 4 ≤ i → b' = true) := by
  have ew : wrap64 (i + 1) = i + 1 := wrap64_id (by omega) (by omega)
  rw [careenlaw19_RouteEnds.l0, if_pos h6, ew]
  have fin : ∀ e n : Int, 0 ≤ n → n ≤ 3 → (5 ≤ i + 1 → n = 0 ∨ n = 3) → (e = 0 → n = 0) →
      ∃ b', (if n < 0 then some false else (if n > 3 then some false else (if i ≥ 4 then (if n = 1 then some false else (if n = 2 then some false else (if e = 0 then (if n = 0 then (if b = true then careenlaw19_RouteEnds.l0 (K + 9) l true true (i + 1) else careenlaw19_RouteEnds.l0 (K + 9) l true true (i + 1)) else some false) else (if b = true then careenlaw19_RouteEnds.l0 (K + 9) l true true (i + 1) else (if n = 0 then careenlaw19_RouteEnds.l0 (K + 9) l true true (i + 1) else careenlaw19_RouteEnds.l0 (K + 9) l true (n == 3) (i + 1)))))) else (if e = 0 then (if n = 0 then (if b = true then careenlaw19_RouteEnds.l0 (K + 9) l true true (i + 1) else careenlaw19_RouteEnds.l0 (K + 9) l true true (i + 1)) else some false) else (if b = true then careenlaw19_RouteEnds.l0 (K + 9) l true true (i + 1) else (if n = 0 then careenlaw19_RouteEnds.l0 (K + 9) l true true (i + 1) else careenlaw19_RouteEnds.l0 (K + 9) l true (n == 3) (i + 1))))))) = careenlaw19_RouteEnds.l0 (K + 9) l true b' (i + 1) ∧ (b = true ∨ 4 ≤ i → b' = true) := by
    intro e n n0 n3 h5 he
    rw [if_neg (by omega), if_neg (by omega)]
    have low : ∃ b', (if e = 0 then (if n = 0 then (if b = true then careenlaw19_RouteEnds.l0 (K + 9) l true true (i + 1) else careenlaw19_RouteEnds.l0 (K + 9) l true true (i + 1)) else some false) else (if b = true then careenlaw19_RouteEnds.l0 (K + 9) l true true (i + 1) else (if n = 0 then careenlaw19_RouteEnds.l0 (K + 9) l true true (i + 1) else careenlaw19_RouteEnds.l0 (K + 9) l true (n == 3) (i + 1)))) = careenlaw19_RouteEnds.l0 (K + 9) l true b' (i + 1) ∧ (b = true ∨ 4 ≤ i → b' = true) := by
      by_cases g : e = 0
      · rw [if_pos g, if_pos (he g), ite_self]; exact ⟨true, rfl, fun _ => rfl⟩
      · rw [if_neg g]
        by_cases gb : b = true
        · rw [if_pos gb]; exact ⟨true, rfl, fun _ => rfl⟩
        · rw [if_neg gb]
          by_cases gn : n = 0
          · rw [if_pos gn]; exact ⟨true, rfl, fun _ => rfl⟩
          · rw [if_neg gn]
            refine ⟨_, rfl, fun h => ?_⟩
            rcases h with h | h
            · exact absurd h gb
            · rcases h5 (by omega) with h | h
              · exact absurd h gn
              · simp [h]
    by_cases g4 : i ≥ 4
    · rw [if_pos g4]
      have := h5 (by omega)
      rw [if_neg (by omega), if_neg (by omega)]
      exact low
    · rw [if_neg g4]; exact low
  by_cases g : i < (l.length : Int)
  · rw [if_pos g, if_pos h0, pick_eq _ 120 ?w (by decide), Option.bind_some]
    case w =>
      obtain ⟨j, rfl⟩ := Int.eq_ofNat_of_zero_le h0
      unfold rd
      rw [Int.toNat_natCast, List.getD_eq_getElem?_getD, List.getElem?_eq_getElem (by omega)]
      exact hw _ (List.getElem_mem (by omega))
    obtain ⟨n, en, n0, n3, h5, he⟩ := next_tells (K + 6) (pickN (rd l i) 120) (i + 1)
    rw [en, Option.bind_some]
    exact fin _ n n0 n3 h5 he
  · rw [if_neg g]
    obtain ⟨n, en, n0, n3, h5, he⟩ := next_tells (K + 6) 0 (i + 1)
    rw [en, Option.bind_some]
    exact fin 0 n n0 n3 h5 he

theorem RouteEnds : careenlaw19_RouteEnds.Pure := by
  intro l _ _ hw
  refine ⟨160, ?_⟩
  unfold careenlaw19_RouteEnds.f
  rw [awake_eq 160 (by decide), Option.bind_some]
  obtain ⟨b1, e1, _⟩ := ends_round l hw false 0 (by decide) (by decide) 150
  obtain ⟨b2, e2, _⟩ := ends_round l hw b1 1 (by decide) (by decide) 149
  obtain ⟨b3, e3, _⟩ := ends_round l hw b2 2 (by decide) (by decide) 148
  obtain ⟨b4, e4, _⟩ := ends_round l hw b3 3 (by decide) (by decide) 147
  obtain ⟨b5, e5, h5⟩ := ends_round l hw b4 4 (by decide) (by decide) 146
  obtain ⟨b6, e6, h6⟩ := ends_round l hw b5 5 (by decide) (by decide) 145
  have t6 : b6 = true := h6 (.inr (by decide))
  have e1' : careenlaw19_RouteEnds.l0 160 l true false 0 = careenlaw19_RouteEnds.l0 159 l true b1 1 := e1
  have e2' : careenlaw19_RouteEnds.l0 159 l true b1 1 = careenlaw19_RouteEnds.l0 158 l true b2 2 := e2
  have e3' : careenlaw19_RouteEnds.l0 158 l true b2 2 = careenlaw19_RouteEnds.l0 157 l true b3 3 := e3
  have e4' : careenlaw19_RouteEnds.l0 157 l true b3 3 = careenlaw19_RouteEnds.l0 156 l true b4 4 := e4
  have e5' : careenlaw19_RouteEnds.l0 156 l true b4 4 = careenlaw19_RouteEnds.l0 155 l true b5 5 := e5
  have e6' : careenlaw19_RouteEnds.l0 155 l true b5 5 = careenlaw19_RouteEnds.l0 154 l true b6 6 := e6
  rw [e1', e2', e3', e4', e5', e6', t6, careenlaw19_RouteEnds.l0, if_neg (by decide)]
  rfl
#print axioms RouteEnds
end Go.Proofs.Ytpkcofmoplnahaa.Pure
