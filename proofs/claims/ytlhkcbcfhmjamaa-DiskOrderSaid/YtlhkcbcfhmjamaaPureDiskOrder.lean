/- The Go function DiskOrder, called with any texts and numbers, returns true: what was synced stays the log's beginning, until it is swapped, whatever is done. No condition. -/
import Derived.Test.YtlhkcbcfhmjamaaPAllx8
import Derived.Test.YtlhkcbcfhmjamaaDisks
namespace Go.Proofs.Ytlhkcbcfhmjamaa.Pure
open Go.RowKit Go.Proofs.Ytlhkcbcfhmjamaa.PAll Go.Proofs.YtlhkcbcfhmjamaaW.PrintWords Go.Proofs.YtlhkcbcfhmjamaaW.PrintLast Go.Proofs.Ytlhkcbcfhmjamaa.Base Go.Proofs.Ytlhkcbcfhmjamaa.Disks

/-- What holds ahead of round i: the log is all, what was synced begins what lasts, and little was written. -/
structure Inv (i : Nat) (safe all kept pend : ByteArray) : Prop where
  log : all = kept ++ pend
  begins : safe.toList <+: kept.toList
  little : all.size ≤ 50 * i
theorem Inv.sizes {i : Nat} {safe all kept pend : ByteArray} (h : Inv i safe all kept pend) : kept.size + pend.size ≤ 50 * i ∧ safe.size ≤ kept.size := by
  have h1 := h.little
  have h2 := h.begins.length_le
  rw [h.log, size_app] at h1
  rw [← tl_size, ← tl_size] at h2
  exact ⟨h1, h2⟩
theorem begins_cut {s x : ByteArray} (h : s.toList <+: x.toList) : (x.extract 0 s.size).toList = s.toList := by
  rw [tl_extract, List.drop_zero, tl_size]
  exact (List.prefix_iff_eq_take.1 h).symm
theorem order_loop (l0 : List ByteArray) (l1 : List Int) (g0 : ∀ x ∈ l0, x.size ≤ 9223372036854775807) (g1 : ∀ x ∈ l1, (Lit.int .i64 x).wf = true) (m : Nat) :
    ∀ (i k : Nat) (safe all b kept pend : ByteArray), i + m = 20 → 4 * m + 4 < k → Inv i safe all kept pend → careenlaw07_DiskOrder.l0 k l0 l1 true safe all (i : Int) b kept pend = some true := by
  induction m with
  | zero =>
    intro i k safe all b kept pend hi hk _
    obtain ⟨k, rfl⟩ : ∃ m, k = m + 2 := ⟨k - 2, by omega⟩
    have e : decide ((i : Int) < 20) = false := decide_eq_false (by omega)
    rw [careenlaw07_DiskOrder.l0, e]
    split <;> rw [careenlaw07_DiskOrder.j1, if_neg (by decide)]
  | succ m ih =>
    intro i k safe all b kept pend hi hk hI
    obtain ⟨k, rfl⟩ : ∃ m, k = m + 4 := ⟨k - 4, by omega⟩
    by_cases hlt : i < l1.length
    · have e : decide ((i : Int) < 20) = true := decide_eq_true (by omega)
      have next : wrap64 ((i : Int) + 1) = ((i + 1 : Nat) : Int) := by rw [wrap64_id (by omega) (by omega)]; omega
      obtain ⟨hs, hsk⟩ := hI.sizes
      have hall : all.size = kept.size + pend.size := by rw [hI.log, size_app]
      have step : ∀ t : ByteArray, t.size ≤ 50 → careenlaw07_DiskOrder.j2 (k + 2) l0 l1 true safe all (i : Int) t b kept pend = some true := by
        intro t ht
        have hw : (Lit.int .i64 (rd l1 (i : Int))).wf = true := by
          have : rd l1 (i : Int) = l1[i] := by unfold rd; simp [List.getD_eq_getElem?_getD, List.getElem?_eq_getElem hlt]
          rw [this]; exact g1 _ (List.getElem_mem hlt)
        rw [careenlaw07_DiskOrder.j2, if_pos (by omega), if_pos (by omega), pick_eq _ _ hw (by decide), Option.bind_some]
        by_cases c0 : pickN (rd l1 (i : Int)) 6 = 0
        · rw [if_pos c0, sync_eq b kept pend (by omega), Option.bind_some, log_eq _ _ _ (by rw [size_app, E_size]; omega), Option.bind_some, app_E, ← hI.log, if_pos rfl]
          dsimp only
          rw [if_neg (by omega), if_pos (by omega), if_pos (by omega), if_pos (by rw [whole]), next]
          exact ih (i + 1) _ _ _ _ _ _ (by omega) (by omega) ⟨(app_E _).symm, List.prefix_refl _, by have := hI.little; omega⟩
        rw [if_neg c0]
        by_cases c1 : pickN (rd l1 (i : Int)) 6 = 1
        · have hk2 := kept_le (Int.tmod (rd l1 (i : Int)) 40) pend
          have zK : (kept ++ pend.extract 0 (Disks.kept (Int.tmod (rd l1 (i : Int)) 40) pend)).size = kept.size + Disks.kept (Int.tmod (rd l1 (i : Int)) 40) pend := by rw [size_app, size_cut]; omega
          rw [if_pos c1, crash_eq b kept pend _ (by omega), Option.bind_some]
          dsimp only
          generalize kept ++ pend.extract 0 (Disks.kept (Int.tmod (rd l1 (i : Int)) 40) pend) = K at *
          rw [log_eq b K E (by rw [E_size]; omega), Option.bind_some, app_E, if_neg (by omega), Option.bind_some, if_pos rfl, if_neg (by omega), if_pos (by omega), if_pos (by omega), if_pos (by rw [whole]), next]
          exact ih (i + 1) _ _ _ _ _ _ (by omega) (by omega) ⟨(app_E _).symm, List.prefix_refl _, by have := hI.little; omega⟩
        rw [if_neg c1]
        by_cases c2 : pickN (rd l1 (i : Int)) 6 = 2
        · rw [if_pos c2, swap_ok b kept pend all (by omega), Option.bind_some, if_pos rfl]
          have e : (all.toList != all.toList) = false := by simp
          dsimp only
          rw [e, careenlaw07_DiskOrder.j3, if_neg (by decide), log_eq _ E E (by decide), Option.bind_some, app_E, if_pos tl_nil, if_neg (by decide), if_pos (by decide), if_pos (by decide), if_pos (by rw [E_cut]; exact tl_nil), next]
          exact ih (i + 1) _ _ _ _ _ _ (by omega) (by omega) ⟨(app_E _).symm, List.prefix_refl _, by rw [E_size]; omega⟩
        · rw [if_neg c2, append_ok b kept pend t (by omega), Option.bind_some, if_pos rfl, if_pos (by omega)]
          dsimp only
          have e : all ++ t = kept ++ (pend ++ t) := by rw [hI.log, assoc]
          have bg : safe.toList <+: (kept ++ (pend ++ t)).toList := by rw [tl_append]; exact hI.begins.trans (List.prefix_append _ _)
          rw [log_eq _ _ _ (by rw [size_app]; omega), Option.bind_some, if_pos (by rw [e]), if_neg (by omega), if_pos (by omega), if_pos (by rw [size_app, size_app]; omega), if_pos (begins_cut bg), next]
          exact ih (i + 1) _ _ _ _ _ _ (by omega) (by omega) ⟨e, hI.begins, by rw [size_app]; have := hI.little; omega⟩
      rw [careenlaw07_DiskOrder.l0, if_pos (by omega), e, careenlaw07_DiskOrder.j1, if_pos rfl]
      by_cases h2 : i < l0.length
      · have hz : (rdOf ByteArray.empty l0 (i : Int)).size ≤ 9223372036854775807 := by
          have : rdOf ByteArray.empty l0 (i : Int) = l0[i] := by unfold rdOf; simp [List.getD_eq_getElem?_getD, List.getElem?_eq_getElem h2]
          rw [this]; exact g0 _ (List.getElem_mem h2)
        rw [if_pos (by omega), if_pos (by omega), if_pos (by rw [mn_eq]; omega), if_pos (by rw [mn_eq]; omega)]
        exact step _ (by rw [size_cut, mn_eq]; omega)
      · rw [if_neg (by omega)]
        exact step _ (by decide)
    · rw [careenlaw07_DiskOrder.l0, if_neg (by omega), careenlaw07_DiskOrder.j1, if_neg (by decide)]
theorem DiskOrder : careenlaw07_DiskOrder.Pure := by
  intro l0 l1 _ g0 _ g1
  refine ⟨100, ?_⟩
  unfold careenlaw07_DiskOrder.f
  rw [awake_eq, Option.bind_some]
  exact order_loop l0 l1 g0 g1 20 0 100 E E E E E (by decide) (by decide) ⟨(app_E _).symm, List.prefix_refl _, by decide⟩

end Go.Proofs.Ytlhkcbcfhmjamaa.Pure
