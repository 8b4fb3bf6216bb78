-- Written by a program of this session (wip/xpatch.py, wip/xprint.sh) for seat Ytlhkcbcfhmjamaa.
import Derived.Test.YtlhkcbcfhmjamaaPAllx0
import Derived.Test.YtlhkcbcfhmjamaaPAllx2
namespace Go.Proofs.Ytlhkcbcfhmjamaa.PAll
open Go.RowKit Go.Proofs.YtlhkcbcfhmjamaaW.PrintWords Go.Proofs.YtlhkcbcfhmjamaaW.PrintLast Go.Proofs.YtlhkcbcfhmjamaaW.PrintMore
attribute [local go_sem] max2_int min2_int max_two min_two max_three min_three max_four min_four   -- for this text's walks alone
set_option linter.unusedVariables false
set_option linter.unusedSimpArgs false

/-! ### careenlaw07_DiskOrder: function 7 -/
mutual
def careenlaw07_DiskOrder.l0 : Nat → List ByteArray → List Int → Bool → ByteArray → ByteArray → Int → ByteArray → ByteArray → ByteArray → Option (Bool)
  | 0, _, _, _, _, _, _, _, _, _ => none
  | k + 1, x0, x1, x5, x7, x8, x9, x295000, x295001, x295002 => if x9 < (x1.length : Int) then (careenlaw07_DiskOrder.j1 k x0 x1 x5 x7 x8 x9 (decide (x9 < 20)) x295000 x295001 x295002) else (careenlaw07_DiskOrder.j1 k x0 x1 x5 x7 x8 x9 false x295000 x295001 x295002)
def careenlaw07_DiskOrder.j1 : Nat → List ByteArray → List Int → Bool → ByteArray → ByteArray → Int → Bool → ByteArray → ByteArray → ByteArray → Option (Bool)
  | 0, _, _, _, _, _, _, _, _, _, _ => none
  | k + 1, x0, x1, x5, x7, x8, x9, x25, x295000, x295001, x295002 => if x25 = true then (if x9 < (x0.length : Int) then (if 0 ≤ x9 then (if 0 ≤ (mn ((rdOf ByteArray.empty x0 x9).size : Int) 50) then (if (mn ((rdOf ByteArray.empty x0 x9).size : Int) 50) ≤ ((rdOf ByteArray.empty x0 x9).size : Int) then (careenlaw07_DiskOrder.j2 k x0 x1 x5 x7 x8 x9 ((rdOf ByteArray.empty x0 x9).extract 0 ((mn ((rdOf ByteArray.empty x0 x9).size : Int) 50) : Int).toNat) x295000 x295001 x295002) else (none)) else (none)) else (none)) else (careenlaw07_DiskOrder.j2 k x0 x1 x5 x7 x8 x9 (⟨#[120]⟩ : ByteArray) x295000 x295001 x295002)) else (some x5)
def careenlaw07_DiskOrder.j2 : Nat → List ByteArray → List Int → Bool → ByteArray → ByteArray → Int → ByteArray → ByteArray → ByteArray → ByteArray → Option (Bool)
  | 0, _, _, _, _, _, _, _, _, _, _ => none
  | k + 1, x0, x1, x5, x7, x8, x9, x10, x295000, x295001, x295002 => if 0 ≤ x9 then (if x9 < (x1.length : Int) then ((careenlaw07_pick.f (rd x1 x9) 6).bind fun t298 => (if t298 = 0 then ((disk_Sync.f x295000 x295001 x295002).bind fun bt299 => ((disk_Log.f bt299.1 bt299.2.1 bt299.2.2).bind fun t302 => (if t302.toList = x8.toList then (if (bt299.2.1.size : Int) < (x8.size : Int) then (some false) else (if 0 ≤ (x8.size : Int) then (if (x8.size : Int) ≤ (t302.size : Int) then (if (t302.extract 0 x8.size).toList = x8.toList then (careenlaw07_DiskOrder.l0 k x0 x1 x5 x8 x8 (wrap64 (x9 + 1)) bt299.1 bt299.2.1 bt299.2.2) else (some false)) else (none)) else (none))) else (some false)))) else (if t298 = 1 then ((disk_Crash.f x295000 x295001 x295002 (Int.tmod (rd x1 x9) 40)).bind fun bt304 => ((disk_Log.f bt304.1 bt304.2.1 bt304.2.2).bind fun t307 => (if (t307.size : Int) < (x7.size : Int) then (some false) else ((disk_Log.f bt304.1 bt304.2.1 bt304.2.2).bind fun t308 => (if t308.toList = t307.toList then (if (bt304.2.1.size : Int) < (t307.size : Int) then (some false) else (if 0 ≤ (t307.size : Int) then (if (t307.size : Int) ≤ (t308.size : Int) then (if (t308.extract 0 t307.size).toList = t307.toList then (careenlaw07_DiskOrder.l0 k x0 x1 x5 t307 t307 (wrap64 (x9 + 1)) bt304.1 bt304.2.1 bt304.2.2) else (some false)) else (none)) else (none))) else (some false)))))) else (if t298 = 2 then ((disk_Swap.f x295000 x295001 x295002 x8).bind fun bt309 => (if bt309.2.2.2 = 0 then (careenlaw07_DiskOrder.j3 k x0 x1 x5 x9 (bt309.1.toList != x8.toList) bt309.1 bt309.2.1 bt309.2.2.1) else (careenlaw07_DiskOrder.j3 k x0 x1 x5 x9 true bt309.1 bt309.2.1 bt309.2.2.1))) else ((disk_Append.f x295000 x295001 x295002 x10).bind fun bt315 => (if bt315.2.2.2 = 0 then (if x8.size + x10.size ≤ 9223372036854775807 then ((disk_Log.f bt315.1 bt315.2.1 bt315.2.2.1).bind fun t320 => (if t320.toList = (x8 ++ x10).toList then (if (bt315.2.1.size : Int) < (x7.size : Int) then (some false) else (if 0 ≤ (x7.size : Int) then (if (x7.size : Int) ≤ (t320.size : Int) then (if (t320.extract 0 x7.size).toList = x7.toList then (careenlaw07_DiskOrder.l0 k x0 x1 x5 x7 (x8 ++ x10) (wrap64 (x9 + 1)) bt315.1 bt315.2.1 bt315.2.2.1) else (some false)) else (none)) else (none))) else (some false))) else (none)) else (some false))))))) else (none)) else (none)
def careenlaw07_DiskOrder.j3 : Nat → List ByteArray → List Int → Bool → Int → Bool → ByteArray → ByteArray → ByteArray → Option (Bool)
  | 0, _, _, _, _, _, _, _, _ => none
  | k + 1, x0, x1, x5, x9, x97, x314000, x314001, x314002 => if x97 = true then (some false) else ((disk_Log.f x314000 x314001 x314002).bind fun t314 => (if t314.toList = ([] : List UInt8) then (if (x314001.size : Int) < 0 then (some false) else (if 0 ≤ 0 then (if 0 ≤ (t314.size : Int) then (if (t314.extract 0 0).toList = ([] : List UInt8) then (careenlaw07_DiskOrder.l0 k x0 x1 x5 (⟨#[]⟩ : ByteArray) (⟨#[]⟩ : ByteArray) (wrap64 (x9 + 1)) x314000 x314001 x314002) else (some false)) else (none)) else (none))) else (some false)))
end
def careenlaw07_DiskOrder.f (k : Nat) (l0 : List ByteArray) (l1 : List Int) : Option (Bool) := (careenlaw07_awake.f).bind fun t293 => (careenlaw07_DiskOrder.l0 k l0 l1 t293 (⟨#[]⟩ : ByteArray) (⟨#[]⟩ : ByteArray) 0 (⟨#[]⟩ : ByteArray) (⟨#[]⟩ : ByteArray) (⟨#[]⟩ : ByteArray))
theorem careenlaw07_DiskOrder.mono_l : ∀ k, (∀ y0 y1 y2 y3 y4 y5 y6 y7 y8, LeO (careenlaw07_DiskOrder.l0 k y0 y1 y2 y3 y4 y5 y6 y7 y8) (careenlaw07_DiskOrder.l0 (k + 1) y0 y1 y2 y3 y4 y5 y6 y7 y8)) ∧ (∀ y0 y1 y2 y3 y4 y5 y6 y7 y8 y9, LeO (careenlaw07_DiskOrder.j1 k y0 y1 y2 y3 y4 y5 y6 y7 y8 y9) (careenlaw07_DiskOrder.j1 (k + 1) y0 y1 y2 y3 y4 y5 y6 y7 y8 y9)) ∧ (∀ y0 y1 y2 y3 y4 y5 y6 y7 y8 y9, LeO (careenlaw07_DiskOrder.j2 k y0 y1 y2 y3 y4 y5 y6 y7 y8 y9) (careenlaw07_DiskOrder.j2 (k + 1) y0 y1 y2 y3 y4 y5 y6 y7 y8 y9)) ∧ (∀ y0 y1 y2 y3 y4 y5 y6 y7, LeO (careenlaw07_DiskOrder.j3 k y0 y1 y2 y3 y4 y5 y6 y7) (careenlaw07_DiskOrder.j3 (k + 1) y0 y1 y2 y3 y4 y5 y6 y7))
  | 0 => ⟨(fun _ _ _ _ _ _ _ _ _ r h => by cases (show (none : Option _) = some r from h)), (fun _ _ _ _ _ _ _ _ _ _ r h => by cases (show (none : Option _) = some r from h)), (fun _ _ _ _ _ _ _ _ _ _ r h => by cases (show (none : Option _) = some r from h)), (fun _ _ _ _ _ _ _ _ r h => by cases (show (none : Option _) = some r from h))⟩
  | k + 1 => by
    obtain ⟨ih0, ih1, ih2, ih3⟩ := careenlaw07_DiskOrder.mono_l k
    refine ⟨?_, ?_, ?_, ?_⟩
    · intro y0 y1 y2 y3 y4 y5 y6 y7 y8
      unfold careenlaw07_DiskOrder.l0
      repeat' first
      | (with_reducible exact ih0 _ _ _ _ _ _ _ _ _)
      | (with_reducible exact ih1 _ _ _ _ _ _ _ _ _ _)
      | (with_reducible exact ih2 _ _ _ _ _ _ _ _ _ _)
      | (with_reducible exact ih3 _ _ _ _ _ _ _ _)
      | (with_reducible exact LeO.refl _)
      | (with_reducible exact LeO.none _)
      | (with_reducible refine LeO.ite ?_ ?_)
      | (with_reducible refine LeO.bind ?_ (fun _ => ?_))
      | exact ih0 _ _ _ _ _ _ _ _ _
      | exact ih1 _ _ _ _ _ _ _ _ _ _
      | exact ih2 _ _ _ _ _ _ _ _ _ _
      | exact ih3 _ _ _ _ _ _ _ _
      | exact LeO.none _
      | refine LeO.ite ?_ ?_
      | refine LeO.bind ?_ (fun _ => ?_)
    · intro y0 y1 y2 y3 y4 y5 y6 y7 y8 y9
      unfold careenlaw07_DiskOrder.j1
      repeat' first
      | (with_reducible exact ih0 _ _ _ _ _ _ _ _ _)
      | (with_reducible exact ih1 _ _ _ _ _ _ _ _ _ _)
      | (with_reducible exact ih2 _ _ _ _ _ _ _ _ _ _)
      | (with_reducible exact ih3 _ _ _ _ _ _ _ _)
      | (with_reducible exact LeO.refl _)
      | (with_reducible exact LeO.none _)
      | (with_reducible refine LeO.ite ?_ ?_)
      | (with_reducible refine LeO.bind ?_ (fun _ => ?_))
      | exact ih0 _ _ _ _ _ _ _ _ _
      | exact ih1 _ _ _ _ _ _ _ _ _ _
      | exact ih2 _ _ _ _ _ _ _ _ _ _
      | exact ih3 _ _ _ _ _ _ _ _
      | exact LeO.none _
      | refine LeO.ite ?_ ?_
      | refine LeO.bind ?_ (fun _ => ?_)
    · intro y0 y1 y2 y3 y4 y5 y6 y7 y8 y9
      unfold careenlaw07_DiskOrder.j2
      repeat' first
      | (with_reducible exact ih0 _ _ _ _ _ _ _ _ _)
      | (with_reducible exact ih1 _ _ _ _ _ _ _ _ _ _)
      | (with_reducible exact ih2 _ _ _ _ _ _ _ _ _ _)
      | (with_reducible exact ih3 _ _ _ _ _ _ _ _)
      | (with_reducible exact LeO.refl _)
      | (with_reducible exact LeO.none _)
      | (with_reducible refine LeO.ite ?_ ?_)
      | (with_reducible refine LeO.bind ?_ (fun _ => ?_))
      | exact ih0 _ _ _ _ _ _ _ _ _
      | exact ih1 _ _ _ _ _ _ _ _ _ _
      | exact ih2 _ _ _ _ _ _ _ _ _ _
      | exact ih3 _ _ _ _ _ _ _ _
      | exact LeO.none _
      | refine LeO.ite ?_ ?_
      | refine LeO.bind ?_ (fun _ => ?_)
    · intro y0 y1 y2 y3 y4 y5 y6 y7
      unfold careenlaw07_DiskOrder.j3
      repeat' first
      | (with_reducible exact ih0 _ _ _ _ _ _ _ _ _)
      | (with_reducible exact ih1 _ _ _ _ _ _ _ _ _ _)
      | (with_reducible exact ih2 _ _ _ _ _ _ _ _ _ _)
      | (with_reducible exact ih3 _ _ _ _ _ _ _ _)
      | (with_reducible exact LeO.refl _)
      | (with_reducible exact LeO.none _)
      | (with_reducible refine LeO.ite ?_ ?_)
      | (with_reducible refine LeO.bind ?_ (fun _ => ?_))
      | exact ih0 _ _ _ _ _ _ _ _ _
      | exact ih1 _ _ _ _ _ _ _ _ _ _
      | exact ih2 _ _ _ _ _ _ _ _ _ _
      | exact ih3 _ _ _ _ _ _ _ _
      | exact LeO.none _
      | refine LeO.ite ?_ ?_
      | refine LeO.bind ?_ (fun _ => ?_)
theorem careenlaw07_DiskOrder.mono : ∀ a0 a1 k, LeO (careenlaw07_DiskOrder.f k a0 a1) (careenlaw07_DiskOrder.f (k + 1) a0 a1) := by
  intro a0 a1 k
  obtain ⟨ih0, ih1, ih2, ih3⟩ := careenlaw07_DiskOrder.mono_l k
  unfold careenlaw07_DiskOrder.f
  repeat' first
      | (with_reducible exact ih0 _ _ _ _ _ _ _ _ _)
      | (with_reducible exact ih1 _ _ _ _ _ _ _ _ _ _)
      | (with_reducible exact ih2 _ _ _ _ _ _ _ _ _ _)
      | (with_reducible exact ih3 _ _ _ _ _ _ _ _)
      | (with_reducible exact LeO.refl _)
      | (with_reducible exact LeO.none _)
      | (with_reducible refine LeO.ite ?_ ?_)
      | (with_reducible refine LeO.bind ?_ (fun _ => ?_))
      | exact ih0 _ _ _ _ _ _ _ _ _
      | exact ih1 _ _ _ _ _ _ _ _ _ _
      | exact ih2 _ _ _ _ _ _ _ _ _ _
      | exact ih3 _ _ _ _ _ _ _ _
      | exact LeO.none _
      | refine LeO.ite ?_ ?_
      | refine LeO.bind ?_ (fun _ => ?_)
def careenlaw07_DiskOrder.T10 : Bool × List (List Nat × List Nat) := (true, [([], []), ([], []), ([0, 1], [0, 1]), ([2], [2]), ([], []), ([], []), ([4, 5], [4, 5]), ([6], [6]), ([7], [7]), ([8], [8]), ([3, 9], [3, 9]), ([10, 0, 1, 2, 3, 4, 5, 6, 7, 8, 9, 10], [10])])
def careenlaw07_DiskOrder.B10 : List Nat := [0, 0, 3, 7, 0, 0, 48, 112, 240, 496, 1023, 2047]
theorem careenlaw07_DiskOrder.tab10 : rtab .any (opsOf Try.f7 10) = careenlaw07_DiskOrder.T10 := by kernel_rfl
theorem careenlaw07_DiskOrder.bits10 : waitsOk careenlaw07_DiskOrder.T10.2 careenlaw07_DiskOrder.B10 = true := by kernel_rfl
def careenlaw07_DiskOrder.T21 : Bool × List (List Nat × List Nat) := (true, [([], []), ([], []), ([], []), ([1, 2], [1, 2]), ([3], [3]), ([4], [4]), ([0, 5], [0, 5]), ([6, 6, 0, 1, 2, 3, 4, 5, 6], [6])])
def careenlaw07_DiskOrder.B21 : List Nat := [0, 0, 0, 6, 14, 30, 63, 127]
theorem careenlaw07_DiskOrder.tab21 : rtab .any (opsOf Try.f7 21) = careenlaw07_DiskOrder.T21 := by kernel_rfl
theorem careenlaw07_DiskOrder.bits21 : waitsOk careenlaw07_DiskOrder.T21.2 careenlaw07_DiskOrder.B21 = true := by kernel_rfl
set_option maxHeartbeats 8000000 in
set_option maxRecDepth 100000 in
theorem careenlaw07_DiskOrder.calls (k : Nat) (A0 : Option Addr) (c0 : Nat) (l0 : List ByteArray) (A1 : Option Addr) (c1 : Nat) (l1 : List Int) (w : World) (hr0 : Kd.C Kd.string w A0 l0.length l0) (hc0 : l0.length ≤ c0) (hr1 : Kd.C (Kd.int .i64) w A1 l1.length l1) (hc1 : l1.length ≤ c1) (h : careenlaw07_DiskOrder.f k l0 l1 = some true) :
    Calls Try.prog 7 #[.slice A0 l0.length c0, .slice A1 l1.length c1] w fun e w' => e = .returned (.bool true) ∧ Below w.heap.size w w' := by
  have hu23 := Try.underlying23
  have HR0 := Aside0.mk hr0
  have HC0 := Aside0.mk hc0
  clear hr0 hc0
  have HR1 := Aside0.mk hr1
  have HC1 := Aside0.mk hc1
  clear hr1 hc1
  have HB := Aside0.mk (Below.refl w.heap.size w)
  have H : ((careenlaw07_awake.f).bind fun t293 => (careenlaw07_DiskOrder.l0 k l0 l1 t293 (⟨#[]⟩ : ByteArray) (⟨#[]⟩ : ByteArray) 0 (⟨#[]⟩ : ByteArray) (⟨#[]⟩ : ByteArray) (⟨#[]⟩ : ByteArray))) = some true := h
  clear h
  replace H := Option.bind_eq_some_iff.mp H
  obtain ⟨t293, A30, H⟩ := H
  replace H : (careenlaw07_DiskOrder.l0 k l0 l1 t293 (⟨#[]⟩ : ByteArray) (⟨#[]⟩ : ByteArray) 0 (⟨#[]⟩ : ByteArray) (⟨#[]⟩ : ByteArray) (⟨#[]⟩ : ByteArray)) = some true := H
  have A3 := Aside0.mk A30
  clear A30
  have H' := Aside0.mk H
  clear H
  go_enter Try.func7, Try.ntmps7
  go_wp2_with (first | ((with_reducible refine gate_callee (f := 8) rfl ?_); refine goesL_ (some 16) rfl rfl Try.func8 (by kernel_rfl) rfl #[] rfl (by (try simp only [List.map_toArray, List.map_cons, List.map_nil]); first | done | rfl | (simp only [List.length_drop, List.length_take]; rfl)) ?_; (with_reducible refine (careenlaw07_awake.calls  t293 _ A3.out).mono ?_); rintro e w4 ⟨rfl, hb⟩; refine ⟨_, rfl, ?_⟩; have n0_ := Aside0.mk (below_step (by repeat (first | (with_reducible first | exact HB.out | apply below_alloc | apply pw_below_drewN | apply below_drew1) | exact HB.out)) hb); clear HB; have HB := n0_; clear n0_; (try clear hb); (try clear hb2); (try clear hk); (try clear hi)) | ((with_reducible refine gate_dst (N := 6) rfl ?_); (try (refine gate_guard (by rfl) ?_; dsimp only)); refine box_event ?hg (N := 6) ?hd (cs := #[.string (⟨#[]⟩ : ByteArray), .string (⟨#[]⟩ : ByteArray), .string (⟨#[]⟩ : ByteArray)]) (t := 23) ?hr ?_; (case hd => rfl); (case hg => rfl); (case hr => first | (go_simp; done) | (go_simp; rfl)); intro gb294 hg w5 hbox hb; have n0_ := Aside0.mk (below_step (by repeat (first | (with_reducible first | exact HB.out | apply below_alloc | apply pw_below_drewN | apply below_drew1) | exact HB.out)) hb); have n1_ := Aside0.mk (hbox); have n2_ := Aside0.mk ((by rw [hg]; exact (below_size (by repeat (first | (with_reducible first | exact HB.out | apply below_alloc | apply pw_below_drewN | apply below_drew1) | exact HB.out))) : w.heap.size ≤ gb294)); have n3_ := Aside0.mk ((by rw [hg]; exact (below_size (by repeat (first | (with_reducible first | exact HB.out | apply below_alloc | apply pw_below_drewN | apply below_drew1) | exact HB.out))) : w.heap.size ≤ gb294)); clear HB; have HB := n0_; have BK294 := n1_; have GW294 := n2_; have GE294 := n3_; clear n0_ n1_ n2_ n3_; clear hb hbox hg; have hcz6_0 : w5.cell? ⟨gb294, 0, none⟩ = some (.string (⟨#[]⟩ : ByteArray)) := (blk_cell BK294.out 0).trans rfl; have hcz6_1 : w5.cell? ⟨gb294, 1, none⟩ = some (.string (⟨#[]⟩ : ByteArray)) := (blk_cell BK294.out 1).trans rfl; have hcz6_2 : w5.cell? ⟨gb294, 2, none⟩ = some (.string (⟨#[]⟩ : ByteArray)) := (blk_cell BK294.out 2).trans rfl; have hfz6_0 := blk_frozen BK294.out 0; have hfz6_1 := blk_frozen BK294.out 1; have hfz6_2 := blk_frozen BK294.out 2))
  go_loopg [7, 8, 9] k (fun kq v7 v8 v9 w' => ∃ (x7_1 : ByteArray) (x8_1 : ByteArray) (x9_1 : Int) (x295000_1 : ByteArray) (x295001_1 : ByteArray) (x295002_1 : ByteArray), v7 = .string x7_1 ∧ v8 = .string x8_1 ∧ v9 = .int .i64 x9_1 ∧ Aside0 (careenlaw07_DiskOrder.l0 kq l0 l1 t293 x7_1 x8_1 x9_1 x295000_1 x295001_1 x295002_1 = some true) ∧ Aside0 (kq ≤ k) ∧ Aside0 (w'.heap[gb294]? = some (.cells #[.string x295000_1, .string x295001_1, .string x295002_1] 23 (0, 0))) ∧ Aside0 (Below w.heap.size w w'))
  case atStart => exact ⟨((⟨#[]⟩ : ByteArray)), ((⟨#[]⟩ : ByteArray)), (0), ((⟨#[]⟩ : ByteArray)), ((⟨#[]⟩ : ByteArray)), ((⟨#[]⟩ : ByteArray)), (by first | rfl | (simp; done) | (simp [*]; done)), (by first | rfl | (simp; done) | (simp [*]; done)), (by first | rfl | (simp; done) | (simp [*]; done)), H', ⟨Nat.le_refl _⟩, ⟨by (with_reducible repeat (first | refine blk_drewN ?_ _ | refine blk_drew ?_ | refine blk_alloc ?_ _)); refine blk_put (cs := #[.string (⟨#[]⟩ : ByteArray), .string (⟨#[]⟩ : ByteArray), .string (⟨#[]⟩ : ByteArray)]) ?_ 2 _ rfl; (with_reducible repeat (first | refine blk_drewN ?_ _ | refine blk_drew ?_ | refine blk_alloc ?_ _)); refine blk_put (cs := #[.string (⟨#[]⟩ : ByteArray), .string (⟨#[]⟩ : ByteArray), .string (⟨#[]⟩ : ByteArray)]) ?_ 1 _ rfl; (with_reducible repeat (first | refine blk_drewN ?_ _ | refine blk_drew ?_ | refine blk_alloc ?_ _)); refine blk_put (cs := #[.string (⟨#[]⟩ : ByteArray), .string (⟨#[]⟩ : ByteArray), .string (⟨#[]⟩ : ByteArray)]) ?_ 0 _ rfl; (with_reducible repeat (first | refine blk_drewN ?_ _ | refine blk_drew ?_ | refine blk_alloc ?_ _)); exact BK294.out⟩, ⟨by repeat (first | (with_reducible first | exact HB.out | apply below_alloc | apply pw_below_drewN | apply below_drew1 | refine below_set ?_ GE294.out) | exact HB.out)⟩⟩
  case round =>
    clear H'
    try clear c1
    try clear p2
    try clear hcz6_0
    try clear hcz6_1
    try clear hcz6_2
    try clear hfz6_0
    try clear hfz6_1
    try clear hfz6_2
    obtain ⟨x7_1, x8_1, x9_1, x295000_1, x295001_1, x295002_1, rfl, rfl, rfl, HA, HK1, BK294, HB⟩ := hrel
    cases gk with
    | zero => cases (show (none : Option _) = some _ from HA.out)
    | succ k1 =>
      have H := HA.out
      clear HA
      simp only [careenlaw07_DiskOrder.l0] at H
      have HC7 := Aside0.mk H
      clear H
      go_upto_region 6 with (fail)
      go_cut [25] (fun v25 wc => ∃ (kq : Nat) (x25_6 : Bool), v25 = .bool x25_6 ∧ Aside0 (careenlaw07_DiskOrder.j1 kq l0 l1 t293 x7_1 x8_1 x9_1 x25_6 x295000_1 x295001_1 x295002_1 = some true) ∧ Aside0 (kq ≤ k1) ∧ Aside0 (wc.heap[gb294]? = some (.cells #[.string x295000_1, .string x295001_1, .string x295002_1] 23 (0, 0))) ∧ Aside0 (Below w.heap.size w wc))
      case first =>
        have H := HC7.out
        clear HC7
        by_cases c8 : x9_1 < (l1.length : Int)
        · rw [if_pos c8] at H
          have c8b0 : decide (x9_1 < (l1.length : Int)) = true := decide_eq_true c8
          clear c8
          (first | rw [c8b0] | (simp only [i64_w, i32_w]; rw [c8b0]) | skip)
          have H' := Aside0.mk H
          clear H
          go_wp2
          go_meet
          case rel => exact ⟨_, (decide (x9_1 < 20)), (by first | rfl | (simp; done) | (simp [*]; done)), H', ⟨by have := HK1.out; first | omega | exact Nat.le_refl _⟩, ⟨by (with_reducible repeat (first | refine blk_drewN ?_ _ | refine blk_drew ?_ | refine blk_alloc ?_ _)); exact BK294.out⟩, ⟨by repeat (first | (with_reducible first | exact HB.out | apply below_alloc | apply pw_below_drewN | apply below_drew1 | refine below_set ?_ GE294.out) | exact HB.out)⟩⟩
        · rw [if_neg c8] at H
          have c8b0 : decide (x9_1 < (l1.length : Int)) = false := decide_eq_false c8
          clear c8
          (first | rw [c8b0] | (simp only [i64_w, i32_w]; rw [c8b0]) | skip)
          have H' := Aside0.mk H
          clear H
          go_wp2
          go_meet
          case rel => exact ⟨_, (false), (by first | rfl | (simp; done) | (simp [*]; done)), H', ⟨by have := HK1.out; first | omega | exact Nat.le_refl _⟩, ⟨by (with_reducible repeat (first | refine blk_drewN ?_ _ | refine blk_drew ?_ | refine blk_alloc ?_ _)); exact BK294.out⟩, ⟨by repeat (first | (with_reducible first | exact HB.out | apply below_alloc | apply pw_below_drewN | apply below_drew1 | refine below_set ?_ GE294.out) | exact HB.out)⟩⟩
      case rest =>
        clear HC7
        try clear c1
        try clear p2
        try clear c7
        try clear c8
        try clear c8b0
        try clear hcz6_0
        try clear hcz6_1
        try clear hcz6_2
        try clear hfz6_0
        try clear hfz6_1
        try clear hfz6_2
        try clear p2
        obtain ⟨kq, x25_6, rfl, HA, HJ6, BK294, HB⟩ := hcut
        cases kq with
        | zero => cases (show (none : Option _) = some _ from HA.out)
        | succ kj6 =>
          have H := HA.out
          clear HA
          simp only [careenlaw07_DiskOrder.j1] at H
          by_cases c9 : x25_6 = true
          · subst c9
            have H1 : (if x9_1 < (l0.length : Int) then (if 0 ≤ x9_1 then (if 0 ≤ (mn ((rdOf ByteArray.empty l0 x9_1).size : Int) 50) then (if (mn ((rdOf ByteArray.empty l0 x9_1).size : Int) 50) ≤ ((rdOf ByteArray.empty l0 x9_1).size : Int) then (careenlaw07_DiskOrder.j2 kj6 l0 l1 t293 x7_1 x8_1 x9_1 ((rdOf ByteArray.empty l0 x9_1).extract 0 ((mn ((rdOf ByteArray.empty l0 x9_1).size : Int) 50) : Int).toNat) x295000_1 x295001_1 x295002_1) else (none)) else (none)) else (none)) else (careenlaw07_DiskOrder.j2 kj6 l0 l1 t293 x7_1 x8_1 x9_1 (⟨#[120]⟩ : ByteArray) x295000_1 x295001_1 x295002_1)) = some true := by rw [if_pos rfl] at H; exact H
            clear H
            have H := H1
            clear H1
            have HC10 := Aside0.mk H
            clear H
            go_upto_if 31 with (fail)
            go_cut [10] (fun v10 wc => ∃ (kq : Nat) (x10_9 : ByteArray), v10 = .string x10_9 ∧ Aside0 (careenlaw07_DiskOrder.j2 kq l0 l1 t293 x7_1 x8_1 x9_1 x10_9 x295000_1 x295001_1 x295002_1 = some true) ∧ Aside0 (kq ≤ kj6) ∧ Aside0 (wc.heap[gb294]? = some (.cells #[.string x295000_1, .string x295001_1, .string x295002_1] 23 (0, 0))) ∧ Aside0 (Below w.heap.size w wc))
            case first =>
              have H := HC10.out
              clear HC10
              by_cases c11 : x9_1 < (l0.length : Int)
              · rw [if_pos c11] at H
                have c11b0 : decide (x9_1 < (l0.length : Int)) = true := decide_eq_true c11
                clear c11
                (first | rw [c11b0] | (simp only [i64_w, i32_w]; rw [c11b0]) | skip)
                by_cases c12 : 0 ≤ x9_1
                · rw [if_pos c12] at H
                  have c12b0 : decide (0 ≤ x9_1) = true := decide_eq_true c12
                  clear c12
                  obtain ⟨ji13, hji13⟩ : ∃ j_ : Int, (mn ((rdOf ByteArray.empty l0 x9_1).size : Int) 50) = j_ := ⟨_, rfl⟩
                  replace H : (if 0 ≤ (ji13) then (if (ji13) ≤ ((rdOf ByteArray.empty l0 x9_1).size : Int) then (careenlaw07_DiskOrder.j2 kj6 l0 l1 t293 x7_1 x8_1 x9_1 ((rdOf ByteArray.empty l0 x9_1).extract 0 ((ji13) : Int).toNat) x295000_1 x295001_1 x295002_1) else (none)) else (none)) = some true := by first | (rw [hji13] at H; exact H) | (simp only [hji13] at H ⊢; exact H)
                  have hji13_ : (if 50 < ((rdOf ByteArray.empty l0 x9_1).size : Int) then 50 else ((rdOf ByteArray.empty l0 x9_1).size : Int)) = ji13 := hji13
                  by_cases c14 : 0 ≤ (ji13)
                  · rw [if_pos c14] at H
                    have c14M : max ji13 0 = ji13 := Int.max_eq_left c14
                    have c14b0 := eq_true c14
                    have c14b1 : decide (0 ≤ (ji13)) = true := decide_eq_true c14
                    clear c14
                    by_cases c15 : (ji13) ≤ ((rdOf ByteArray.empty l0 x9_1).size : Int)
                    · rw [if_pos c15] at H
                      have c15b0 := eq_true c15
                      have c15b1 : decide ((ji13) ≤ ((rdOf ByteArray.empty l0 x9_1).size : Int)) = true := decide_eq_true c15
                      clear c15
                      have H' := Aside0.mk H
                      clear H
                      try go_wp2
                      have n0_ := Aside0.mk (blk_drew BK294.out)
                      have n1_ := Aside0.mk (below_drew1 HB.out)
                      clear BK294
                      clear HB
                      have BK294 := n0_
                      have HB := n1_
                      clear n0_ n1_
                      have p295 : 0 ≤ (x9_1 : Int) := of_decide_eq_true (by first | (with_reducible assumption) | assumption)
                      have q295 : x9_1 < (l0.length : Int) := of_decide_eq_true (by first | (with_reducible assumption) | assumption)
                      obtain ⟨ad295, e295, hx295_0⟩ := Kd.at_string HR0.out x9_1 p295 q295
                      have hw295_0 := hx295_0
                      cases e295
                      replace hx295_0 := (HB.out.cell (World.block_lt_of_cell? w _ hx295_0)).trans hx295_0
                      replace p295 := eq_true p295
                      replace q295 := eq_true q295
                      have p296 : 0 ≤ (x9_1 : Int) := of_decide_eq_true (by first | (with_reducible assumption) | assumption)
                      have q296 : x9_1 < (l0.length : Int) := of_decide_eq_true (by first | (with_reducible assumption) | assumption)
                      obtain ⟨ad296, e296, hx296_0⟩ := Kd.at_string HR0.out x9_1 p296 q296
                      have hw296_0 := hx296_0
                      obtain rfl : ad295 = ad296 := (by injection e296)
                      replace hx296_0 := (HB.out.cell (World.block_lt_of_cell? w _ hx296_0)).trans hx296_0
                      replace p296 := eq_true p296
                      replace q296 := eq_true q296
                      refine start_ (n := 12) (S := fun w' => w'.cell? (ad295.add (x9_1).toNat) = some (.string (rdOf ByteArray.empty l0 x9_1)) ∧ w'.cell? (ad295.add (x9_1).toNat) = some (.string (rdOf ByteArray.empty l0 x9_1))) (ds := []) #[false, false, false, false, false, false, false, false, false, false, false, false] (by kernel_rfl) rfl rfl ⟨((HB.out.cell (World.block_lt_of_cell? w _ hw295_0)).trans hw295_0), ((HB.out.cell (World.block_lt_of_cell? w _ hw296_0)).trans hw296_0)⟩ (fun hHeld => ?_); refine with_tabW careenlaw07_DiskOrder.tab10 careenlaw07_DiskOrder.bits10 (fun HT_ HW_ => ?_)
                      generalize wc.drew = w16 at BK294 HB hx295_0 hx296_0 hHeld ⊢
                      refine pure_ (i := 0) (N := some 32) (v := ?_) (a' := ?_) #[true, false, false, false, false, false, false, false, false, false, false, false] rfl rfl (any_of HT_.out (by kernel_rfl)) (fun _ _ _ h => h) (Or.inl ⟨by rfl, ?_⟩) ?_ ?_
                      rotate_left
                      · intro w'
                        go_simp
                        with_reducible rfl
                      rotate_left
                      · simp only [Act.put, List.setIfInBounds_toArray, List.set_cons_zero, List.set_cons_succ, i64_w, i32_w]
                        rfl
                      refine pure_ (i := 1) (N := some 33) (v := ?_) (a' := ?_) #[true, true, false, false, false, false, false, false, false, false, false, false] rfl rfl (any_of HT_.out (by kernel_rfl)) (fun _ _ _ h => h) (Or.inl ⟨by rfl, ?_⟩) ?_ ?_
                      rotate_left
                      · intro w'
                        go_simp
                        with_reducible rfl
                      rotate_left
                      · simp only [Act.put, List.setIfInBounds_toArray, List.set_cons_zero, List.set_cons_succ, i64_w, i32_w]
                        rfl
                      refine pure_ (i := 2) (N := some 34) (v := ?_) (a' := ?_) #[true, true, true, false, false, false, false, false, false, false, false, false] rfl rfl (any_of HT_.out (by kernel_rfl)) (fun _ _ _ h => h) (Or.inl ⟨by rfl, ?_⟩) ?_ ?_
                      rotate_left
                      · intro w'
                        go_simp
                        with_reducible rfl
                      rotate_left
                      · simp only [Act.put, List.setIfInBounds_toArray, List.set_cons_zero, List.set_cons_succ, i64_w, i32_w]
                        rfl
                      refine pure_ (i := 4) (N := some 36) (v := ?_) (a' := ?_) #[true, true, true, false, true, false, false, false, false, false, false, false] rfl rfl (any_of HT_.out (by kernel_rfl)) (fun _ _ _ h => h) (Or.inl ⟨by rfl, ?_⟩) ?_ ?_
                      rotate_left
                      · intro w'
                        go_simp
                        with_reducible rfl
                      rotate_left
                      · simp only [Act.put, List.setIfInBounds_toArray, List.set_cons_zero, List.set_cons_succ, i64_w, i32_w]
                        rfl
                      refine pure_ (i := 5) (N := some 37) (v := ?_) (a' := ?_) #[true, true, true, false, true, true, false, false, false, false, false, false] rfl rfl (any_of HT_.out (by kernel_rfl)) (fun _ _ _ h => h) (Or.inl ⟨by rfl, ?_⟩) ?_ ?_
                      rotate_left
                      · intro w'
                        go_simp
                        with_reducible rfl
                      rotate_left
                      · simp only [Act.put, List.setIfInBounds_toArray, List.set_cons_zero, List.set_cons_succ, i64_w, i32_w]
                        rfl
                      refine pure_ (i := 6) (N := some 38) (v := ?_) (a' := ?_) #[true, true, true, false, true, true, true, false, false, false, false, false] rfl rfl (any_of HT_.out (by kernel_rfl)) (fun _ _ _ h => h) (Or.inl ⟨by rfl, ?_⟩) ?_ ?_
                      rotate_left
                      · intro w'
                        go_simp
                        with_reducible rfl
                      rotate_left
                      · simp only [Act.put, List.setIfInBounds_toArray, List.set_cons_zero, List.set_cons_succ, i64_w, i32_w]
                        rfl
                      refine take_ (i := 3) (N := some 35) (v := ?_) (a' := ?_) #[true, true, true, true, true, true, true, false, false, false, false, false] rfl rfl (take_ofW HT_.out HW_.out (by kernel_rfl)) (fun _ _ _ h => h) (Or.inl ⟨by rfl, ?_⟩) hHeld ?_ ?_
                      rotate_left
                      · rintro w' ⟨s0, s1⟩
                        go_simp
                        with_reducible rfl
                      rotate_left
                      · simp only [Act.put, List.setIfInBounds_toArray, List.set_cons_zero, List.set_cons_succ, i64_w, i32_w]
                        rfl
                      refine take_ (i := 7) (N := some 39) (v := ?_) (a' := ?_) #[true, true, true, true, true, true, true, true, false, false, false, false] rfl rfl (take_ofW HT_.out HW_.out (by kernel_rfl)) (fun _ _ _ h => h) (Or.inl ⟨by rfl, ?_⟩) hHeld ?_ ?_
                      rotate_left
                      · rintro w' ⟨s0, s1⟩
                        go_simp
                        with_reducible rfl
                      rotate_left
                      · simp only [Act.put, List.setIfInBounds_toArray, List.set_cons_zero, List.set_cons_succ, i64_w, i32_w]
                        rfl
                      refine pure_ (i := 8) (N := some 40) (v := ?_) (a' := ?_) #[true, true, true, true, true, true, true, true, true, false, false, false] rfl rfl (any_of HT_.out (by kernel_rfl)) (fun _ _ _ h => h) (Or.inl ⟨by rfl, ?_⟩) ?_ ?_
                      rotate_left
                      · intro w'
                        go_simp
                        with_reducible rfl
                      rotate_left
                      · simp only [Act.put, List.setIfInBounds_toArray, List.set_cons_zero, List.set_cons_succ, i64_w, i32_w]
                        rfl
                      refine pure_ (i := 9) (N := some 41) (v := ?_) (a' := ?_) #[true, true, true, true, true, true, true, true, true, true, false, false] rfl rfl (any_of HT_.out (by kernel_rfl)) (fun _ _ _ h => h) (Or.inl ⟨by rfl, ?_⟩) ?_ ?_
                      rotate_left
                      · intro w'
                        go_simp
                        with_reducible rfl
                      rotate_left
                      · simp only [Act.put, List.setIfInBounds_toArray, List.set_cons_zero, List.set_cons_succ, i64_w, i32_w]
                        rfl
                      refine pure_ (i := 10) (N := some 42) (v := ?_) (a' := ?_) #[true, true, true, true, true, true, true, true, true, true, true, false] rfl rfl (any_of HT_.out (by kernel_rfl)) (fun _ _ _ h => h) (Or.inl ⟨by rfl, ?_⟩) ?_ ?_
                      rotate_left
                      · intro w'
                        go_simp
                        with_reducible rfl
                      rotate_left
                      · simp only [Act.put, List.setIfInBounds_toArray, List.set_cons_zero, List.set_cons_succ, i64_w, i32_w]
                        rfl
                      refine pure_ (i := 11) (N := some 10) (v := ?_) (a' := ?_) #[true, true, true, true, true, true, true, true, true, true, true, true] rfl rfl (any_of HT_.out (by kernel_rfl)) (fun _ _ _ h => h) (Or.inl ⟨by rfl, ?_⟩) ?_ ?_
                      rotate_left
                      · intro w'
                        go_simp
                        with_reducible rfl
                      rotate_left
                      · simp only [Act.put, List.setIfInBounds_toArray, List.set_cons_zero, List.set_cons_succ, i64_w, i32_w]
                        rfl
                      refine done_ (done_of HT_.out (by kernel_rfl)) ?_
                      try go_wp2
                      go_meet
                      case rel => exact ⟨_, ((rdOf ByteArray.empty l0 x9_1).extract 0 ((ji13) : Int).toNat), (by first | rfl | (simp; done) | (simp only [← hji13] <;> (first | rfl | simp)) | (simp [*]; done)), H', ⟨by have := HK1.out; have := HJ6.out; first | omega | exact Nat.le_refl _⟩, ⟨by (with_reducible repeat (first | refine blk_drewN ?_ _ | refine blk_drew ?_ | refine blk_alloc ?_ _)); exact BK294.out⟩, ⟨by repeat (first | (with_reducible first | exact HB.out | apply below_alloc | apply pw_below_drewN | apply below_drew1 | refine below_set ?_ GE294.out) | exact HB.out)⟩⟩
                    · rw [if_neg c15] at H
                      exact absurd H (by simp)
                  · rw [if_neg c14] at H
                    exact absurd H (by simp)
                · rw [if_neg c12] at H
                  exact absurd H (by simp)
              · rw [if_neg c11] at H
                have c11b0 : decide (x9_1 < (l0.length : Int)) = false := decide_eq_false c11
                clear c11
                (first | rw [c11b0] | (simp only [i64_w, i32_w]; rw [c11b0]) | skip)
                have H' := Aside0.mk H
                clear H
                go_wp2
                go_meet
                case rel => exact ⟨_, ((⟨#[120]⟩ : ByteArray)), (by first | rfl | (simp; done) | (simp [*]; done)), H', ⟨by have := HK1.out; have := HJ6.out; first | omega | exact Nat.le_refl _⟩, ⟨by (with_reducible repeat (first | refine blk_drewN ?_ _ | refine blk_drew ?_ | refine blk_alloc ?_ _)); exact BK294.out⟩, ⟨by repeat (first | (with_reducible first | exact HB.out | apply below_alloc | apply pw_below_drewN | apply below_drew1 | refine below_set ?_ GE294.out) | exact HB.out)⟩⟩
            case rest =>
              clear HC10
              try clear c1
              try clear p2
              try clear q2
              try clear hx2
              try clear c7
              try clear c8
              try clear c8b0
              try clear c9
              try clear c11
              try clear c11b0
              try clear c12
              try clear c12b0
              try clear c14
              try clear c14b0
              try clear c14b1
              try clear c15
              try clear c15b0
              try clear c15b1
              try clear hcz6_0
              try clear hcz6_1
              try clear hcz6_2
              try clear hfz6_0
              try clear hfz6_1
              try clear hfz6_2
              try clear hx295_0
              try clear hx296_0
              try clear p2
              try clear p295
              try clear p296
              try clear q295
              try clear q296
              obtain ⟨kq, x10_9, rfl, HA, HJ9, BK294, HB⟩ := hcut
              cases kq with
              | zero => cases (show (none : Option _) = some _ from HA.out)
              | succ kj9 =>
                have H := HA.out
                clear HA
                simp only [careenlaw07_DiskOrder.j2] at H
                by_cases c17 : 0 ≤ x9_1
                · rw [if_pos c17] at H
                  have c17b0 : decide (0 ≤ x9_1) = true := decide_eq_true c17
                  clear c17
                  by_cases c18 : x9_1 < (l1.length : Int)
                  · rw [if_pos c18] at H
                    have c18b0 : decide (x9_1 < (l1.length : Int)) = true := decide_eq_true c18
                    clear c18
                    replace H := Option.bind_eq_some_iff.mp H
                    obtain ⟨t298, A190, H⟩ := H
                    replace H : (if t298 = 0 then ((disk_Sync.f x295000_1 x295001_1 x295002_1).bind fun bt299 => ((disk_Log.f bt299.1 bt299.2.1 bt299.2.2).bind fun t302 => (if t302.toList = x8_1.toList then (if (bt299.2.1.size : Int) < (x8_1.size : Int) then (some false) else (if 0 ≤ (x8_1.size : Int) then (if (x8_1.size : Int) ≤ (t302.size : Int) then (if (t302.extract 0 x8_1.size).toList = x8_1.toList then (careenlaw07_DiskOrder.l0 kj9 l0 l1 t293 x8_1 x8_1 (wrap64 (x9_1 + 1)) bt299.1 bt299.2.1 bt299.2.2) else (some false)) else (none)) else (none))) else (some false)))) else (if t298 = 1 then ((disk_Crash.f x295000_1 x295001_1 x295002_1 (Int.tmod (rd l1 x9_1) 40)).bind fun bt304 => ((disk_Log.f bt304.1 bt304.2.1 bt304.2.2).bind fun t307 => (if (t307.size : Int) < (x7_1.size : Int) then (some false) else ((disk_Log.f bt304.1 bt304.2.1 bt304.2.2).bind fun t308 => (if t308.toList = t307.toList then (if (bt304.2.1.size : Int) < (t307.size : Int) then (some false) else (if 0 ≤ (t307.size : Int) then (if (t307.size : Int) ≤ (t308.size : Int) then (if (t308.extract 0 t307.size).toList = t307.toList then (careenlaw07_DiskOrder.l0 kj9 l0 l1 t293 t307 t307 (wrap64 (x9_1 + 1)) bt304.1 bt304.2.1 bt304.2.2) else (some false)) else (none)) else (none))) else (some false)))))) else (if t298 = 2 then ((disk_Swap.f x295000_1 x295001_1 x295002_1 x8_1).bind fun bt309 => (if bt309.2.2.2 = 0 then (careenlaw07_DiskOrder.j3 kj9 l0 l1 t293 x9_1 (bt309.1.toList != x8_1.toList) bt309.1 bt309.2.1 bt309.2.2.1) else (careenlaw07_DiskOrder.j3 kj9 l0 l1 t293 x9_1 true bt309.1 bt309.2.1 bt309.2.2.1))) else ((disk_Append.f x295000_1 x295001_1 x295002_1 x10_9).bind fun bt315 => (if bt315.2.2.2 = 0 then (if x8_1.size + x10_9.size ≤ 9223372036854775807 then ((disk_Log.f bt315.1 bt315.2.1 bt315.2.2.1).bind fun t320 => (if t320.toList = (x8_1 ++ x10_9).toList then (if (bt315.2.1.size : Int) < (x7_1.size : Int) then (some false) else (if 0 ≤ (x7_1.size : Int) then (if (x7_1.size : Int) ≤ (t320.size : Int) then (if (t320.extract 0 x7_1.size).toList = x7_1.toList then (careenlaw07_DiskOrder.l0 kj9 l0 l1 t293 x7_1 (x8_1 ++ x10_9) (wrap64 (x9_1 + 1)) bt315.1 bt315.2.1 bt315.2.2.1) else (some false)) else (none)) else (none))) else (some false))) else (none)) else (some false)))))) = some true := H
                    have A19 := Aside0.mk A190
                    clear A190
                    by_cases c20 : t298 = 0
                    · rw [if_pos c20] at H
                      have c20b0 : (t298 == 0) = true := beq_iff_eq.mpr c20
                      have c20b1 : (t298 != 0) = false := bne_eq_false_iff_eq.mpr c20
                      clear c20
                      replace H := Option.bind_eq_some_iff.mp H
                      obtain ⟨⟨t299, t300, t301⟩, A210, H⟩ := H
                      replace H : ((disk_Log.f t299 t300 t301).bind fun t302 => (if t302.toList = x8_1.toList then (if (t300.size : Int) < (x8_1.size : Int) then (some false) else (if 0 ≤ (x8_1.size : Int) then (if (x8_1.size : Int) ≤ (t302.size : Int) then (if (t302.extract 0 x8_1.size).toList = x8_1.toList then (careenlaw07_DiskOrder.l0 kj9 l0 l1 t293 x8_1 x8_1 (wrap64 (x9_1 + 1)) t299 t300 t301) else (some false)) else (none)) else (none))) else (some false))) = some true := H
                      have A21 := Aside0.mk A210
                      clear A210
                      replace H := Option.bind_eq_some_iff.mp H
                      obtain ⟨t302, A220, H⟩ := H
                      replace H : (if t302.toList = x8_1.toList then (if (t300.size : Int) < (x8_1.size : Int) then (some false) else (if 0 ≤ (x8_1.size : Int) then (if (x8_1.size : Int) ≤ (t302.size : Int) then (if (t302.extract 0 x8_1.size).toList = x8_1.toList then (careenlaw07_DiskOrder.l0 kj9 l0 l1 t293 x8_1 x8_1 (wrap64 (x9_1 + 1)) t299 t300 t301) else (some false)) else (none)) else (none))) else (some false)) = some true := H
                      have A22 := Aside0.mk A220
                      clear A220
                      by_cases c23 : t302.toList = x8_1.toList
                      · rw [if_pos c23] at H
                        have c23b0 : (t302.toList == x8_1.toList) = true := beq_iff_eq.mpr c23
                        have c23b1 : (t302.toList != x8_1.toList) = false := bne_eq_false_iff_eq.mpr c23
                        clear c23
                        by_cases c24 : (t300.size : Int) < (x8_1.size : Int)
                        · rw [if_pos c24] at H
                          have c24b0 : decide ((t300.size : Int) < (x8_1.size : Int)) = true := decide_eq_true c24
                          have c24b1 : decide (t300.size < x8_1.size) = true := decide_eq_true (Int.ofNat_lt.mp c24)
                          clear c24
                          exact absurd H (by simp)
                        · rw [if_neg c24] at H
                          have c24b0 : decide ((t300.size : Int) < (x8_1.size : Int)) = false := decide_eq_false c24
                          have c24b1 : decide (t300.size < x8_1.size) = false := decide_eq_false (fun h => c24 (Int.ofNat_lt.mpr h))
                          clear c24
                          by_cases c25 : 0 ≤ (x8_1.size : Int)
                          · rw [if_pos c25] at H
                            have c25b0 := eq_true c25
                            have c25b1 : decide (0 ≤ (x8_1.size : Int)) = true := decide_eq_true c25
                            clear c25
                            by_cases c26 : (x8_1.size : Int) ≤ (t302.size : Int)
                            · rw [if_pos c26] at H
                              have c26b0 := eq_true c26
                              have c26b1 : decide ((x8_1.size : Int) ≤ (t302.size : Int)) = true := decide_eq_true c26
                              clear c26
                              by_cases c27 : (t302.extract 0 x8_1.size).toList = x8_1.toList
                              · rw [if_pos c27] at H
                                have c27b0 : ((t302.extract 0 x8_1.size).toList == x8_1.toList) = true := beq_iff_eq.mpr c27
                                have c27b1 : ((t302.extract 0 x8_1.size).toList != x8_1.toList) = false := bne_eq_false_iff_eq.mpr c27
                                clear c27
                                have H' := Aside0.mk H
                                clear H
                                have p297 : 0 ≤ (x9_1 : Int) := of_decide_eq_true (by first | (with_reducible assumption) | assumption)
                                have q297 : x9_1 < (l1.length : Int) := of_decide_eq_true (by first | (with_reducible assumption) | assumption)
                                obtain ⟨ad297, e297, hx297_0⟩ := Kd.at_int HR1.out x9_1 p297 q297
                                cases e297
                                replace hx297_0 := (HB.out.cell (World.block_lt_of_cell? w _ hx297_0)).trans hx297_0
                                replace p297 := eq_true p297
                                replace q297 := eq_true q297
                                go_wp2_with (first | ((with_reducible refine gate_callee (f := 10) rfl ?_); refine goesL_ (some 47) rfl rfl Try.func10 (by kernel_rfl) rfl #[.int .i64 (rd l1 x9_1), .int .i64 6] rfl (by (try simp only [List.map_toArray, List.map_cons, List.map_nil]); first | done | rfl | (simp only [List.length_drop, List.length_take]; rfl)) ?_; (with_reducible refine (careenlaw07_pick.calls (rd l1 x9_1) 6 t298 _ A19.out).mono ?_); rintro e w' ⟨rfl, ⟨nd, rfl⟩⟩; refine ⟨_, rfl, ?_⟩; (try (rw [drewN_self wc]; generalize hq_ : World.drewN wc _ = wc; have n0_ : Aside0 (wc.heap[gb294]? = some (.cells #[.string x295000_1, .string x295001_1, .string x295002_1] 23 (0, 0))) := ⟨by rw [← hq_]; exact (by (with_reducible repeat (first | refine blk_drewN ?_ _ | refine blk_drew ?_ | refine blk_alloc ?_ _)); exact BK294.out)⟩; have n1_ : Aside0 (Below w.heap.size w wc) := ⟨by rw [← hq_]; exact (by repeat (first | (with_reducible first | exact HB.out | apply below_alloc | apply pw_below_drewN | apply below_drew1 | refine below_set ?_ GE294.out) | exact HB.out))⟩; clear BK294 HB hq_; have BK294 := n0_; have HB := n1_; clear n0_ n1_)); have hcz28_0 : wc.cell? ⟨gb294, 0, none⟩ = some (.string x295000_1) := (blk_cell BK294.out 0).trans rfl; have hcz28_1 : wc.cell? ⟨gb294, 1, none⟩ = some (.string x295001_1) := (blk_cell BK294.out 1).trans rfl; have hcz28_2 : wc.cell? ⟨gb294, 2, none⟩ = some (.string x295002_1) := (blk_cell BK294.out 2).trans rfl; have hfz28_0 := blk_frozen BK294.out 0; have hfz28_1 := blk_frozen BK294.out 1; have hfz28_2 := blk_frozen BK294.out 2) | ((with_reducible refine gate_callee (f := 17) rfl ?_); refine goesL_ (some 63) rfl rfl Try.func17 (by kernel_rfl) rfl #[.agg #[.string x295000_1, .string x295001_1, .string x295002_1]] rfl (by (try simp only [List.map_toArray, List.map_cons, List.map_nil]); first | done | rfl | (simp only [List.length_drop, List.length_take]; rfl)) ?_; (with_reducible refine (disk_Sync.calls x295000_1 x295001_1 x295002_1 t299 t300 t301 _ A21.out).mono ?_); rintro e w29 ⟨rfl, hb⟩; refine ⟨_, rfl, ?_⟩; have n0_ := Aside0.mk (blk_below (g := gb294) (o := .cells #[.string x295000_1, .string x295001_1, .string x295002_1] 23 (0, 0)) (by (with_reducible repeat (first | refine blk_drewN ?_ _ | refine blk_drew ?_ | refine blk_alloc ?_ _)); exact BK294.out) hb); have n1_ := Aside0.mk (below_step (by repeat (first | (with_reducible first | exact HB.out | apply below_alloc | apply pw_below_drewN | apply below_drew1 | refine below_set ?_ GE294.out) | exact HB.out)) hb); clear BK294; clear HB; have BK294 := n0_; have HB := n1_; clear n0_ n1_; (try clear hb); (try clear hb2); (try clear hk); (try clear hi); have hcz30_0 : w29.cell? ⟨gb294, 0, none⟩ = some (.string x295000_1) := (blk_cell BK294.out 0).trans rfl; have hcz30_1 : w29.cell? ⟨gb294, 1, none⟩ = some (.string x295001_1) := (blk_cell BK294.out 1).trans rfl; have hcz30_2 : w29.cell? ⟨gb294, 2, none⟩ = some (.string x295002_1) := (blk_cell BK294.out 2).trans rfl; have hfz30_0 := blk_frozen BK294.out 0; have hfz30_1 := blk_frozen BK294.out 1; have hfz30_2 := blk_frozen BK294.out 2) | ((with_reducible refine gate_callee (f := 19) rfl ?_); refine goesL_ (some 100) rfl rfl Try.func19 (by kernel_rfl) rfl #[.agg #[.string t299, .string t300, .string t301]] rfl (by (try simp only [List.map_toArray, List.map_cons, List.map_nil]); first | done | rfl | (simp only [List.length_drop, List.length_take]; rfl)) ?_; (with_reducible refine (disk_Log.calls t299 t300 t301 t302 _ A22.out).mono ?_); rintro e w31 ⟨rfl, hb⟩; refine ⟨_, rfl, ?_⟩; have n0_ := Aside0.mk (blk_below (g := gb294) (o := .cells #[.string t299, .string t300, .string t301] 23 (0, 0)) (by (with_reducible repeat (first | refine blk_drewN ?_ _ | refine blk_drew ?_ | refine blk_alloc ?_ _)); refine blk_put (cs := #[.string t299, .string t300, .string x295002_1]) ?_ 2 _ rfl; (with_reducible repeat (first | refine blk_drewN ?_ _ | refine blk_drew ?_ | refine blk_alloc ?_ _)); refine blk_put (cs := #[.string t299, .string x295001_1, .string x295002_1]) ?_ 1 _ rfl; (with_reducible repeat (first | refine blk_drewN ?_ _ | refine blk_drew ?_ | refine blk_alloc ?_ _)); refine blk_put (cs := #[.string x295000_1, .string x295001_1, .string x295002_1]) ?_ 0 _ rfl; (with_reducible repeat (first | refine blk_drewN ?_ _ | refine blk_drew ?_ | refine blk_alloc ?_ _)); exact BK294.out) hb); have n1_ := Aside0.mk (below_step (by repeat (first | (with_reducible first | exact HB.out | apply below_alloc | apply pw_below_drewN | apply below_drew1 | refine below_set ?_ GE294.out) | exact HB.out)) hb); clear BK294; clear HB; have BK294 := n0_; have HB := n1_; clear n0_ n1_; (try clear hb); (try clear hb2); (try clear hk); (try clear hi); have hcz32_0 : w31.cell? ⟨gb294, 0, none⟩ = some (.string t299) := (blk_cell BK294.out 0).trans rfl; have hcz32_1 : w31.cell? ⟨gb294, 1, none⟩ = some (.string t300) := (blk_cell BK294.out 1).trans rfl; have hcz32_2 : w31.cell? ⟨gb294, 2, none⟩ = some (.string t301) := (blk_cell BK294.out 2).trans rfl; have hfz32_0 := blk_frozen BK294.out 0; have hfz32_1 := blk_frozen BK294.out 1; have hfz32_2 := blk_frozen BK294.out 2))
                                go_roundg kj9
                                case measure => have := HK1.out; have := HJ6.out; have := HJ9.out; omega
                                case rel => exact ⟨(x8_1), (x8_1), (wrap64 (x9_1 + 1)), (t299), (t300), (t301), (by first | rfl | (simp; done) | (simp [*]; done)), (by first | rfl | (simp; done) | (simp [*]; done)), (by first | rfl | (simp; done) | (simp [*]; done)), H', ⟨by have := HK1.out; have := HJ6.out; have := HJ9.out; omega⟩, ⟨by (with_reducible repeat (first | refine blk_drewN ?_ _ | refine blk_drew ?_ | refine blk_alloc ?_ _)); exact BK294.out⟩, ⟨by repeat (first | (with_reducible first | exact HB.out | apply below_alloc | apply pw_below_drewN | apply below_drew1 | refine below_set ?_ GE294.out) | exact HB.out)⟩⟩
                              · rw [if_neg c27] at H
                                have c27b0 : ((t302.extract 0 x8_1.size).toList == x8_1.toList) = false := beq_eq_false_iff_ne.mpr c27
                                have c27b1 : ((t302.extract 0 x8_1.size).toList != x8_1.toList) = true := bne_iff_ne.mpr c27
                                exact absurd H (by simp)
                            · rw [if_neg c26] at H
                              exact absurd H (by simp)
                          · rw [if_neg c25] at H
                            exact absurd H (by simp)
                      · rw [if_neg c23] at H
                        have c23b0 : (t302.toList == x8_1.toList) = false := beq_eq_false_iff_ne.mpr c23
                        have c23b1 : (t302.toList != x8_1.toList) = true := bne_iff_ne.mpr c23
                        exact absurd H (by simp)
                    · rw [if_neg c20] at H
                      have c20b0 : (t298 == 0) = false := beq_eq_false_iff_ne.mpr c20
                      have c20b1 : (t298 != 0) = true := bne_iff_ne.mpr c20
                      by_cases c33 : t298 = 1
                      · rw [if_pos c33] at H
                        have c33b0 : (t298 == 1) = true := beq_iff_eq.mpr c33
                        have c33b1 : (t298 != 1) = false := bne_eq_false_iff_eq.mpr c33
                        clear c33
                        replace H := Option.bind_eq_some_iff.mp H
                        obtain ⟨⟨t304, t305, t306⟩, A340, H⟩ := H
                        replace H : ((disk_Log.f t304 t305 t306).bind fun t307 => (if (t307.size : Int) < (x7_1.size : Int) then (some false) else ((disk_Log.f t304 t305 t306).bind fun t308 => (if t308.toList = t307.toList then (if (t305.size : Int) < (t307.size : Int) then (some false) else (if 0 ≤ (t307.size : Int) then (if (t307.size : Int) ≤ (t308.size : Int) then (if (t308.extract 0 t307.size).toList = t307.toList then (careenlaw07_DiskOrder.l0 kj9 l0 l1 t293 t307 t307 (wrap64 (x9_1 + 1)) t304 t305 t306) else (some false)) else (none)) else (none))) else (some false))))) = some true := H
                        have A34 := Aside0.mk A340
                        clear A340
                        replace H := Option.bind_eq_some_iff.mp H
                        obtain ⟨t307, A350, H⟩ := H
                        replace H : (if (t307.size : Int) < (x7_1.size : Int) then (some false) else ((disk_Log.f t304 t305 t306).bind fun t308 => (if t308.toList = t307.toList then (if (t305.size : Int) < (t307.size : Int) then (some false) else (if 0 ≤ (t307.size : Int) then (if (t307.size : Int) ≤ (t308.size : Int) then (if (t308.extract 0 t307.size).toList = t307.toList then (careenlaw07_DiskOrder.l0 kj9 l0 l1 t293 t307 t307 (wrap64 (x9_1 + 1)) t304 t305 t306) else (some false)) else (none)) else (none))) else (some false)))) = some true := H
                        have A35 := Aside0.mk A350
                        clear A350
                        by_cases c36 : (t307.size : Int) < (x7_1.size : Int)
                        · rw [if_pos c36] at H
                          have c36b0 : decide ((t307.size : Int) < (x7_1.size : Int)) = true := decide_eq_true c36
                          have c36b1 : decide (t307.size < x7_1.size) = true := decide_eq_true (Int.ofNat_lt.mp c36)
                          clear c36
                          exact absurd H (by simp)
                        · rw [if_neg c36] at H
                          have c36b0 : decide ((t307.size : Int) < (x7_1.size : Int)) = false := decide_eq_false c36
                          have c36b1 : decide (t307.size < x7_1.size) = false := decide_eq_false (fun h => c36 (Int.ofNat_lt.mpr h))
                          clear c36
                          replace H := Option.bind_eq_some_iff.mp H
                          obtain ⟨t308, A370, H⟩ := H
                          replace H : (if t308.toList = t307.toList then (if (t305.size : Int) < (t307.size : Int) then (some false) else (if 0 ≤ (t307.size : Int) then (if (t307.size : Int) ≤ (t308.size : Int) then (if (t308.extract 0 t307.size).toList = t307.toList then (careenlaw07_DiskOrder.l0 kj9 l0 l1 t293 t307 t307 (wrap64 (x9_1 + 1)) t304 t305 t306) else (some false)) else (none)) else (none))) else (some false)) = some true := H
                          have A37 := Aside0.mk A370
                          clear A370
                          by_cases c38 : t308.toList = t307.toList
                          · rw [if_pos c38] at H
                            have c38b0 : (t308.toList == t307.toList) = true := beq_iff_eq.mpr c38
                            have c38b1 : (t308.toList != t307.toList) = false := bne_eq_false_iff_eq.mpr c38
                            clear c38
                            by_cases c39 : (t305.size : Int) < (t307.size : Int)
                            · rw [if_pos c39] at H
                              have c39b0 : decide ((t305.size : Int) < (t307.size : Int)) = true := decide_eq_true c39
                              have c39b1 : decide (t305.size < t307.size) = true := decide_eq_true (Int.ofNat_lt.mp c39)
                              clear c39
                              exact absurd H (by simp)
                            · rw [if_neg c39] at H
                              have c39b0 : decide ((t305.size : Int) < (t307.size : Int)) = false := decide_eq_false c39
                              have c39b1 : decide (t305.size < t307.size) = false := decide_eq_false (fun h => c39 (Int.ofNat_lt.mpr h))
                              clear c39
                              by_cases c40 : 0 ≤ (t307.size : Int)
                              · rw [if_pos c40] at H
                                have c40b0 := eq_true c40
                                have c40b1 : decide (0 ≤ (t307.size : Int)) = true := decide_eq_true c40
                                clear c40
                                by_cases c41 : (t307.size : Int) ≤ (t308.size : Int)
                                · rw [if_pos c41] at H
                                  have c41b0 := eq_true c41
                                  have c41b1 : decide ((t307.size : Int) ≤ (t308.size : Int)) = true := decide_eq_true c41
                                  clear c41
                                  by_cases c42 : (t308.extract 0 t307.size).toList = t307.toList
                                  · rw [if_pos c42] at H
                                    have c42b0 : ((t308.extract 0 t307.size).toList == t307.toList) = true := beq_iff_eq.mpr c42
                                    have c42b1 : ((t308.extract 0 t307.size).toList != t307.toList) = false := bne_eq_false_iff_eq.mpr c42
                                    clear c42
                                    have H' := Aside0.mk H
                                    clear H
                                    have p297 : 0 ≤ (x9_1 : Int) := of_decide_eq_true (by first | (with_reducible assumption) | assumption)
                                    have q297 : x9_1 < (l1.length : Int) := of_decide_eq_true (by first | (with_reducible assumption) | assumption)
                                    obtain ⟨ad297, e297, hx297_0⟩ := Kd.at_int HR1.out x9_1 p297 q297
                                    cases e297
                                    replace hx297_0 := (HB.out.cell (World.block_lt_of_cell? w _ hx297_0)).trans hx297_0
                                    replace p297 := eq_true p297
                                    replace q297 := eq_true q297
                                    try go_wp2_with (first | ((with_reducible refine gate_callee (f := 10) rfl ?_); refine goesL_ (some 47) rfl rfl Try.func10 (by kernel_rfl) rfl #[.int .i64 (rd l1 x9_1), .int .i64 6] rfl (by (try simp only [List.map_toArray, List.map_cons, List.map_nil]); first | done | rfl | (simp only [List.length_drop, List.length_take]; rfl)) ?_; (with_reducible refine (careenlaw07_pick.calls (rd l1 x9_1) 6 t298 _ A19.out).mono ?_); rintro e w' ⟨rfl, ⟨nd, rfl⟩⟩; refine ⟨_, rfl, ?_⟩; (try (rw [drewN_self wc]; generalize hq_ : World.drewN wc _ = wc; have n0_ : Aside0 (wc.heap[gb294]? = some (.cells #[.string x295000_1, .string x295001_1, .string x295002_1] 23 (0, 0))) := ⟨by rw [← hq_]; exact (by (with_reducible repeat (first | refine blk_drewN ?_ _ | refine blk_drew ?_ | refine blk_alloc ?_ _)); exact BK294.out)⟩; have n1_ : Aside0 (Below w.heap.size w wc) := ⟨by rw [← hq_]; exact (by repeat (first | (with_reducible first | exact HB.out | apply below_alloc | apply pw_below_drewN | apply below_drew1 | refine below_set ?_ GE294.out) | exact HB.out))⟩; clear BK294 HB hq_; have BK294 := n0_; have HB := n1_; clear n0_ n1_))))
                                    have n0_ := Aside0.mk (blk_drew BK294.out)
                                    have n1_ := Aside0.mk (below_drew1 HB.out)
                                    clear BK294
                                    clear HB
                                    have BK294 := n0_
                                    have HB := n1_
                                    clear n0_ n1_
                                    have p303 : 0 ≤ (x9_1 : Int) := of_decide_eq_true (by first | (with_reducible assumption) | assumption)
                                    have q303 : x9_1 < (l1.length : Int) := of_decide_eq_true (by first | (with_reducible assumption) | assumption)
                                    obtain ⟨ad303, e303, hx303_0⟩ := Kd.at_int HR1.out x9_1 p303 q303
                                    have hw303_0 := hx303_0
                                    obtain rfl : ad297 = ad303 := (by injection e303)
                                    replace hx303_0 := (HB.out.cell (World.block_lt_of_cell? w _ hx303_0)).trans hx303_0
                                    replace p303 := eq_true p303
                                    replace q303 := eq_true q303
                                    refine start_ (n := 8) (S := fun w' => w'.cell? ⟨gb294, 0, none⟩ = some (.string x295000_1) ∧ w'.cell? ⟨gb294, 1, none⟩ = some (.string x295001_1) ∧ w'.cell? ⟨gb294, 2, none⟩ = some (.string x295002_1) ∧ w'.cell? (ad297.add (x9_1).toNat) = some (.int .i64 (rd l1 x9_1))) (ds := [7]) #[false, false, false, false, false, false, false, false] (by kernel_rfl) rfl rfl ⟨(blk_cell BK294.out 0).trans rfl, (blk_cell BK294.out 1).trans rfl, (blk_cell BK294.out 2).trans rfl, ((HB.out.cell (World.block_lt_of_cell? w _ hw303_0)).trans hw303_0)⟩ (fun hHeld => ?_); refine with_tabW careenlaw07_DiskOrder.tab21 careenlaw07_DiskOrder.bits21 (fun HT_ HW_ => ?_)
                                    generalize wc.drew = w43 at BK294 HB hx303_0 hHeld ⊢
                                    refine pure_ (i := 1) (N := some 68) (v := ?_) (a' := ?_) #[false, true, false, false, false, false, false, false] rfl rfl (any_of HT_.out (by kernel_rfl)) (fun _ _ _ h => h) (Or.inl ⟨by rfl, ?_⟩) ?_ ?_
                                    rotate_left
                                    · intro w'
                                      go_simp
                                      with_reducible rfl
                                    rotate_left
                                    · simp only [Act.put, List.setIfInBounds_toArray, List.set_cons_zero, List.set_cons_succ, i64_w, i32_w]
                                      rfl
                                    refine pure_ (i := 2) (N := some 69) (v := ?_) (a' := ?_) #[false, true, true, false, false, false, false, false] rfl rfl (any_of HT_.out (by kernel_rfl)) (fun _ _ _ h => h) (Or.inl ⟨by rfl, ?_⟩) ?_ ?_
                                    rotate_left
                                    · intro w'
                                      go_simp
                                      with_reducible rfl
                                    rotate_left
                                    · simp only [Act.put, List.setIfInBounds_toArray, List.set_cons_zero, List.set_cons_succ, i64_w, i32_w]
                                      rfl
                                    refine pure_ (i := 3) (N := some 70) (v := ?_) (a' := ?_) #[false, true, true, true, false, false, false, false] rfl rfl (any_of HT_.out (by kernel_rfl)) (fun _ _ _ h => h) (Or.inl ⟨by rfl, ?_⟩) ?_ ?_
                                    rotate_left
                                    · intro w'
                                      go_simp
                                      with_reducible rfl
                                    rotate_left
                                    · simp only [Act.put, List.setIfInBounds_toArray, List.set_cons_zero, List.set_cons_succ, i64_w, i32_w]
                                      rfl
                                    refine take_ (i := 0) (N := some 67) (v := ?_) (a' := ?_) #[true, true, true, true, false, false, false, false] rfl rfl (take_ofW HT_.out HW_.out (by kernel_rfl)) (fun _ _ _ h => h) (Or.inl ⟨by rfl, ?_⟩) hHeld ?_ ?_
                                    rotate_left
                                    · rintro w' ⟨s0, s1, s2, s3⟩
                                      go_simp
                                      with_reducible rfl
                                    rotate_left
                                    · simp only [Act.put, List.setIfInBounds_toArray, List.set_cons_zero, List.set_cons_succ, i64_w, i32_w]
                                      rfl
                                    refine take_ (i := 4) (N := some 71) (v := ?_) (a' := ?_) #[true, true, true, true, true, false, false, false] rfl rfl (take_ofW HT_.out HW_.out (by kernel_rfl)) (fun _ _ _ h => h) (Or.inl ⟨by rfl, ?_⟩) hHeld ?_ ?_
                                    rotate_left
                                    · rintro w' ⟨s0, s1, s2, s3⟩
                                      go_simp
                                      with_reducible rfl
                                    rotate_left
                                    · simp only [Act.put, List.setIfInBounds_toArray, List.set_cons_zero, List.set_cons_succ, i64_w, i32_w]
                                      rfl
                                    refine pure_ (i := 5) (N := some 72) (v := ?_) (a' := ?_) #[true, true, true, true, true, true, false, false] rfl rfl (any_of HT_.out (by kernel_rfl)) (fun _ _ _ h => h) (Or.inl ⟨by rfl, ?_⟩) ?_ ?_
                                    rotate_left
                                    · intro w'
                                      go_simp
                                      with_reducible rfl
                                    rotate_left
                                    · simp only [Act.put, List.setIfInBounds_toArray, List.set_cons_zero, List.set_cons_succ, i64_w, i32_w]
                                      rfl
                                    refine one_ (i := 6) (N := some 73) #[true, true, true, true, true, true, true, false] rfl rfl (one_of HT_.out (by kernel_rfl)) (by decide) (fun K hK => ?_)
                                    refine goes_ Try.func11 (by kernel_rfl) rfl #[.agg #[.string x295000_1, .string x295001_1, .string x295002_1], .int .i64 (Int.tmod (rd l1 x9_1) 40)] (by rfl) rfl rfl (by (try simp only [List.map_toArray, List.map_cons, List.map_nil]); first | done | rfl | (simp only [List.length_drop, List.length_take]; rfl)) ?_
                                    with_reducible refine (disk_Crash.calls x295000_1 x295001_1 x295002_1 (Int.tmod (rd l1 x9_1) 40) t304 t305 t306 _ A34.out).mono ?_
                                    rintro e w44 ⟨rfl, hb⟩
                                    refine ⟨_, rfl, ?_⟩
                                    have n0_ := Aside0.mk (blk_below (g := gb294) (o := .cells #[.string x295000_1, .string x295001_1, .string x295002_1] 23 (0, 0)) (by (with_reducible repeat (first | refine blk_drewN ?_ _ | refine blk_drew ?_ | refine blk_alloc ?_ _)); exact BK294.out) hb)
                                    have n1_ := Aside0.mk (below_step (by repeat (first | (with_reducible first | exact HB.out | apply below_alloc | apply pw_below_drewN | apply below_drew1 | refine below_set ?_ GE294.out) | exact HB.out)) hb)
                                    clear BK294
                                    clear HB
                                    have BK294 := n0_
                                    have HB := n1_
                                    clear n0_ n1_
                                    (try clear hb)
                                    (try clear hb2)
                                    (try clear hk)
                                    (try clear hi)
                                    refine hK.out _ _ ⟨(blk_cell BK294.out 0).trans rfl, (blk_cell BK294.out 1).trans rfl, (blk_cell BK294.out 2).trans rfl, ((HB.out.cell (World.block_lt_of_cell? w _ hw303_0)).trans hw303_0)⟩ (fun hHeld => ?_)
                                    clear hK K
                                    refine norm_ (a' := ?_) ?_ ?_
                                    rotate_left
                                    · show Act.put _ (some 73) _ = _
                                      simp only [Act.put, List.setIfInBounds_toArray, List.set_cons_zero, List.set_cons_succ, i64_w, i32_w]
                                      rfl
                                    refine last_ (i := 7) (N := none) #[true, true, true, true, true, true, true, true] rfl rfl (one_of HT_.out (by kernel_rfl)) (by decide) (fun K hK => ?_)
                                    have hs45 : w44.cell? ⟨gb294, 0, none⟩ = some (.string x295000_1) := (blk_cell BK294.out 0).trans rfl
                                    have hfs45 := blk_frozen BK294.out 0
                                    have hs46 : w44.cell? ⟨gb294, 1, none⟩ = some (.string x295001_1) := (blk_cell BK294.out 1).trans rfl
                                    have hfs46 := blk_frozen BK294.out 1
                                    have hs47 : w44.cell? ⟨gb294, 2, none⟩ = some (.string x295002_1) := (blk_cell BK294.out 2).trans rfl
                                    have hfs47 := blk_frozen BK294.out 2
                                    refine skip_ (w1 := ?_) (by rfl) rfl ?_ ?_
                                    rotate_left
                                    · go_simp
                                      rfl
                                    refine hK.out _ _ ?_
                                    clear hK K
                                    refine done_ (done_of HT_.out (by kernel_rfl)) ?_
                                    have hcz48_0 : w44.cell? ⟨gb294, 0, none⟩ = some (.string x295000_1) := (blk_cell BK294.out 0).trans rfl
                                    have hcz48_1 : w44.cell? ⟨gb294, 1, none⟩ = some (.string x295001_1) := (blk_cell BK294.out 1).trans rfl
                                    have hcz48_2 : w44.cell? ⟨gb294, 2, none⟩ = some (.string x295002_1) := (blk_cell BK294.out 2).trans rfl
                                    have hfz48_0 := blk_frozen BK294.out 0
                                    have hfz48_1 := blk_frozen BK294.out 1
                                    have hfz48_2 := blk_frozen BK294.out 2
                                    try go_wp2_with (first | ((with_reducible refine gate_callee (f := 19) rfl ?_); refine goesL_ (some 75) rfl rfl Try.func19 (by kernel_rfl) rfl #[.agg #[.string t304, .string t305, .string t306]] rfl (by (try simp only [List.map_toArray, List.map_cons, List.map_nil]); first | done | rfl | (simp only [List.length_drop, List.length_take]; rfl)) ?_; (with_reducible refine (disk_Log.calls t304 t305 t306 t307 _ A35.out).mono ?_); rintro e w49 ⟨rfl, hb⟩; refine ⟨_, rfl, ?_⟩; have n0_ := Aside0.mk (blk_below (g := gb294) (o := .cells #[.string t304, .string t305, .string t306] 23 (0, 0)) (by (with_reducible repeat (first | refine blk_drewN ?_ _ | refine blk_drew ?_ | refine blk_alloc ?_ _)); refine blk_put (cs := #[.string t304, .string t305, .string x295002_1]) ?_ 2 _ rfl; (with_reducible repeat (first | refine blk_drewN ?_ _ | refine blk_drew ?_ | refine blk_alloc ?_ _)); refine blk_put (cs := #[.string t304, .string x295001_1, .string x295002_1]) ?_ 1 _ rfl; (with_reducible repeat (first | refine blk_drewN ?_ _ | refine blk_drew ?_ | refine blk_alloc ?_ _)); refine blk_put (cs := #[.string x295000_1, .string x295001_1, .string x295002_1]) ?_ 0 _ rfl; (with_reducible repeat (first | refine blk_drewN ?_ _ | refine blk_drew ?_ | refine blk_alloc ?_ _)); exact BK294.out) hb); have n1_ := Aside0.mk (below_step (by repeat (first | (with_reducible first | exact HB.out | apply below_alloc | apply pw_below_drewN | apply below_drew1 | refine below_set ?_ GE294.out) | exact HB.out)) hb); clear BK294; clear HB; have BK294 := n0_; have HB := n1_; clear n0_ n1_; (try clear hb); (try clear hb2); (try clear hk); (try clear hi); have hcz50_0 : w49.cell? ⟨gb294, 0, none⟩ = some (.string t304) := (blk_cell BK294.out 0).trans rfl; have hcz50_1 : w49.cell? ⟨gb294, 1, none⟩ = some (.string t305) := (blk_cell BK294.out 1).trans rfl; have hcz50_2 : w49.cell? ⟨gb294, 2, none⟩ = some (.string t306) := (blk_cell BK294.out 2).trans rfl; have hfz50_0 := blk_frozen BK294.out 0; have hfz50_1 := blk_frozen BK294.out 1; have hfz50_2 := blk_frozen BK294.out 2) | ((with_reducible refine gate_callee (f := 19) rfl ?_); refine goesL_ (some 100) rfl rfl Try.func19 (by kernel_rfl) rfl #[.agg #[.string t304, .string t305, .string t306]] rfl (by (try simp only [List.map_toArray, List.map_cons, List.map_nil]); first | done | rfl | (simp only [List.length_drop, List.length_take]; rfl)) ?_; (with_reducible refine (disk_Log.calls t304 t305 t306 t308 _ A37.out).mono ?_); rintro e w51 ⟨rfl, hb⟩; refine ⟨_, rfl, ?_⟩; have n0_ := Aside0.mk (blk_below (g := gb294) (o := .cells #[.string t304, .string t305, .string t306] 23 (0, 0)) (by (with_reducible repeat (first | refine blk_drewN ?_ _ | refine blk_drew ?_ | refine blk_alloc ?_ _)); exact BK294.out) hb); have n1_ := Aside0.mk (below_step (by repeat (first | (with_reducible first | exact HB.out | apply below_alloc | apply pw_below_drewN | apply below_drew1 | refine below_set ?_ GE294.out) | exact HB.out)) hb); clear BK294; clear HB; have BK294 := n0_; have HB := n1_; clear n0_ n1_; (try clear hb); (try clear hb2); (try clear hk); (try clear hi); have hcz52_0 : w51.cell? ⟨gb294, 0, none⟩ = some (.string t304) := (blk_cell BK294.out 0).trans rfl; have hcz52_1 : w51.cell? ⟨gb294, 1, none⟩ = some (.string t305) := (blk_cell BK294.out 1).trans rfl; have hcz52_2 : w51.cell? ⟨gb294, 2, none⟩ = some (.string t306) := (blk_cell BK294.out 2).trans rfl; have hfz52_0 := blk_frozen BK294.out 0; have hfz52_1 := blk_frozen BK294.out 1; have hfz52_2 := blk_frozen BK294.out 2))
                                    go_roundg kj9
                                    case measure => have := HK1.out; have := HJ6.out; have := HJ9.out; omega
                                    case rel => exact ⟨(t307), (t307), (wrap64 (x9_1 + 1)), (t304), (t305), (t306), (by first | rfl | (simp; done) | (simp [*]; done)), (by first | rfl | (simp; done) | (simp [*]; done)), (by first | rfl | (simp; done) | (simp [*]; done)), H', ⟨by have := HK1.out; have := HJ6.out; have := HJ9.out; omega⟩, ⟨by (with_reducible repeat (first | refine blk_drewN ?_ _ | refine blk_drew ?_ | refine blk_alloc ?_ _)); exact BK294.out⟩, ⟨by repeat (first | (with_reducible first | exact HB.out | apply below_alloc | apply pw_below_drewN | apply below_drew1 | refine below_set ?_ GE294.out) | exact HB.out)⟩⟩
                                  · rw [if_neg c42] at H
                                    have c42b0 : ((t308.extract 0 t307.size).toList == t307.toList) = false := beq_eq_false_iff_ne.mpr c42
                                    have c42b1 : ((t308.extract 0 t307.size).toList != t307.toList) = true := bne_iff_ne.mpr c42
                                    exact absurd H (by simp)
                                · rw [if_neg c41] at H
                                  exact absurd H (by simp)
                              · rw [if_neg c40] at H
                                exact absurd H (by simp)
                          · rw [if_neg c38] at H
                            have c38b0 : (t308.toList == t307.toList) = false := beq_eq_false_iff_ne.mpr c38
                            have c38b1 : (t308.toList != t307.toList) = true := bne_iff_ne.mpr c38
                            exact absurd H (by simp)
                      · rw [if_neg c33] at H
                        have c33b0 : (t298 == 1) = false := beq_eq_false_iff_ne.mpr c33
                        have c33b1 : (t298 != 1) = true := bne_iff_ne.mpr c33
                        by_cases c53 : t298 = 2
                        · rw [if_pos c53] at H
                          have c53b0 : (t298 == 2) = true := beq_iff_eq.mpr c53
                          have c53b1 : (t298 != 2) = false := bne_eq_false_iff_eq.mpr c53
                          clear c53
                          replace H := Option.bind_eq_some_iff.mp H
                          obtain ⟨⟨t309, t310, t311, t312⟩, A540, H⟩ := H
                          replace H : (if t312 = 0 then (careenlaw07_DiskOrder.j3 kj9 l0 l1 t293 x9_1 (t309.toList != x8_1.toList) t309 t310 t311) else (careenlaw07_DiskOrder.j3 kj9 l0 l1 t293 x9_1 true t309 t310 t311)) = some true := H
                          have A54 := Aside0.mk A540
                          clear A540
                          have HC55 := Aside0.mk H
                          clear H
                          have p297 : 0 ≤ (x9_1 : Int) := of_decide_eq_true (by first | (with_reducible assumption) | assumption)
                          have q297 : x9_1 < (l1.length : Int) := of_decide_eq_true (by first | (with_reducible assumption) | assumption)
                          obtain ⟨ad297, e297, hx297_0⟩ := Kd.at_int HR1.out x9_1 p297 q297
                          cases e297
                          replace hx297_0 := (HB.out.cell (World.block_lt_of_cell? w _ hx297_0)).trans hx297_0
                          replace p297 := eq_true p297
                          replace q297 := eq_true q297
                          go_upto_region 28 with (first | ((with_reducible refine gate_callee (f := 10) rfl ?_); refine goesL_ (some 47) rfl rfl Try.func10 (by kernel_rfl) rfl #[.int .i64 (rd l1 x9_1), .int .i64 6] rfl (by (try simp only [List.map_toArray, List.map_cons, List.map_nil]); first | done | rfl | (simp only [List.length_drop, List.length_take]; rfl)) ?_; (with_reducible refine (careenlaw07_pick.calls (rd l1 x9_1) 6 t298 _ A19.out).mono ?_); rintro e w' ⟨rfl, ⟨nd, rfl⟩⟩; refine ⟨_, rfl, ?_⟩; (try (rw [drewN_self wc]; generalize hq_ : World.drewN wc _ = wc; have n0_ : Aside0 (wc.heap[gb294]? = some (.cells #[.string x295000_1, .string x295001_1, .string x295002_1] 23 (0, 0))) := ⟨by rw [← hq_]; exact (by (with_reducible repeat (first | refine blk_drewN ?_ _ | refine blk_drew ?_ | refine blk_alloc ?_ _)); exact BK294.out)⟩; have n1_ : Aside0 (Below w.heap.size w wc) := ⟨by rw [← hq_]; exact (by repeat (first | (with_reducible first | exact HB.out | apply below_alloc | apply pw_below_drewN | apply below_drew1 | refine below_set ?_ GE294.out) | exact HB.out))⟩; clear BK294 HB hq_; have BK294 := n0_; have HB := n1_; clear n0_ n1_)); have hcz56_0 : wc.cell? ⟨gb294, 0, none⟩ = some (.string x295000_1) := (blk_cell BK294.out 0).trans rfl; have hcz56_1 : wc.cell? ⟨gb294, 1, none⟩ = some (.string x295001_1) := (blk_cell BK294.out 1).trans rfl; have hcz56_2 : wc.cell? ⟨gb294, 2, none⟩ = some (.string x295002_1) := (blk_cell BK294.out 2).trans rfl; have hfz56_0 := blk_frozen BK294.out 0; have hfz56_1 := blk_frozen BK294.out 1; have hfz56_2 := blk_frozen BK294.out 2) | ((with_reducible refine gate_callee (f := 15) rfl ?_); refine goesL_ (some 87) rfl rfl Try.func15 (by kernel_rfl) rfl #[.agg #[.string x295000_1, .string x295001_1, .string x295002_1], .string x8_1] rfl (by (try simp only [List.map_toArray, List.map_cons, List.map_nil]); first | done | rfl | (simp only [List.length_drop, List.length_take]; rfl)) ?_; (with_reducible refine (disk_Swap.calls x295000_1 x295001_1 x295002_1 x8_1 t309 t310 t311 t312 _ A54.out).mono ?_); rintro e w57 ⟨rfl, hb⟩; refine ⟨_, rfl, ?_⟩; have n0_ := Aside0.mk (blk_below (g := gb294) (o := .cells #[.string x295000_1, .string x295001_1, .string x295002_1] 23 (0, 0)) (by (with_reducible repeat (first | refine blk_drewN ?_ _ | refine blk_drew ?_ | refine blk_alloc ?_ _)); exact BK294.out) hb); have n1_ := Aside0.mk (below_step (by repeat (first | (with_reducible first | exact HB.out | apply below_alloc | apply pw_below_drewN | apply below_drew1 | refine below_set ?_ GE294.out) | exact HB.out)) hb); clear BK294; clear HB; have BK294 := n0_; have HB := n1_; clear n0_ n1_; (try clear hb); (try clear hb2); (try clear hk); (try clear hi)) | ((with_reducible refine gate_dst (N := 11) rfl ?_); (try (refine gate_guard (by rfl) ?_; dsimp only)); refine box_event ?hg (N := 11) ?hd (cs := #[.string (⟨#[]⟩ : ByteArray), .string (⟨#[]⟩ : ByteArray), .string (⟨#[]⟩ : ByteArray)]) (t := 23) ?hr ?_; (case hd => rfl); (case hg => rfl); (case hr => first | (go_simp; done) | (go_simp; rfl)); intro gb313 hg w58 hbox hb; have n0_ := Aside0.mk (blk_below (g := gb294) (o := .cells #[.string x295000_1, .string x295001_1, .string x295002_1] 23 (0, 0)) (by (with_reducible repeat (first | refine blk_drewN ?_ _ | refine blk_drew ?_ | refine blk_alloc ?_ _)); exact BK294.out) hb); have n1_ := Aside0.mk (below_step (by repeat (first | (with_reducible first | exact HB.out | apply below_alloc | apply pw_below_drewN | apply below_drew1 | refine below_set ?_ GE294.out) | exact HB.out)) hb); have n2_ := Aside0.mk (hbox); have n3_ := Aside0.mk ((by rw [hg]; exact (below_size (by repeat (first | (with_reducible first | exact HB.out | apply below_alloc | apply pw_below_drewN | apply below_drew1 | refine below_set ?_ GE294.out) | exact HB.out))) : w.heap.size ≤ gb313)); have n4_ := Aside0.mk ((by rw [hg]; exact (below_size (by repeat (first | (with_reducible first | exact HB.out | apply below_alloc | apply pw_below_drewN | apply below_drew1 | refine below_set ?_ GE294.out) | exact HB.out))) : w.heap.size ≤ gb313)); have n5_ := Aside0.mk ((by rw [hg]; exact Nat.ne_of_lt (blk_lt (g := gb294) (o := .cells #[.string x295000_1, .string x295001_1, .string x295002_1] 23 (0, 0)) (by (with_reducible repeat (first | refine blk_drewN ?_ _ | refine blk_drew ?_ | refine blk_alloc ?_ _)); exact BK294.out)) : gb294 ≠ gb313)); have n6_ := Aside0.mk ((by rw [hg]; exact Nat.ne_of_gt (blk_lt (g := gb294) (o := .cells #[.string x295000_1, .string x295001_1, .string x295002_1] 23 (0, 0)) (by (with_reducible repeat (first | refine blk_drewN ?_ _ | refine blk_drew ?_ | refine blk_alloc ?_ _)); exact BK294.out)) : gb313 ≠ gb294)); clear BK294; clear HB; have BK294 := n0_; have HB := n1_; have BK313 := n2_; have GW313 := n3_; have GE313 := n4_; have NB294_313 := n5_; have NB313_294 := n6_; clear n0_ n1_ n2_ n3_ n4_ n5_ n6_; clear hb hbox hg; have hnb59 := NB313_294.out; have hnc59 := NB294_313.out; have hcz60_0 : w58.cell? ⟨gb313, 0, none⟩ = some (.string (⟨#[]⟩ : ByteArray)) := (blk_cell BK313.out 0).trans rfl; have hcz60_1 : w58.cell? ⟨gb313, 1, none⟩ = some (.string (⟨#[]⟩ : ByteArray)) := (blk_cell BK313.out 1).trans rfl; have hcz60_2 : w58.cell? ⟨gb313, 2, none⟩ = some (.string (⟨#[]⟩ : ByteArray)) := (blk_cell BK313.out 2).trans rfl; have hfz60_0 := blk_frozen BK313.out 0; have hfz60_1 := blk_frozen BK313.out 1; have hfz60_2 := blk_frozen BK313.out 2))
                          (try simp only [Act.put, List.setIfInBounds_toArray, List.set_cons_zero, List.set_cons_succ])
                          go_cut [97] (fun v97 wc => ∃ (kq : Nat) (x97_54 : Bool), v97 = .bool x97_54 ∧ Aside0 (careenlaw07_DiskOrder.j3 kq l0 l1 t293 x9_1 x97_54 t309 t310 t311 = some true) ∧ Aside0 (kq ≤ kj9) ∧ Aside0 (wc.heap[gb294]? = some (.cells #[.string x295000_1, .string x295001_1, .string x295002_1] 23 (0, 0))) ∧ Aside0 (wc.heap[gb313]? = some (.cells #[.string t309, .string t310, .string t311] 23 (0, 0))) ∧ Aside0 (Below w.heap.size w wc))
                          case first =>
                            have H := HC55.out
                            clear HC55
                            by_cases c61 : t312 = 0
                            · rw [if_pos c61] at H
                              have c61b0 : (t312 == 0) = true := beq_iff_eq.mpr c61
                              have c61b1 : (t312 != 0) = false := bne_eq_false_iff_eq.mpr c61
                              clear c61
                              (first | rw [c61b0] | (simp only [i64_w, i32_w]; rw [c61b0]) | skip)
                              have H' := Aside0.mk H
                              clear H
                              have hnb62 := NB313_294.out
                              have hnc62 := NB294_313.out
                              have hcz63_0 : w58.cell? ⟨gb313, 0, none⟩ = some (.string (⟨#[]⟩ : ByteArray)) := (blk_cell BK313.out 0).trans rfl
                              have hcz63_1 : w58.cell? ⟨gb313, 1, none⟩ = some (.string (⟨#[]⟩ : ByteArray)) := (blk_cell BK313.out 1).trans rfl
                              have hcz63_2 : w58.cell? ⟨gb313, 2, none⟩ = some (.string (⟨#[]⟩ : ByteArray)) := (blk_cell BK313.out 2).trans rfl
                              have hfz63_0 := blk_frozen BK313.out 0
                              have hfz63_1 := blk_frozen BK313.out 1
                              have hfz63_2 := blk_frozen BK313.out 2
                              go_wp2
                              go_meet
                              case rel => exact ⟨_, ((t309.toList != x8_1.toList)), (by first | rfl | (simp; done) | (simp [*]; done)), H', ⟨by have := HK1.out; have := HJ6.out; have := HJ9.out; first | omega | exact Nat.le_refl _⟩, ⟨by (with_reducible repeat (first | refine blk_drewN ?_ _ | refine blk_drew ?_ | refine blk_alloc ?_ _)); refine blk_far ?_ NB294_313.out _; (with_reducible repeat (first | refine blk_drewN ?_ _ | refine blk_drew ?_ | refine blk_alloc ?_ _)); refine blk_far ?_ NB294_313.out _; (with_reducible repeat (first | refine blk_drewN ?_ _ | refine blk_drew ?_ | refine blk_alloc ?_ _)); refine blk_far ?_ NB294_313.out _; (with_reducible repeat (first | refine blk_drewN ?_ _ | refine blk_drew ?_ | refine blk_alloc ?_ _)); exact BK294.out⟩, ⟨by (with_reducible repeat (first | refine blk_drewN ?_ _ | refine blk_drew ?_ | refine blk_alloc ?_ _)); refine blk_put (cs := #[.string t309, .string t310, .string (⟨#[]⟩ : ByteArray)]) ?_ 2 _ rfl; (with_reducible repeat (first | refine blk_drewN ?_ _ | refine blk_drew ?_ | refine blk_alloc ?_ _)); refine blk_put (cs := #[.string t309, .string (⟨#[]⟩ : ByteArray), .string (⟨#[]⟩ : ByteArray)]) ?_ 1 _ rfl; (with_reducible repeat (first | refine blk_drewN ?_ _ | refine blk_drew ?_ | refine blk_alloc ?_ _)); refine blk_put (cs := #[.string (⟨#[]⟩ : ByteArray), .string (⟨#[]⟩ : ByteArray), .string (⟨#[]⟩ : ByteArray)]) ?_ 0 _ rfl; (with_reducible repeat (first | refine blk_drewN ?_ _ | refine blk_drew ?_ | refine blk_alloc ?_ _)); exact BK313.out⟩, ⟨by repeat (first | (with_reducible first | exact HB.out | apply below_alloc | apply pw_below_drewN | apply below_drew1 | refine below_set ?_ GE294.out | refine below_set ?_ GE313.out) | exact HB.out)⟩⟩
                            · rw [if_neg c61] at H
                              have c61b0 : (t312 == 0) = false := beq_eq_false_iff_ne.mpr c61
                              have c61b1 : (t312 != 0) = true := bne_iff_ne.mpr c61
                              (first | rw [c61b0] | (simp only [i64_w, i32_w]; rw [c61b0]) | skip)
                              have H' := Aside0.mk H
                              clear H
                              go_wp2
                              go_meet
                              case rel => exact ⟨_, (true), (by first | rfl | (simp; done) | (simp [*]; done)), H', ⟨by have := HK1.out; have := HJ6.out; have := HJ9.out; first | omega | exact Nat.le_refl _⟩, ⟨by (with_reducible repeat (first | refine blk_drewN ?_ _ | refine blk_drew ?_ | refine blk_alloc ?_ _)); refine blk_far ?_ NB294_313.out _; (with_reducible repeat (first | refine blk_drewN ?_ _ | refine blk_drew ?_ | refine blk_alloc ?_ _)); refine blk_far ?_ NB294_313.out _; (with_reducible repeat (first | refine blk_drewN ?_ _ | refine blk_drew ?_ | refine blk_alloc ?_ _)); refine blk_far ?_ NB294_313.out _; (with_reducible repeat (first | refine blk_drewN ?_ _ | refine blk_drew ?_ | refine blk_alloc ?_ _)); exact BK294.out⟩, ⟨by (with_reducible repeat (first | refine blk_drewN ?_ _ | refine blk_drew ?_ | refine blk_alloc ?_ _)); refine blk_put (cs := #[.string t309, .string t310, .string (⟨#[]⟩ : ByteArray)]) ?_ 2 _ rfl; (with_reducible repeat (first | refine blk_drewN ?_ _ | refine blk_drew ?_ | refine blk_alloc ?_ _)); refine blk_put (cs := #[.string t309, .string (⟨#[]⟩ : ByteArray), .string (⟨#[]⟩ : ByteArray)]) ?_ 1 _ rfl; (with_reducible repeat (first | refine blk_drewN ?_ _ | refine blk_drew ?_ | refine blk_alloc ?_ _)); refine blk_put (cs := #[.string (⟨#[]⟩ : ByteArray), .string (⟨#[]⟩ : ByteArray), .string (⟨#[]⟩ : ByteArray)]) ?_ 0 _ rfl; (with_reducible repeat (first | refine blk_drewN ?_ _ | refine blk_drew ?_ | refine blk_alloc ?_ _)); exact BK313.out⟩, ⟨by repeat (first | (with_reducible first | exact HB.out | apply below_alloc | apply pw_below_drewN | apply below_drew1 | refine below_set ?_ GE294.out | refine below_set ?_ GE313.out) | exact HB.out)⟩⟩
                          case rest =>
                            clear HC55
                            try clear c1
                            try clear c2
                            try clear p2
                            try clear q2
                            try clear hx2
                            try clear c3
                            try clear p3
                            try clear q3
                            try clear hx3
                            try clear c4
                            try clear c5
                            try clear c6
                            try clear p6
                            try clear c7
                            try clear c8
                            try clear c8b0
                            try clear c9
                            try clear c10
                            try clear c11
                            try clear c11b0
                            try clear c12
                            try clear c12b0
                            try clear c14
                            try clear c14b0
                            try clear c14b1
                            try clear c15
                            try clear c15b0
                            try clear c15b1
                            try clear c17
                            try clear c17b0
                            try clear c18
                            try clear c18b0
                            try clear c19
                            try clear c20
                            try clear c20b0
                            try clear c20b1
                            try clear c23
                            try clear c23b0
                            try clear c23b1
                            try clear c24
                            try clear c24b0
                            try clear c24b1
                            try clear c25
                            try clear c25b0
                            try clear c25b1
                            try clear c26
                            try clear c26b0
                            try clear c26b1
                            try clear c27
                            try clear c27b0
                            try clear c27b1
                            try clear p29
                            try clear q29
                            try clear hx29
                            try clear p30
                            try clear q30
                            try clear hx30
                            try clear c33
                            try clear c33b0
                            try clear c33b1
                            try clear c36
                            try clear c36b0
                            try clear c36b1
                            try clear c38
                            try clear c38b0
                            try clear c38b1
                            try clear c39
                            try clear c39b0
                            try clear c39b1
                            try clear c40
                            try clear c40b0
                            try clear c40b1
                            try clear c41
                            try clear c41b0
                            try clear c41b1
                            try clear c42
                            try clear c42b0
                            try clear c42b1
                            try clear c53
                            try clear c53b0
                            try clear c53b1
                            try clear c59
                            try clear c61
                            try clear c61b0
                            try clear c61b1
                            try clear c62
                            try clear hcz28_0
                            try clear hcz28_1
                            try clear hcz28_2
                            try clear hcz30_0
                            try clear hcz30_1
                            try clear hcz30_2
                            try clear hcz32_0
                            try clear hcz32_1
                            try clear hcz32_2
                            try clear hcz48_0
                            try clear hcz48_1
                            try clear hcz48_2
                            try clear hcz50_0
                            try clear hcz50_1
                            try clear hcz50_2
                            try clear hcz52_0
                            try clear hcz52_1
                            try clear hcz52_2
                            try clear hcz56_0
                            try clear hcz56_1
                            try clear hcz56_2
                            try clear hcz60_0
                            try clear hcz60_1
                            try clear hcz60_2
                            try clear hcz63_0
                            try clear hcz63_1
                            try clear hcz63_2
                            try clear hcz6_0
                            try clear hcz6_1
                            try clear hcz6_2
                            try clear hfz28_0
                            try clear hfz28_1
                            try clear hfz28_2
                            try clear hfz30_0
                            try clear hfz30_1
                            try clear hfz30_2
                            try clear hfz32_0
                            try clear hfz32_1
                            try clear hfz32_2
                            try clear hfz48_0
                            try clear hfz48_1
                            try clear hfz48_2
                            try clear hfz50_0
                            try clear hfz50_1
                            try clear hfz50_2
                            try clear hfz52_0
                            try clear hfz52_1
                            try clear hfz52_2
                            try clear hfz56_0
                            try clear hfz56_1
                            try clear hfz56_2
                            try clear hfz60_0
                            try clear hfz60_1
                            try clear hfz60_2
                            try clear hfz63_0
                            try clear hfz63_1
                            try clear hfz63_2
                            try clear hfz6_0
                            try clear hfz6_1
                            try clear hfz6_2
                            try clear hx295_0
                            try clear hx296_0
                            try clear hx297_0
                            try clear hx303_0
                            try clear p2
                            try clear p295
                            try clear p296
                            try clear p297
                            try clear p303
                            try clear q2
                            try clear q295
                            try clear q296
                            try clear q297
                            try clear q303
                            obtain ⟨kq, x97_54, rfl, HA, HJ54, BK294, BK313, HB⟩ := hcut
                            cases kq with
                            | zero => cases (show (none : Option _) = some _ from HA.out)
                            | succ kj54 =>
                              have H := HA.out
                              clear HA
                              simp only [careenlaw07_DiskOrder.j3] at H
                              by_cases c64 : x97_54 = true
                              · subst c64
                                have H1 : (some false) = some true := by rw [if_pos rfl] at H; exact H
                                clear H
                                have H := H1
                                clear H1
                                exact absurd H (by simp)
                              · replace c64 := Bool.eq_false_iff.mpr c64
                                subst c64
                                have H1 : ((disk_Log.f t309 t310 t311).bind fun t314 => (if t314.toList = ([] : List UInt8) then (if (t310.size : Int) < 0 then (some false) else (if 0 ≤ 0 then (if 0 ≤ (t314.size : Int) then (if (t314.extract 0 0).toList = ([] : List UInt8) then (careenlaw07_DiskOrder.l0 kj54 l0 l1 t293 (⟨#[]⟩ : ByteArray) (⟨#[]⟩ : ByteArray) (wrap64 (x9_1 + 1)) t309 t310 t311) else (some false)) else (none)) else (none))) else (some false))) = some true := by rw [if_neg (show ¬ (false = true) by decide)] at H; exact H
                                clear H
                                have H := H1
                                clear H1
                                replace H := Option.bind_eq_some_iff.mp H
                                obtain ⟨t314, A650, H⟩ := H
                                replace H : (if t314.toList = ([] : List UInt8) then (if (t310.size : Int) < 0 then (some false) else (if 0 ≤ 0 then (if 0 ≤ (t314.size : Int) then (if (t314.extract 0 0).toList = ([] : List UInt8) then (careenlaw07_DiskOrder.l0 kj54 l0 l1 t293 (⟨#[]⟩ : ByteArray) (⟨#[]⟩ : ByteArray) (wrap64 (x9_1 + 1)) t309 t310 t311) else (some false)) else (none)) else (none))) else (some false)) = some true := H
                                have A65 := Aside0.mk A650
                                clear A650
                                by_cases c66 : t314.toList = ([] : List UInt8)
                                · rw [if_pos c66] at H
                                  have c66b0 : (t314.toList == ([] : List UInt8)) = true := beq_iff_eq.mpr c66
                                  have c66b1 : (t314.toList != ([] : List UInt8)) = false := bne_eq_false_iff_eq.mpr c66
                                  clear c66
                                  by_cases c67 : (t310.size : Int) < 0
                                  · rw [if_pos c67] at H
                                    have c67b0 : decide ((t310.size : Int) < 0) = true := decide_eq_true c67
                                    have c67b1 : decide (t310.size < 0) = true := decide_eq_true (by omega)
                                    clear c67
                                    exact absurd H (by simp)
                                  · rw [if_neg c67] at H
                                    have c67b0 : decide ((t310.size : Int) < 0) = false := decide_eq_false c67
                                    have c67b1 : decide (t310.size < 0) = false := decide_eq_false (by omega)
                                    clear c67
                                    by_cases c68 : 0 ≤ 0
                                    · rw [if_pos c68] at H
                                      have c68b0 := eq_true c68
                                      have c68b1 : decide (0 ≤ 0) = true := decide_eq_true c68
                                      clear c68
                                      by_cases c69 : 0 ≤ (t314.size : Int)
                                      · rw [if_pos c69] at H
                                        have c69b0 := eq_true c69
                                        have c69b1 : decide (0 ≤ (t314.size : Int)) = true := decide_eq_true c69
                                        clear c69
                                        by_cases c70 : (t314.extract 0 0).toList = ([] : List UInt8)
                                        · rw [if_pos c70] at H
                                          have c70b0 : ((t314.extract 0 0).toList == ([] : List UInt8)) = true := beq_iff_eq.mpr c70
                                          have c70b1 : ((t314.extract 0 0).toList != ([] : List UInt8)) = false := bne_eq_false_iff_eq.mpr c70
                                          clear c70
                                          have H' := Aside0.mk H
                                          clear H
                                          have hnb71 := NB313_294.out
                                          have hnc71 := NB294_313.out
                                          have hcz72_0 : wc.cell? ⟨gb313, 0, none⟩ = some (.string t309) := (blk_cell BK313.out 0).trans rfl
                                          have hcz72_1 : wc.cell? ⟨gb313, 1, none⟩ = some (.string t310) := (blk_cell BK313.out 1).trans rfl
                                          have hcz72_2 : wc.cell? ⟨gb313, 2, none⟩ = some (.string t311) := (blk_cell BK313.out 2).trans rfl
                                          have hfz72_0 := blk_frozen BK313.out 0
                                          have hfz72_1 := blk_frozen BK313.out 1
                                          have hfz72_2 := blk_frozen BK313.out 2
                                          have hcz73_0 : wc.cell? ⟨gb294, 0, none⟩ = some (.string x295000_1) := (blk_cell BK294.out 0).trans rfl
                                          have hcz73_1 : wc.cell? ⟨gb294, 1, none⟩ = some (.string x295001_1) := (blk_cell BK294.out 1).trans rfl
                                          have hcz73_2 : wc.cell? ⟨gb294, 2, none⟩ = some (.string x295002_1) := (blk_cell BK294.out 2).trans rfl
                                          have hfz73_0 := blk_frozen BK294.out 0
                                          have hfz73_1 := blk_frozen BK294.out 1
                                          have hfz73_2 := blk_frozen BK294.out 2
                                          go_wp2_with (first | ((with_reducible refine gate_callee (f := 19) rfl ?_); refine goesL_ (some 100) rfl rfl Try.func19 (by kernel_rfl) rfl #[.agg #[.string t309, .string t310, .string t311]] rfl (by (try simp only [List.map_toArray, List.map_cons, List.map_nil]); first | done | rfl | (simp only [List.length_drop, List.length_take]; rfl)) ?_; (with_reducible refine (disk_Log.calls t309 t310 t311 t314 _ A65.out).mono ?_); rintro e w74 ⟨rfl, hb⟩; refine ⟨_, rfl, ?_⟩; have n0_ := Aside0.mk (blk_below (g := gb294) (o := .cells #[.string t309, .string t310, .string t311] 23 (0, 0)) (by (with_reducible repeat (first | refine blk_drewN ?_ _ | refine blk_drew ?_ | refine blk_alloc ?_ _)); refine blk_put (cs := #[.string t309, .string t310, .string x295002_1]) ?_ 2 _ rfl; (with_reducible repeat (first | refine blk_drewN ?_ _ | refine blk_drew ?_ | refine blk_alloc ?_ _)); refine blk_put (cs := #[.string t309, .string x295001_1, .string x295002_1]) ?_ 1 _ rfl; (with_reducible repeat (first | refine blk_drewN ?_ _ | refine blk_drew ?_ | refine blk_alloc ?_ _)); refine blk_put (cs := #[.string x295000_1, .string x295001_1, .string x295002_1]) ?_ 0 _ rfl; (with_reducible repeat (first | refine blk_drewN ?_ _ | refine blk_drew ?_ | refine blk_alloc ?_ _)); exact BK294.out) hb); have n1_ := Aside0.mk (blk_below (g := gb313) (o := .cells #[.string t309, .string t310, .string t311] 23 (0, 0)) (by (with_reducible repeat (first | refine blk_drewN ?_ _ | refine blk_drew ?_ | refine blk_alloc ?_ _)); refine blk_far ?_ NB313_294.out _; (with_reducible repeat (first | refine blk_drewN ?_ _ | refine blk_drew ?_ | refine blk_alloc ?_ _)); refine blk_far ?_ NB313_294.out _; (with_reducible repeat (first | refine blk_drewN ?_ _ | refine blk_drew ?_ | refine blk_alloc ?_ _)); refine blk_far ?_ NB313_294.out _; (with_reducible repeat (first | refine blk_drewN ?_ _ | refine blk_drew ?_ | refine blk_alloc ?_ _)); exact BK313.out) hb); have n2_ := Aside0.mk (below_step (by repeat (first | (with_reducible first | exact HB.out | apply below_alloc | apply pw_below_drewN | apply below_drew1 | refine below_set ?_ GE294.out | refine below_set ?_ GE313.out) | exact HB.out)) hb); clear BK294; clear BK313; clear HB; have BK294 := n0_; have BK313 := n1_; have HB := n2_; clear n0_ n1_ n2_; (try clear hb); (try clear hb2); (try clear hk); (try clear hi); have hcz75_0 : w74.cell? ⟨gb294, 0, none⟩ = some (.string t309) := (blk_cell BK294.out 0).trans rfl; have hcz75_1 : w74.cell? ⟨gb294, 1, none⟩ = some (.string t310) := (blk_cell BK294.out 1).trans rfl; have hcz75_2 : w74.cell? ⟨gb294, 2, none⟩ = some (.string t311) := (blk_cell BK294.out 2).trans rfl; have hfz75_0 := blk_frozen BK294.out 0; have hfz75_1 := blk_frozen BK294.out 1; have hfz75_2 := blk_frozen BK294.out 2))
                                          go_roundg kj54
                                          case measure => have := HK1.out; have := HJ6.out; have := HJ9.out; have := HJ54.out; omega
                                          case rel => exact ⟨((⟨#[]⟩ : ByteArray)), ((⟨#[]⟩ : ByteArray)), (wrap64 (x9_1 + 1)), (t309), (t310), (t311), (by first | rfl | (simp; done) | (simp [*]; done)), (by first | rfl | (simp; done) | (simp [*]; done)), (by first | rfl | (simp; done) | (simp [*]; done)), H', ⟨by have := HK1.out; have := HJ6.out; have := HJ9.out; have := HJ54.out; omega⟩, ⟨by (with_reducible repeat (first | refine blk_drewN ?_ _ | refine blk_drew ?_ | refine blk_alloc ?_ _)); exact BK294.out⟩, ⟨by repeat (first | (with_reducible first | exact HB.out | apply below_alloc | apply pw_below_drewN | apply below_drew1 | refine below_set ?_ GE294.out | refine below_set ?_ GE313.out) | exact HB.out)⟩⟩
                                        · rw [if_neg c70] at H
                                          have c70b0 : ((t314.extract 0 0).toList == ([] : List UInt8)) = false := beq_eq_false_iff_ne.mpr c70
                                          have c70b1 : ((t314.extract 0 0).toList != ([] : List UInt8)) = true := bne_iff_ne.mpr c70
                                          exact absurd H (by simp)
                                      · rw [if_neg c69] at H
                                        exact absurd H (by simp)
                                    · rw [if_neg c68] at H
                                      exact absurd H (by simp)
                                · rw [if_neg c66] at H
                                  have c66b0 : (t314.toList == ([] : List UInt8)) = false := beq_eq_false_iff_ne.mpr c66
                                  have c66b1 : (t314.toList != ([] : List UInt8)) = true := bne_iff_ne.mpr c66
                                  exact absurd H (by simp)
                        · rw [if_neg c53] at H
                          have c53b0 : (t298 == 2) = false := beq_eq_false_iff_ne.mpr c53
                          have c53b1 : (t298 != 2) = true := bne_iff_ne.mpr c53
                          replace H := Option.bind_eq_some_iff.mp H
                          obtain ⟨⟨t315, t316, t317, t318⟩, A760, H⟩ := H
                          replace H : (if t318 = 0 then (if x8_1.size + x10_9.size ≤ 9223372036854775807 then ((disk_Log.f t315 t316 t317).bind fun t320 => (if t320.toList = (x8_1 ++ x10_9).toList then (if (t316.size : Int) < (x7_1.size : Int) then (some false) else (if 0 ≤ (x7_1.size : Int) then (if (x7_1.size : Int) ≤ (t320.size : Int) then (if (t320.extract 0 x7_1.size).toList = x7_1.toList then (careenlaw07_DiskOrder.l0 kj9 l0 l1 t293 x7_1 (x8_1 ++ x10_9) (wrap64 (x9_1 + 1)) t315 t316 t317) else (some false)) else (none)) else (none))) else (some false))) else (none)) else (some false)) = some true := H
                          have A76 := Aside0.mk A760
                          clear A760
                          by_cases c77 : t318 = 0
                          · rw [if_pos c77] at H
                            have c77b0 : (t318 == 0) = true := beq_iff_eq.mpr c77
                            have c77b1 : (t318 != 0) = false := bne_eq_false_iff_eq.mpr c77
                            clear c77
                            by_cases c78 : x8_1.size + x10_9.size ≤ 9223372036854775807
                            · rw [if_pos c78] at H
                              have c78b0 := eq_true c78
                              have c78b1 : decide (x8_1.size + x10_9.size ≤ 9223372036854775807) = true := decide_eq_true c78
                              try have c78b2 : (9223372036854775807 < x8_1.size + x10_9.size) = False := eq_false (Nat.not_lt.2 c78)
                              replace H := Option.bind_eq_some_iff.mp H
                              obtain ⟨t320, A790, H⟩ := H
                              replace H : (if t320.toList = (x8_1 ++ x10_9).toList then (if (t316.size : Int) < (x7_1.size : Int) then (some false) else (if 0 ≤ (x7_1.size : Int) then (if (x7_1.size : Int) ≤ (t320.size : Int) then (if (t320.extract 0 x7_1.size).toList = x7_1.toList then (careenlaw07_DiskOrder.l0 kj9 l0 l1 t293 x7_1 (x8_1 ++ x10_9) (wrap64 (x9_1 + 1)) t315 t316 t317) else (some false)) else (none)) else (none))) else (some false)) = some true := H
                              have A79 := Aside0.mk A790
                              clear A790
                              by_cases c80 : t320.toList = (x8_1 ++ x10_9).toList
                              · rw [if_pos c80] at H
                                have c80b0 : (t320.toList == (x8_1 ++ x10_9).toList) = true := beq_iff_eq.mpr c80
                                have c80b1 : (t320.toList != (x8_1 ++ x10_9).toList) = false := bne_eq_false_iff_eq.mpr c80
                                clear c80
                                by_cases c81 : (t316.size : Int) < (x7_1.size : Int)
                                · rw [if_pos c81] at H
                                  have c81b0 : decide ((t316.size : Int) < (x7_1.size : Int)) = true := decide_eq_true c81
                                  have c81b1 : decide (t316.size < x7_1.size) = true := decide_eq_true (Int.ofNat_lt.mp c81)
                                  clear c81
                                  exact absurd H (by simp)
                                · rw [if_neg c81] at H
                                  have c81b0 : decide ((t316.size : Int) < (x7_1.size : Int)) = false := decide_eq_false c81
                                  have c81b1 : decide (t316.size < x7_1.size) = false := decide_eq_false (fun h => c81 (Int.ofNat_lt.mpr h))
                                  clear c81
                                  by_cases c82 : 0 ≤ (x7_1.size : Int)
                                  · rw [if_pos c82] at H
                                    have c82b0 := eq_true c82
                                    have c82b1 : decide (0 ≤ (x7_1.size : Int)) = true := decide_eq_true c82
                                    clear c82
                                    by_cases c83 : (x7_1.size : Int) ≤ (t320.size : Int)
                                    · rw [if_pos c83] at H
                                      have c83b0 := eq_true c83
                                      have c83b1 : decide ((x7_1.size : Int) ≤ (t320.size : Int)) = true := decide_eq_true c83
                                      clear c83
                                      by_cases c84 : (t320.extract 0 x7_1.size).toList = x7_1.toList
                                      · rw [if_pos c84] at H
                                        have c84b0 : ((t320.extract 0 x7_1.size).toList == x7_1.toList) = true := beq_iff_eq.mpr c84
                                        have c84b1 : ((t320.extract 0 x7_1.size).toList != x7_1.toList) = false := bne_eq_false_iff_eq.mpr c84
                                        clear c84
                                        have H' := Aside0.mk H
                                        clear H
                                        have p297 : 0 ≤ (x9_1 : Int) := of_decide_eq_true (by first | (with_reducible assumption) | assumption)
                                        have q297 : x9_1 < (l1.length : Int) := of_decide_eq_true (by first | (with_reducible assumption) | assumption)
                                        obtain ⟨ad297, e297, hx297_0⟩ := Kd.at_int HR1.out x9_1 p297 q297
                                        cases e297
                                        replace hx297_0 := (HB.out.cell (World.block_lt_of_cell? w _ hx297_0)).trans hx297_0
                                        replace p297 := eq_true p297
                                        replace q297 := eq_true q297
                                        go_wp2_with (first | ((with_reducible refine gate_callee (f := 10) rfl ?_); refine goesL_ (some 47) rfl rfl Try.func10 (by kernel_rfl) rfl #[.int .i64 (rd l1 x9_1), .int .i64 6] rfl (by (try simp only [List.map_toArray, List.map_cons, List.map_nil]); first | done | rfl | (simp only [List.length_drop, List.length_take]; rfl)) ?_; (with_reducible refine (careenlaw07_pick.calls (rd l1 x9_1) 6 t298 _ A19.out).mono ?_); rintro e w' ⟨rfl, ⟨nd, rfl⟩⟩; refine ⟨_, rfl, ?_⟩; (try (rw [drewN_self wc]; generalize hq_ : World.drewN wc _ = wc; have n0_ : Aside0 (wc.heap[gb294]? = some (.cells #[.string x295000_1, .string x295001_1, .string x295002_1] 23 (0, 0))) := ⟨by rw [← hq_]; exact (by (with_reducible repeat (first | refine blk_drewN ?_ _ | refine blk_drew ?_ | refine blk_alloc ?_ _)); exact BK294.out)⟩; have n1_ : Aside0 (Below w.heap.size w wc) := ⟨by rw [← hq_]; exact (by repeat (first | (with_reducible first | exact HB.out | apply below_alloc | apply pw_below_drewN | apply below_drew1 | refine below_set ?_ GE294.out) | exact HB.out))⟩; clear BK294 HB hq_; have BK294 := n0_; have HB := n1_; clear n0_ n1_)); have hcz85_0 : wc.cell? ⟨gb294, 0, none⟩ = some (.string x295000_1) := (blk_cell BK294.out 0).trans rfl; have hcz85_1 : wc.cell? ⟨gb294, 1, none⟩ = some (.string x295001_1) := (blk_cell BK294.out 1).trans rfl; have hcz85_2 : wc.cell? ⟨gb294, 2, none⟩ = some (.string x295002_1) := (blk_cell BK294.out 2).trans rfl; have hfz85_0 := blk_frozen BK294.out 0; have hfz85_1 := blk_frozen BK294.out 1; have hfz85_2 := blk_frozen BK294.out 2) | ((with_reducible refine gate_callee (f := 13) rfl ?_); refine goesL_ (some 51) rfl rfl Try.func13 (by kernel_rfl) rfl #[.agg #[.string x295000_1, .string x295001_1, .string x295002_1], .string x10_9] rfl (by (try simp only [List.map_toArray, List.map_cons, List.map_nil]); first | done | rfl | (simp only [List.length_drop, List.length_take]; rfl)) ?_; (with_reducible refine (disk_Append.calls x295000_1 x295001_1 x295002_1 x10_9 t315 t316 t317 t318 _ A76.out).mono ?_); rintro e w86 ⟨rfl, hb⟩; refine ⟨_, rfl, ?_⟩; have n0_ := Aside0.mk (blk_below (g := gb294) (o := .cells #[.string x295000_1, .string x295001_1, .string x295002_1] 23 (0, 0)) (by (with_reducible repeat (first | refine blk_drewN ?_ _ | refine blk_drew ?_ | refine blk_alloc ?_ _)); exact BK294.out) hb); have n1_ := Aside0.mk (below_step (by repeat (first | (with_reducible first | exact HB.out | apply below_alloc | apply pw_below_drewN | apply below_drew1 | refine below_set ?_ GE294.out) | exact HB.out)) hb); clear BK294; clear HB; have BK294 := n0_; have HB := n1_; clear n0_ n1_; (try clear hb); (try clear hb2); (try clear hk); (try clear hi)) | ((with_reducible refine gate_dst (N := 13) rfl ?_); (try (refine gate_guard (by rfl) ?_; dsimp only)); refine box_event ?hg (N := 13) ?hd (cs := #[.string (⟨#[]⟩ : ByteArray), .string (⟨#[]⟩ : ByteArray), .string (⟨#[]⟩ : ByteArray)]) (t := 23) ?hr ?_; (case hd => rfl); (case hg => rfl); (case hr => first | (go_simp; done) | (go_simp; rfl)); intro gb319 hg w87 hbox hb; have n0_ := Aside0.mk (blk_below (g := gb294) (o := .cells #[.string x295000_1, .string x295001_1, .string x295002_1] 23 (0, 0)) (by (with_reducible repeat (first | refine blk_drewN ?_ _ | refine blk_drew ?_ | refine blk_alloc ?_ _)); exact BK294.out) hb); have n1_ := Aside0.mk (below_step (by repeat (first | (with_reducible first | exact HB.out | apply below_alloc | apply pw_below_drewN | apply below_drew1 | refine below_set ?_ GE294.out) | exact HB.out)) hb); have n2_ := Aside0.mk (hbox); have n3_ := Aside0.mk ((by rw [hg]; exact (below_size (by repeat (first | (with_reducible first | exact HB.out | apply below_alloc | apply pw_below_drewN | apply below_drew1 | refine below_set ?_ GE294.out) | exact HB.out))) : w.heap.size ≤ gb319)); have n4_ := Aside0.mk ((by rw [hg]; exact (below_size (by repeat (first | (with_reducible first | exact HB.out | apply below_alloc | apply pw_below_drewN | apply below_drew1 | refine below_set ?_ GE294.out) | exact HB.out))) : w.heap.size ≤ gb319)); have n5_ := Aside0.mk ((by rw [hg]; exact Nat.ne_of_lt (blk_lt (g := gb294) (o := .cells #[.string x295000_1, .string x295001_1, .string x295002_1] 23 (0, 0)) (by (with_reducible repeat (first | refine blk_drewN ?_ _ | refine blk_drew ?_ | refine blk_alloc ?_ _)); exact BK294.out)) : gb294 ≠ gb319)); have n6_ := Aside0.mk ((by rw [hg]; exact Nat.ne_of_gt (blk_lt (g := gb294) (o := .cells #[.string x295000_1, .string x295001_1, .string x295002_1] 23 (0, 0)) (by (with_reducible repeat (first | refine blk_drewN ?_ _ | refine blk_drew ?_ | refine blk_alloc ?_ _)); exact BK294.out)) : gb319 ≠ gb294)); clear BK294; clear HB; have BK294 := n0_; have HB := n1_; have BK319 := n2_; have GW319 := n3_; have GE319 := n4_; have NB294_319 := n5_; have NB319_294 := n6_; clear n0_ n1_ n2_ n3_ n4_ n5_ n6_; clear hb hbox hg; have hnb88 := NB319_294.out; have hnc88 := NB294_319.out; have hcz89_0 : w87.cell? ⟨gb319, 0, none⟩ = some (.string (⟨#[]⟩ : ByteArray)) := (blk_cell BK319.out 0).trans rfl; have hcz89_1 : w87.cell? ⟨gb319, 1, none⟩ = some (.string (⟨#[]⟩ : ByteArray)) := (blk_cell BK319.out 1).trans rfl; have hcz89_2 : w87.cell? ⟨gb319, 2, none⟩ = some (.string (⟨#[]⟩ : ByteArray)) := (blk_cell BK319.out 2).trans rfl; have hfz89_0 := blk_frozen BK319.out 0; have hfz89_1 := blk_frozen BK319.out 1; have hfz89_2 := blk_frozen BK319.out 2; have hcz90_0 : w87.cell? ⟨gb294, 0, none⟩ = some (.string x295000_1) := (blk_cell BK294.out 0).trans rfl; have hcz90_1 : w87.cell? ⟨gb294, 1, none⟩ = some (.string x295001_1) := (blk_cell BK294.out 1).trans rfl; have hcz90_2 : w87.cell? ⟨gb294, 2, none⟩ = some (.string x295002_1) := (blk_cell BK294.out 2).trans rfl; have hfz90_0 := blk_frozen BK294.out 0; have hfz90_1 := blk_frozen BK294.out 1; have hfz90_2 := blk_frozen BK294.out 2) | ((with_reducible refine gate_callee (f := 19) rfl ?_); refine goesL_ (some 100) rfl rfl Try.func19 (by kernel_rfl) rfl #[.agg #[.string t315, .string t316, .string t317]] rfl (by (try simp only [List.map_toArray, List.map_cons, List.map_nil]); first | done | rfl | (simp only [List.length_drop, List.length_take]; rfl)) ?_; (with_reducible refine (disk_Log.calls t315 t316 t317 t320 _ A79.out).mono ?_); rintro e w91 ⟨rfl, hb⟩; refine ⟨_, rfl, ?_⟩; have n0_ := Aside0.mk (blk_below (g := gb294) (o := .cells #[.string t315, .string t316, .string t317] 23 (0, 0)) (by (with_reducible repeat (first | refine blk_drewN ?_ _ | refine blk_drew ?_ | refine blk_alloc ?_ _)); refine blk_put (cs := #[.string t315, .string t316, .string x295002_1]) ?_ 2 _ rfl; (with_reducible repeat (first | refine blk_drewN ?_ _ | refine blk_drew ?_ | refine blk_alloc ?_ _)); refine blk_put (cs := #[.string t315, .string x295001_1, .string x295002_1]) ?_ 1 _ rfl; (with_reducible repeat (first | refine blk_drewN ?_ _ | refine blk_drew ?_ | refine blk_alloc ?_ _)); refine blk_put (cs := #[.string x295000_1, .string x295001_1, .string x295002_1]) ?_ 0 _ rfl; (with_reducible repeat (first | refine blk_drewN ?_ _ | refine blk_drew ?_ | refine blk_alloc ?_ _)); refine blk_far ?_ NB294_319.out _; (with_reducible repeat (first | refine blk_drewN ?_ _ | refine blk_drew ?_ | refine blk_alloc ?_ _)); refine blk_far ?_ NB294_319.out _; (with_reducible repeat (first | refine blk_drewN ?_ _ | refine blk_drew ?_ | refine blk_alloc ?_ _)); refine blk_far ?_ NB294_319.out _; (with_reducible repeat (first | refine blk_drewN ?_ _ | refine blk_drew ?_ | refine blk_alloc ?_ _)); exact BK294.out) hb); have n1_ := Aside0.mk (blk_below (g := gb319) (o := .cells #[.string t315, .string t316, .string t317] 23 (0, 0)) (by (with_reducible repeat (first | refine blk_drewN ?_ _ | refine blk_drew ?_ | refine blk_alloc ?_ _)); refine blk_far ?_ NB319_294.out _; (with_reducible repeat (first | refine blk_drewN ?_ _ | refine blk_drew ?_ | refine blk_alloc ?_ _)); refine blk_far ?_ NB319_294.out _; (with_reducible repeat (first | refine blk_drewN ?_ _ | refine blk_drew ?_ | refine blk_alloc ?_ _)); refine blk_far ?_ NB319_294.out _; (with_reducible repeat (first | refine blk_drewN ?_ _ | refine blk_drew ?_ | refine blk_alloc ?_ _)); refine blk_put (cs := #[.string t315, .string t316, .string (⟨#[]⟩ : ByteArray)]) ?_ 2 _ rfl; (with_reducible repeat (first | refine blk_drewN ?_ _ | refine blk_drew ?_ | refine blk_alloc ?_ _)); refine blk_put (cs := #[.string t315, .string (⟨#[]⟩ : ByteArray), .string (⟨#[]⟩ : ByteArray)]) ?_ 1 _ rfl; (with_reducible repeat (first | refine blk_drewN ?_ _ | refine blk_drew ?_ | refine blk_alloc ?_ _)); refine blk_put (cs := #[.string (⟨#[]⟩ : ByteArray), .string (⟨#[]⟩ : ByteArray), .string (⟨#[]⟩ : ByteArray)]) ?_ 0 _ rfl; (with_reducible repeat (first | refine blk_drewN ?_ _ | refine blk_drew ?_ | refine blk_alloc ?_ _)); exact BK319.out) hb); have n2_ := Aside0.mk (below_step (by repeat (first | (with_reducible first | exact HB.out | apply below_alloc | apply pw_below_drewN | apply below_drew1 | refine below_set ?_ GE294.out | refine below_set ?_ GE319.out) | exact HB.out)) hb); clear BK294; clear BK319; clear HB; have BK294 := n0_; have BK319 := n1_; have HB := n2_; clear n0_ n1_ n2_; (try clear hb); (try clear hb2); (try clear hk); (try clear hi); have hcz92_0 : w91.cell? ⟨gb294, 0, none⟩ = some (.string t315) := (blk_cell BK294.out 0).trans rfl; have hcz92_1 : w91.cell? ⟨gb294, 1, none⟩ = some (.string t316) := (blk_cell BK294.out 1).trans rfl; have hcz92_2 : w91.cell? ⟨gb294, 2, none⟩ = some (.string t317) := (blk_cell BK294.out 2).trans rfl; have hfz92_0 := blk_frozen BK294.out 0; have hfz92_1 := blk_frozen BK294.out 1; have hfz92_2 := blk_frozen BK294.out 2))
                                        go_roundg kj9
                                        case measure => have := HK1.out; have := HJ6.out; have := HJ9.out; omega
                                        case rel => exact ⟨(x7_1), (x8_1 ++ x10_9), (wrap64 (x9_1 + 1)), (t315), (t316), (t317), (by first | rfl | (simp; done) | (simp [*]; done)), (by first | rfl | (simp; done) | (simp [*]; done)), (by first | rfl | (simp; done) | (simp [*]; done)), H', ⟨by have := HK1.out; have := HJ6.out; have := HJ9.out; omega⟩, ⟨by (with_reducible repeat (first | refine blk_drewN ?_ _ | refine blk_drew ?_ | refine blk_alloc ?_ _)); exact BK294.out⟩, ⟨by repeat (first | (with_reducible first | exact HB.out | apply below_alloc | apply pw_below_drewN | apply below_drew1 | refine below_set ?_ GE294.out | refine below_set ?_ GE319.out) | exact HB.out)⟩⟩
                                      · rw [if_neg c84] at H
                                        have c84b0 : ((t320.extract 0 x7_1.size).toList == x7_1.toList) = false := beq_eq_false_iff_ne.mpr c84
                                        have c84b1 : ((t320.extract 0 x7_1.size).toList != x7_1.toList) = true := bne_iff_ne.mpr c84
                                        exact absurd H (by simp)
                                    · rw [if_neg c83] at H
                                      exact absurd H (by simp)
                                  · rw [if_neg c82] at H
                                    exact absurd H (by simp)
                              · rw [if_neg c80] at H
                                have c80b0 : (t320.toList == (x8_1 ++ x10_9).toList) = false := beq_eq_false_iff_ne.mpr c80
                                have c80b1 : (t320.toList != (x8_1 ++ x10_9).toList) = true := bne_iff_ne.mpr c80
                                exact absurd H (by simp)
                            · rw [if_neg c78] at H
                              exact absurd H (by simp)
                          · rw [if_neg c77] at H
                            have c77b0 : (t318 == 0) = false := beq_eq_false_iff_ne.mpr c77
                            have c77b1 : (t318 != 0) = true := bne_iff_ne.mpr c77
                            exact absurd H (by simp)
                  · rw [if_neg c18] at H
                    exact absurd H (by simp)
                · rw [if_neg c17] at H
                  exact absurd H (by simp)
          · replace c9 := Bool.eq_false_iff.mpr c9
            subst c9
            have H1 : (some t293) = some true := by rw [if_neg (show ¬ (false = true) by decide)] at H; exact H
            clear H
            have H := H1
            clear H1
            have HV_ := Aside0.mk (Option.some.inj H)
            clear H
            go_wp2
            go_ret
            exact ⟨by first | exact congrArg (fun b_ => Ending.returned (Value.bool b_)) HV_.out | (have hv_ := HV_.out; simp only [Bool.and_eq_true, beq_iff_eq] at hv_; simp [hv_]; done) | (have hv_ := HV_.out; simp at hv_; simp [*]; done) | rfl | (simp [errW_none, errW_some] <;> rfl) | (simp [*, errW_none, errW_some] <;> rfl), by repeat (first | (with_reducible first | exact HB.out | apply below_alloc | apply pw_below_drewN | apply below_drew1 | refine below_set ?_ GE294.out) | exact HB.out)⟩

/-- THE ONE PURE STATEMENT of careenlaw07_DiskOrder. -/
def careenlaw07_DiskOrder.Pure : Prop := ∀ (l0 : List ByteArray) (l1 : List Int), l0.length * 16 ≤ 140737488351232 → (∀ x ∈ l0, x.size ≤ 9223372036854775807) → l1.length * 8 ≤ 140737488351232 → (∀ x ∈ l1, (Lit.int .i64 x).wf = true) → ∃ k, careenlaw07_DiskOrder.f k l0 l1 = some true

end Go.Proofs.Ytlhkcbcfhmjamaa.PAll
