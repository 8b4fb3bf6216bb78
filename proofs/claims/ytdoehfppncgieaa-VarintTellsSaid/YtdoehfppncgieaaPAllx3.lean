-- Written by a program of this session (wip/xpatch.py, wip/xprint.sh) for seat Ytdoehfppncgieaa.
import Derived.Test.YtdoehfppncgieaaPAllx0
import Derived.Test.YtdoehfppncgieaaPAllx1
import Derived.Test.YtdoehfppncgieaaPAllx2
namespace Go.Proofs.Ytdoehfppncgieaa.PAll
open Go.RowKit Go.Proofs.YtdoehfppncgieaaW.PrintWords Go.Proofs.YtdoehfppncgieaaW.PrintLast Go.Proofs.YtdoehfppncgieaaW.PrintMore
attribute [local go_sem] max2_int min2_int max_two min_two max_three min_three max_four min_four   -- for this text's walks alone
set_option linter.unusedVariables false
set_option linter.unusedSimpArgs false

/-! ### careenlaw01_VarintTells: function 3 -/
mutual
def careenlaw01_VarintTells.l0 : Nat → ByteArray → Int → ByteArray → Bool → List Int → Int → Int → Option (Bool)
  | 0, _, _, _, _, _, _, _ => none
  | k + 1, x1, x2, x3, x9, x31, x32, x33 => if x33 < x32 then (if 0 ≤ x33 then (if x33 < (x31.length : Int) then ((varint_Put.f (rd x31 x33)).bind fun bt128 => ((careenref01_Put.f k (rd x31 x33)).bind fun bt130 => (if bt128.1.toList = bt130.1.toList then (careenlaw01_VarintTells.j1 k x1 x2 x3 x9 bt130.1 x31 x32 x33 (bt128.2 != bt130.2)) else (careenlaw01_VarintTells.j1 k x1 x2 x3 x9 bt130.1 x31 x32 x33 true)))) else (none)) else (none)) else (some x9)
def careenlaw01_VarintTells.j1 : Nat → ByteArray → Int → ByteArray → Bool → ByteArray → List Int → Int → Int → Bool → Option (Bool)
  | 0, _, _, _, _, _, _, _, _, _ => none
  | k + 1, x1, x2, x3, x9, x14, x31, x32, x33, x54 => if x54 = true then (some false) else ((careenlaw01_pick.f x2 (wrap64 ((x14.size : Int) + 1))).bind fun t132 => (if 0 ≤ t132 then (if t132 ≤ (x14.size : Int) then (if (x14.extract 0 (t132 : Int).toNat).size + x3.size ≤ 9223372036854775807 then (if 0 ≤ (mn (wrap64 (t132 + (x3.size : Int))) (x14.size : Int)) then (if (mn (wrap64 (t132 + (x3.size : Int))) (x14.size : Int)) ≤ (x14.size : Int) then (if ((x14.extract 0 (t132 : Int).toNat) ++ x3).size + (x14.extract ((mn (wrap64 (t132 + (x3.size : Int))) (x14.size : Int)) : Int).toNat x14.size).size ≤ 9223372036854775807 then (if ((x14.extract 0 (t132 : Int).toNat) ++ x3).size + (x14.extract (t132 : Int).toNat x14.size).size ≤ 9223372036854775807 then ((some (([x1, x14, ((x14.extract 0 (t132 : Int).toNat) ++ x3) ++ (x14.extract ((mn (wrap64 (t132 + (x3.size : Int))) (x14.size : Int)) : Int).toNat x14.size), ((x14.extract 0 (t132 : Int).toNat) ++ x3) ++ (x14.extract (t132 : Int).toNat x14.size), x14.extract 0 (t132 : Int).toNat] : List ByteArray) : List ByteArray)).bind fun y133 => (careenlaw01_VarintTells.l1 k x1 x2 x3 x9 x31 x32 x33 y133 (y133.length : Int) 0)) else (none)) else (none)) else (none)) else (none)) else (none)) else (none)) else (none)))
def careenlaw01_VarintTells.l1 : Nat → ByteArray → Int → ByteArray → Bool → List Int → Int → Int → List ByteArray → Int → Int → Option (Bool)
  | 0, _, _, _, _, _, _, _, _, _, _ => none
  | k + 1, x1, x2, x3, x9, x31, x32, x33, x89, x90, x91 => if x91 < x90 then (if 0 ≤ x91 then (if x91 < (x89.length : Int) then ((varint_Take.f k (rdOf ByteArray.empty x89 x91)).bind fun bt137 => ((careenref01_Take.f k (rdOf ByteArray.empty x89 x91)).bind fun bt140 => (if bt137.1 = bt140.1 then (if bt137.2.1 = bt140.2.1 then (if bt137.2.2 = bt140.2.2 then (careenlaw01_VarintTells.l1 k x1 x2 x3 x9 x31 x32 x33 x89 x90 (wrap64 (x91 + 1))) else (some false)) else (some false)) else (some false)))) else (none)) else (none)) else (careenlaw01_VarintTells.l0 k x1 x2 x3 x9 x31 x32 (wrap64 (x33 + 1)))
end
def careenlaw01_VarintTells.f (k : Nat) (a0 : Int) (a1 : ByteArray) (a2 : Int) (a3 : ByteArray) : Option (Bool) := (careenlaw01_awake.f k).bind fun t121 => ((careenlaw01_pick.f a0 9007199254740993).bind fun t122 => ((careenlaw01_pick.f a0 70000).bind fun t123 => ((some (([a0, t122, t123] : List Int) : List Int)).bind fun y124 => (careenlaw01_VarintTells.l0 k a1 a2 a3 t121 y124 (y124.length : Int) 0))))
theorem careenlaw01_VarintTells.mono_l : ∀ k, (∀ y0 y1 y2 y3 y4 y5 y6, LeO (careenlaw01_VarintTells.l0 k y0 y1 y2 y3 y4 y5 y6) (careenlaw01_VarintTells.l0 (k + 1) y0 y1 y2 y3 y4 y5 y6)) ∧ (∀ y0 y1 y2 y3 y4 y5 y6 y7 y8, LeO (careenlaw01_VarintTells.j1 k y0 y1 y2 y3 y4 y5 y6 y7 y8) (careenlaw01_VarintTells.j1 (k + 1) y0 y1 y2 y3 y4 y5 y6 y7 y8)) ∧ (∀ y0 y1 y2 y3 y4 y5 y6 y7 y8 y9, LeO (careenlaw01_VarintTells.l1 k y0 y1 y2 y3 y4 y5 y6 y7 y8 y9) (careenlaw01_VarintTells.l1 (k + 1) y0 y1 y2 y3 y4 y5 y6 y7 y8 y9))
  | 0 => ⟨(fun _ _ _ _ _ _ _ r h => by cases (show (none : Option _) = some r from h)), (fun _ _ _ _ _ _ _ _ _ r h => by cases (show (none : Option _) = some r from h)), (fun _ _ _ _ _ _ _ _ _ _ r h => by cases (show (none : Option _) = some r from h))⟩
  | k + 1 => by
    obtain ⟨ih0, ih1, ih2⟩ := careenlaw01_VarintTells.mono_l k
    refine ⟨?_, ?_, ?_⟩
    · intro y0 y1 y2 y3 y4 y5 y6
      unfold careenlaw01_VarintTells.l0
      repeat' first
      | (with_reducible exact ih0 _ _ _ _ _ _ _)
      | (with_reducible exact ih1 _ _ _ _ _ _ _ _ _)
      | (with_reducible exact ih2 _ _ _ _ _ _ _ _ _ _)
      | (with_reducible exact careenlaw01_awake.mono _)
      | (with_reducible exact careenref01_Put.mono _ _)
      | (with_reducible exact careenref01_Take.mono _ _)
      | (with_reducible exact varint_Take.mono _ _)
      | (with_reducible exact LeO.refl _)
      | (with_reducible exact LeO.none _)
      | (with_reducible refine LeO.ite ?_ ?_)
      | (with_reducible refine LeO.bind ?_ (fun _ => ?_))
      | exact ih0 _ _ _ _ _ _ _
      | exact ih1 _ _ _ _ _ _ _ _ _
      | exact ih2 _ _ _ _ _ _ _ _ _ _
      | exact careenlaw01_awake.mono _
      | exact careenref01_Put.mono _ _
      | exact careenref01_Take.mono _ _
      | exact varint_Take.mono _ _
      | exact LeO.none _
      | refine LeO.ite ?_ ?_
      | refine LeO.bind ?_ (fun _ => ?_)
    · intro y0 y1 y2 y3 y4 y5 y6 y7 y8
      unfold careenlaw01_VarintTells.j1
      repeat' first
      | (with_reducible exact ih0 _ _ _ _ _ _ _)
      | (with_reducible exact ih1 _ _ _ _ _ _ _ _ _)
      | (with_reducible exact ih2 _ _ _ _ _ _ _ _ _ _)
      | (with_reducible exact careenlaw01_awake.mono _)
      | (with_reducible exact careenref01_Put.mono _ _)
      | (with_reducible exact careenref01_Take.mono _ _)
      | (with_reducible exact varint_Take.mono _ _)
      | (with_reducible exact LeO.refl _)
      | (with_reducible exact LeO.none _)
      | (with_reducible refine LeO.ite ?_ ?_)
      | (with_reducible refine LeO.bind ?_ (fun _ => ?_))
      | exact ih0 _ _ _ _ _ _ _
      | exact ih1 _ _ _ _ _ _ _ _ _
      | exact ih2 _ _ _ _ _ _ _ _ _ _
      | exact careenlaw01_awake.mono _
      | exact careenref01_Put.mono _ _
      | exact careenref01_Take.mono _ _
      | exact varint_Take.mono _ _
      | exact LeO.none _
      | refine LeO.ite ?_ ?_
      | refine LeO.bind ?_ (fun _ => ?_)
    · intro y0 y1 y2 y3 y4 y5 y6 y7 y8 y9
      unfold careenlaw01_VarintTells.l1
      repeat' first
      | (with_reducible exact ih0 _ _ _ _ _ _ _)
      | (with_reducible exact ih1 _ _ _ _ _ _ _ _ _)
      | (with_reducible exact ih2 _ _ _ _ _ _ _ _ _ _)
      | (with_reducible exact careenlaw01_awake.mono _)
      | (with_reducible exact careenref01_Put.mono _ _)
      | (with_reducible exact careenref01_Take.mono _ _)
      | (with_reducible exact varint_Take.mono _ _)
      | (with_reducible exact LeO.refl _)
      | (with_reducible exact LeO.none _)
      | (with_reducible refine LeO.ite ?_ ?_)
      | (with_reducible refine LeO.bind ?_ (fun _ => ?_))
      | exact ih0 _ _ _ _ _ _ _
      | exact ih1 _ _ _ _ _ _ _ _ _
      | exact ih2 _ _ _ _ _ _ _ _ _ _
      | exact careenlaw01_awake.mono _
      | exact careenref01_Put.mono _ _
      | exact careenref01_Take.mono _ _
      | exact varint_Take.mono _ _
      | exact LeO.none _
      | refine LeO.ite ?_ ?_
      | refine LeO.bind ?_ (fun _ => ?_)
theorem careenlaw01_VarintTells.mono : ∀ a0 a1 a2 a3 k, LeO (careenlaw01_VarintTells.f k a0 a1 a2 a3) (careenlaw01_VarintTells.f (k + 1) a0 a1 a2 a3) := by
  intro a0 a1 a2 a3 k
  obtain ⟨ih0, ih1, ih2⟩ := careenlaw01_VarintTells.mono_l k
  unfold careenlaw01_VarintTells.f
  repeat' first
      | (with_reducible exact ih0 _ _ _ _ _ _ _)
      | (with_reducible exact ih1 _ _ _ _ _ _ _ _ _)
      | (with_reducible exact ih2 _ _ _ _ _ _ _ _ _ _)
      | (with_reducible exact careenlaw01_awake.mono _)
      | (with_reducible exact careenref01_Put.mono _ _)
      | (with_reducible exact careenref01_Take.mono _ _)
      | (with_reducible exact varint_Take.mono _ _)
      | (with_reducible exact LeO.refl _)
      | (with_reducible exact LeO.none _)
      | (with_reducible refine LeO.ite ?_ ?_)
      | (with_reducible refine LeO.bind ?_ (fun _ => ?_))
      | exact ih0 _ _ _ _ _ _ _
      | exact ih1 _ _ _ _ _ _ _ _ _
      | exact ih2 _ _ _ _ _ _ _ _ _ _
      | exact careenlaw01_awake.mono _
      | exact careenref01_Put.mono _ _
      | exact careenref01_Take.mono _ _
      | exact varint_Take.mono _ _
      | exact LeO.none _
      | refine LeO.ite ?_ ?_
      | refine LeO.bind ?_ (fun _ => ?_)
def careenlaw01_VarintTells.T10 : Bool × List (List Nat × List Nat) := (true, [([], []), ([], []), ([], []), ([], []), ([2, 3], [2, 3]), ([], []), ([4, 5], [4, 5]), ([], []), ([], []), ([], []), ([9], [9]), ([8, 10], [8, 10]), ([], []), ([12], [12]), ([11, 13], [11, 13]), ([7, 14], [7, 14]), ([6, 15], [6, 15]), ([], []), ([], []), ([17, 18], [17, 18]), ([], []), ([19, 20], [19, 20]), ([], []), ([], []), ([22, 23], [22, 23]), ([21, 24], [21, 24]), ([], []), ([], []), ([26, 27], [26, 27]), ([0, 1, 16, 25, 28], [0, 1, 16, 25, 28]), ([29], [29]), ([], [])])
def careenlaw01_VarintTells.B10 : List Nat := [0, 0, 0, 0, 12, 0, 60, 0, 0, 0, 512, 1792, 0, 4096, 16128, 32640, 65532, 0, 0, 393216, 0, 1966080, 0, 0, 12582912, 33423360, 0, 0, 201326592, 536870911, 1073741823, 0]
theorem careenlaw01_VarintTells.tab10 : rtab .any (opsOf Try.f3 10) = careenlaw01_VarintTells.T10 := by kernel_rfl
theorem careenlaw01_VarintTells.bits10 : waitsOk careenlaw01_VarintTells.T10.2 careenlaw01_VarintTells.B10 = true := by kernel_rfl
set_option maxHeartbeats 8000000 in
set_option maxRecDepth 100000 in
theorem careenlaw01_VarintTells.calls (k : Nat) (a0 : Int) (a1 : ByteArray) (a2 : Int) (a3 : ByteArray) (w : World) (h : careenlaw01_VarintTells.f k a0 a1 a2 a3 = some true) :
    Calls Try.prog 3 #[.int .i64 a0, .string a1, .int .i64 a2, .string a3] w fun e w' => e = .returned (.bool true) ∧ Below w.heap.size w w' := by
  have HB := Aside0.mk (Below.refl w.heap.size w)
  have H : ((careenlaw01_awake.f k).bind fun t121 => ((careenlaw01_pick.f a0 9007199254740993).bind fun t122 => ((careenlaw01_pick.f a0 70000).bind fun t123 => ((some (([a0, t122, t123] : List Int) : List Int)).bind fun y124 => (careenlaw01_VarintTells.l0 k a1 a2 a3 t121 y124 (y124.length : Int) 0))))) = some true := h
  clear h
  replace H := Option.bind_eq_some_iff.mp H
  obtain ⟨t121, A50, H⟩ := H
  replace H : ((careenlaw01_pick.f a0 9007199254740993).bind fun t122 => ((careenlaw01_pick.f a0 70000).bind fun t123 => ((some (([a0, t122, t123] : List Int) : List Int)).bind fun y124 => (careenlaw01_VarintTells.l0 k a1 a2 a3 t121 y124 (y124.length : Int) 0)))) = some true := H
  have A5 := Aside0.mk A50
  clear A50
  replace H := Option.bind_eq_some_iff.mp H
  obtain ⟨t122, A60, H⟩ := H
  replace H : ((careenlaw01_pick.f a0 70000).bind fun t123 => ((some (([a0, t122, t123] : List Int) : List Int)).bind fun y124 => (careenlaw01_VarintTells.l0 k a1 a2 a3 t121 y124 (y124.length : Int) 0))) = some true := H
  have A6 := Aside0.mk A60
  clear A60
  replace H := Option.bind_eq_some_iff.mp H
  obtain ⟨t123, A70, H⟩ := H
  replace H : ((some (([a0, t122, t123] : List Int) : List Int)).bind fun y124 => (careenlaw01_VarintTells.l0 k a1 a2 a3 t121 y124 (y124.length : Int) 0)) = some true := H
  have A7 := Aside0.mk A70
  clear A70
  obtain ⟨y124, hy124⟩ : ∃ y_ : List Int, y_ = (([a0, t122, t123] : List Int)) := ⟨_, rfl⟩
  replace H : (careenlaw01_VarintTells.l0 k a1 a2 a3 t121 y124 (y124.length : Int) 0) = some true := by first | (rw [hy124]; with_reducible exact H) | (have H2_ := (Option.bind_some _ _).symm.trans H; rw [hy124]; with_reducible exact H2_) | (have H2_ := (Option.bind_some _ _).symm.trans H; with_reducible exact H2_) | with_reducible exact H | (rw [hy124]; exact H) | exact H
  have Ny124 := Aside0.mk hy124
  clear hy124
  have H' := Aside0.mk H
  clear H
  go_enter Try.func3, Try.ntmps3
  go_wp2_with (first | ((with_reducible refine gate_callee (f := 9) rfl ?_); refine goesL_ (some 25) rfl rfl Try.func9 (by kernel_rfl) rfl #[] rfl (by (try simp only [List.map_toArray, List.map_cons, List.map_nil]); first | done | rfl | (simp only [List.length_drop, List.length_take]; rfl)) ?_; (with_reducible refine (careenlaw01_awake.calls k  t121 _ A5.out).mono ?_); rintro e w8 ⟨rfl, hb⟩; refine ⟨_, rfl, ?_⟩; have n0_ := Aside0.mk (below_step (by repeat (first | (with_reducible first | exact HB.out | apply below_alloc | apply pw_below_drewN | apply below_drew1) | exact HB.out)) hb); clear HB; have HB := n0_; clear n0_; (try clear hb); (try clear hb2); (try clear hk); (try clear hi)) | ((with_reducible refine gate_callee (f := 10) rfl ?_); refine goesL_ (some 28) rfl rfl Try.func10 (by kernel_rfl) rfl #[.int .i64 a0, .int .i64 9007199254740993] rfl (by (try simp only [List.map_toArray, List.map_cons, List.map_nil]); first | done | rfl | (simp only [List.length_drop, List.length_take]; rfl)) ?_; (with_reducible refine (careenlaw01_pick.calls a0 9007199254740993 t122 _ A6.out).mono ?_); rintro e w' ⟨rfl, ⟨nd, rfl⟩⟩; refine ⟨_, rfl, ?_⟩) | ((with_reducible refine gate_callee (f := 10) rfl ?_); refine goesL_ (some 30) rfl rfl Try.func10 (by kernel_rfl) rfl #[.int .i64 a0, .int .i64 70000] rfl (by (try simp only [List.map_toArray, List.map_cons, List.map_nil]); first | done | rfl | (simp only [List.length_drop, List.length_take]; rfl)) ?_; (with_reducible refine (careenlaw01_pick.calls a0 70000 t123 _ A7.out).mono ?_); rintro e w' ⟨rfl, ⟨nd, rfl⟩⟩; refine ⟨_, rfl, ?_⟩) | ((with_reducible refine gate_dst (N := 31) rfl ?_); refine Kd.R_lit (Kd.int .i64) _ 3 ?hg (N := 31) ?hd (xs := ([a0, t122, t123] : List Int)) (inner := [.int .i64 a0, .int .i64 t122, .int .i64 t123]) (ok := fun _ => True) (okp := fun _ => True) ?hr ?hp (fun _ hk => hk) trivial (Below.refl _ _) (Nat.le_refl _) (by simp) ?_; (case hd => rfl); (case hg => rfl); (case hr => first | (go_simp; done) | (go_simp; rfl)); (case hp => exact (Reps.one (show Kd.M (Kd.int .i64) _ _ _ a0 [.int .i64 a0] from rfl) (Reps.one (show Kd.M (Kd.int .i64) _ _ _ t122 [.int .i64 t122] from rfl) (Reps.one (show Kd.M (Kd.int .i64) _ _ _ t123 [.int .i64 t123] from rfl) (Reps.none _ _))))); intro v125 w9 ho10 hb hg_ hnew_; clear hg_ hnew_; (first | rw [← Ny124.out] at ho10 | (simp only [Int.reduceToNat] at ho10; rw [← Ny124.out] at ho10)); have n0_ := Aside0.mk (Kd.R_lower ho10 (below_size (by repeat (first | (with_reducible first | exact HB.out | apply below_alloc | apply pw_below_drewN | apply below_drew1) | exact HB.out)))); have n1_ := Aside0.mk (below_step (by repeat (first | (with_reducible first | exact HB.out | apply below_alloc | apply pw_below_drewN | apply below_drew1) | exact HB.out)) hb); clear HB; have HO126 := n0_; have HB := n1_; clear n0_ n1_; clear hb ho10; obtain ⟨Ao11, co11, eo11⟩ := Kd.R_slice HO126.out; subst eo11))
  go_loopg [33] k (fun kq v33 w' => ∃ (x33_1 : Int), v33 = .int .i64 x33_1 ∧ Aside0 (careenlaw01_VarintTells.l0 kq a1 a2 a3 t121 y124 (y124.length : Int) x33_1 = some true) ∧ Aside0 (kq ≤ k) ∧ Aside0 (Kd.R (Kd.int .i64) 3 w' w.heap.size (fun _ => True) (.slice Ao11 y124.length co11) y124) ∧ Aside0 (Below w.heap.size w w'))
  case atStart => exact ⟨(0), (by first | rfl | (simp; done) | (simp [*]; done)), H', ⟨Nat.le_refl _⟩, ⟨by (with_reducible repeat (first | apply Kd.R_alloc | apply Kd.R_drewN | apply Kd.R_drew)); exact HO126.out⟩, ⟨by repeat (first | (with_reducible first | exact HB.out | apply below_alloc | apply pw_below_drewN | apply below_drew1) | exact HB.out)⟩⟩
  case round =>
    clear H'
    try clear c1
    try clear p2
    try clear c3
    try clear c9
    try clear c10
    obtain ⟨x33_1, rfl, HA, HK1, HO_31, HB⟩ := hrel
    cases gk with
    | zero => cases (show (none : Option _) = some _ from HA.out)
    | succ k1 =>
      have H := HA.out
      clear HA
      simp only [careenlaw01_VarintTells.l0] at H
      by_cases c12 : x33_1 < (y124.length : Int)
      · rw [if_pos c12] at H
        have c12b0 : decide (x33_1 < (y124.length : Int)) = true := decide_eq_true c12
        clear c12
        by_cases c13 : 0 ≤ x33_1
        · rw [if_pos c13] at H
          have c13b0 : decide (0 ≤ x33_1) = true := decide_eq_true c13
          clear c13
          by_cases c14 : x33_1 < (y124.length : Int)
          · rw [if_pos c14] at H
            have c14b0 : decide (x33_1 < (y124.length : Int)) = true := decide_eq_true c14
            clear c14
            replace H := Option.bind_eq_some_iff.mp H
            obtain ⟨⟨t128, t129⟩, A150, H⟩ := H
            replace H : ((careenref01_Put.f k1 (rd y124 x33_1)).bind fun bt130 => (if t128.toList = bt130.1.toList then (careenlaw01_VarintTells.j1 k1 a1 a2 a3 t121 bt130.1 y124 (y124.length : Int) x33_1 (t129 != bt130.2)) else (careenlaw01_VarintTells.j1 k1 a1 a2 a3 t121 bt130.1 y124 (y124.length : Int) x33_1 true))) = some true := H
            have A15 := Aside0.mk A150
            clear A150
            replace H := Option.bind_eq_some_iff.mp H
            obtain ⟨⟨t130, t131⟩, A160, H⟩ := H
            replace H : (if t128.toList = t130.toList then (careenlaw01_VarintTells.j1 k1 a1 a2 a3 t121 t130 y124 (y124.length : Int) x33_1 (t129 != t131)) else (careenlaw01_VarintTells.j1 k1 a1 a2 a3 t121 t130 y124 (y124.length : Int) x33_1 true)) = some true := H
            have A16 := Aside0.mk A160
            clear A160
            have HC17 := Aside0.mk H
            clear H
            have p127 : 0 ≤ (x33_1 : Int) := of_decide_eq_true (by first | (with_reducible assumption) | assumption)
            have q127 : x33_1 < (y124.length : Int) := of_decide_eq_true (by first | (with_reducible assumption) | assumption)
            obtain ⟨ad127, e127, hx127_0⟩ := Kd.at_int (Kd.R_reads' HO_31.out).2.2 x33_1 p127 q127
            cases e127
            replace p127 := eq_true p127
            replace q127 := eq_true q127
            go_upto_region 7 with (first | ((with_reducible refine gate_callee (f := 11) rfl ?_); refine goesL_ (some 39) rfl rfl Try.func11 (by kernel_rfl) rfl #[.int .i64 (rd y124 x33_1)] rfl (by (try simp only [List.map_toArray, List.map_cons, List.map_nil]); first | done | rfl | (simp only [List.length_drop, List.length_take]; rfl)) ?_; (with_reducible refine (varint_Put.calls (rd y124 x33_1) t128 t129 _ A15.out).mono ?_); rintro e w18 ⟨rfl, hb⟩; refine ⟨_, rfl, ?_⟩; have n0_ := Aside0.mk (Kd.R_below (by (with_reducible repeat (first | apply Kd.R_alloc | apply Kd.R_drewN | apply Kd.R_drew)); exact HO_31.out) hb); have n1_ := Aside0.mk (below_step (by repeat (first | (with_reducible first | exact HB.out | apply below_alloc | apply pw_below_drewN | apply below_drew1) | exact HB.out)) hb); clear HO_31; clear HB; have HO_31 := n0_; have HB := n1_; clear n0_ n1_; (try clear hb); (try clear hb2); (try clear hk); (try clear hi)) | ((with_reducible refine gate_callee (f := 12) rfl ?_); refine goesL_ (some 44) rfl rfl Try.func12 (by kernel_rfl) rfl #[.int .i64 (rd y124 x33_1)] rfl (by (try simp only [List.map_toArray, List.map_cons, List.map_nil]); first | done | rfl | (simp only [List.length_drop, List.length_take]; rfl)) ?_; (with_reducible refine (careenref01_Put.calls k1 (rd y124 x33_1) t130 t131 _ A16.out).mono ?_); rintro e w19 ⟨rfl, hb⟩; refine ⟨_, rfl, ?_⟩; have n0_ := Aside0.mk (Kd.R_below (by (with_reducible repeat (first | apply Kd.R_alloc | apply Kd.R_drewN | apply Kd.R_drew)); exact HO_31.out) hb); have n1_ := Aside0.mk (below_step (by repeat (first | (with_reducible first | exact HB.out | apply below_alloc | apply pw_below_drewN | apply below_drew1) | exact HB.out)) hb); clear HO_31; clear HB; have HO_31 := n0_; have HB := n1_; clear n0_ n1_; (try clear hb); (try clear hb2); (try clear hk); (try clear hi)))
            (try simp only [Act.put, List.setIfInBounds_toArray, List.set_cons_zero, List.set_cons_succ])
            go_cut [54] (fun v54 wc => ∃ (kq : Nat) (x54_16 : Bool), v54 = .bool x54_16 ∧ Aside0 (careenlaw01_VarintTells.j1 kq a1 a2 a3 t121 t130 y124 (y124.length : Int) x33_1 x54_16 = some true) ∧ Aside0 (kq ≤ k1) ∧ Aside0 (Kd.R (Kd.int .i64) 3 wc w.heap.size (fun _ => True) (.slice (some ad127) y124.length co11) y124) ∧ Aside0 (Below w.heap.size w wc))
            case first =>
              have H := HC17.out
              clear HC17
              by_cases c20 : t128.toList = t130.toList
              · rw [if_pos c20] at H
                have c20b0 : (t128.toList == t130.toList) = true := beq_iff_eq.mpr c20
                have c20b1 : (t128.toList != t130.toList) = false := bne_eq_false_iff_eq.mpr c20
                clear c20
                (first | rw [c20b0] | (simp only [i64_w, i32_w]; rw [c20b0]) | skip)
                have H' := Aside0.mk H
                clear H
                go_wp2
                go_meet
                case rel => exact ⟨_, ((t129 != t131)), (by first | rfl | (simp; done) | (simp [*]; done)), H', ⟨by have := HK1.out; first | omega | exact Nat.le_refl _⟩, ⟨by (with_reducible repeat (first | apply Kd.R_alloc | apply Kd.R_drewN | apply Kd.R_drew)); exact HO_31.out⟩, ⟨by repeat (first | (with_reducible first | exact HB.out | apply below_alloc | apply pw_below_drewN | apply below_drew1) | exact HB.out)⟩⟩
              · rw [if_neg c20] at H
                have c20b0 : (t128.toList == t130.toList) = false := beq_eq_false_iff_ne.mpr c20
                have c20b1 : (t128.toList != t130.toList) = true := bne_iff_ne.mpr c20
                (first | rw [c20b0] | (simp only [i64_w, i32_w]; rw [c20b0]) | skip)
                have H' := Aside0.mk H
                clear H
                go_wp2
                go_meet
                case rel => exact ⟨_, (true), (by first | rfl | (simp; done) | (simp [*]; done)), H', ⟨by have := HK1.out; first | omega | exact Nat.le_refl _⟩, ⟨by (with_reducible repeat (first | apply Kd.R_alloc | apply Kd.R_drewN | apply Kd.R_drew)); exact HO_31.out⟩, ⟨by repeat (first | (with_reducible first | exact HB.out | apply below_alloc | apply pw_below_drewN | apply below_drew1) | exact HB.out)⟩⟩
            case rest =>
              clear HC17
              try clear c1
              try clear p1
              try clear q1
              try clear hx1
              try clear c2
              try clear p2
              try clear c3
              try clear c9
              try clear c10
              try clear c11
              try clear c12
              try clear c12b0
              try clear p12
              try clear q12
              try clear hx12
              try clear c13
              try clear c13b0
              try clear c14
              try clear c14b0
              try clear c20
              try clear c20b0
              try clear c20b1
              try clear hx127_0
              try clear p127
              try clear p2
              try clear q127
              obtain ⟨kq, x54_16, rfl, HA, HJ16, HO_31, HB⟩ := hcut
              cases kq with
              | zero => cases (show (none : Option _) = some _ from HA.out)
              | succ kj16 =>
                have H := HA.out
                clear HA
                simp only [careenlaw01_VarintTells.j1] at H
                by_cases c21 : x54_16 = true
                · subst c21
                  have H1 : (some false) = some true := by rw [if_pos rfl] at H; exact H
                  clear H
                  have H := H1
                  clear H1
                  exact absurd H (by simp)
                · replace c21 := Bool.eq_false_iff.mpr c21
                  subst c21
                  have H1 : ((careenlaw01_pick.f a2 (wrap64 ((t130.size : Int) + 1))).bind fun t132 => (if 0 ≤ t132 then (if t132 ≤ (t130.size : Int) then (if (t130.extract 0 (t132 : Int).toNat).size + a3.size ≤ 9223372036854775807 then (if 0 ≤ (mn (wrap64 (t132 + (a3.size : Int))) (t130.size : Int)) then (if (mn (wrap64 (t132 + (a3.size : Int))) (t130.size : Int)) ≤ (t130.size : Int) then (if ((t130.extract 0 (t132 : Int).toNat) ++ a3).size + (t130.extract ((mn (wrap64 (t132 + (a3.size : Int))) (t130.size : Int)) : Int).toNat t130.size).size ≤ 9223372036854775807 then (if ((t130.extract 0 (t132 : Int).toNat) ++ a3).size + (t130.extract (t132 : Int).toNat t130.size).size ≤ 9223372036854775807 then ((some (([a1, t130, ((t130.extract 0 (t132 : Int).toNat) ++ a3) ++ (t130.extract ((mn (wrap64 (t132 + (a3.size : Int))) (t130.size : Int)) : Int).toNat t130.size), ((t130.extract 0 (t132 : Int).toNat) ++ a3) ++ (t130.extract (t132 : Int).toNat t130.size), t130.extract 0 (t132 : Int).toNat] : List ByteArray) : List ByteArray)).bind fun y133 => (careenlaw01_VarintTells.l1 kj16 a1 a2 a3 t121 y124 (y124.length : Int) x33_1 y133 (y133.length : Int) 0)) else (none)) else (none)) else (none)) else (none)) else (none)) else (none)) else (none))) = some true := by rw [if_neg (show ¬ (false = true) by decide)] at H; exact H
                  clear H
                  have H := H1
                  clear H1
                  replace H := Option.bind_eq_some_iff.mp H
                  obtain ⟨t132, A220, H⟩ := H
                  replace H : (if 0 ≤ t132 then (if t132 ≤ (t130.size : Int) then (if (t130.extract 0 (t132 : Int).toNat).size + a3.size ≤ 9223372036854775807 then (if 0 ≤ (mn (wrap64 (t132 + (a3.size : Int))) (t130.size : Int)) then (if (mn (wrap64 (t132 + (a3.size : Int))) (t130.size : Int)) ≤ (t130.size : Int) then (if ((t130.extract 0 (t132 : Int).toNat) ++ a3).size + (t130.extract ((mn (wrap64 (t132 + (a3.size : Int))) (t130.size : Int)) : Int).toNat t130.size).size ≤ 9223372036854775807 then (if ((t130.extract 0 (t132 : Int).toNat) ++ a3).size + (t130.extract (t132 : Int).toNat t130.size).size ≤ 9223372036854775807 then ((some (([a1, t130, ((t130.extract 0 (t132 : Int).toNat) ++ a3) ++ (t130.extract ((mn (wrap64 (t132 + (a3.size : Int))) (t130.size : Int)) : Int).toNat t130.size), ((t130.extract 0 (t132 : Int).toNat) ++ a3) ++ (t130.extract (t132 : Int).toNat t130.size), t130.extract 0 (t132 : Int).toNat] : List ByteArray) : List ByteArray)).bind fun y133 => (careenlaw01_VarintTells.l1 kj16 a1 a2 a3 t121 y124 (y124.length : Int) x33_1 y133 (y133.length : Int) 0)) else (none)) else (none)) else (none)) else (none)) else (none)) else (none)) else (none)) = some true := H
                  have A22 := Aside0.mk A220
                  clear A220
                  by_cases c23 : 0 ≤ t132
                  · rw [if_pos c23] at H
                    have c23b0 := eq_true c23
                    have c23b1 : decide (0 ≤ t132) = true := decide_eq_true c23
                    clear c23
                    by_cases c24 : t132 ≤ (t130.size : Int)
                    · rw [if_pos c24] at H
                      have c24b0 := eq_true c24
                      have c24b1 : decide (t132 ≤ (t130.size : Int)) = true := decide_eq_true c24
                      clear c24
                      by_cases c25 : (t130.extract 0 (t132 : Int).toNat).size + a3.size ≤ 9223372036854775807
                      · rw [if_pos c25] at H
                        have c25b0 := eq_true c25
                        have c25b1 : decide ((t130.extract 0 (t132 : Int).toNat).size + a3.size ≤ 9223372036854775807) = true := decide_eq_true c25
                        try have c25b2 : (9223372036854775807 < (t130.extract 0 (t132 : Int).toNat).size + a3.size) = False := eq_false (Nat.not_lt.2 c25)
                        (try have c25b8 : (9223372036854775807 < t132.toNat + a3.size) = False := (by have f0_ : 0 ≤ t132 := of_decide_eq_true (by first | (with_reducible assumption) | assumption); have g0_ : t132 ≤ (t130.size : Int) := of_decide_eq_true (by first | (with_reducible assumption) | assumption); have e_ := c25; simp only [ByteArray.size_append, ByteArray.size_extract] at e_; exact eq_false (by omega)))
                        obtain ⟨ji26, hji26⟩ : ∃ j_ : Int, (mn (wrap64 (t132 + (a3.size : Int))) (t130.size : Int)) = j_ := ⟨_, rfl⟩
                        replace H : (if 0 ≤ (ji26) then (if (ji26) ≤ (t130.size : Int) then (if ((t130.extract 0 (t132 : Int).toNat) ++ a3).size + (t130.extract ((ji26) : Int).toNat t130.size).size ≤ 9223372036854775807 then (if ((t130.extract 0 (t132 : Int).toNat) ++ a3).size + (t130.extract (t132 : Int).toNat t130.size).size ≤ 9223372036854775807 then ((some (([a1, t130, ((t130.extract 0 (t132 : Int).toNat) ++ a3) ++ (t130.extract ((ji26) : Int).toNat t130.size), ((t130.extract 0 (t132 : Int).toNat) ++ a3) ++ (t130.extract (t132 : Int).toNat t130.size), t130.extract 0 (t132 : Int).toNat] : List ByteArray) : List ByteArray)).bind fun y133 => (careenlaw01_VarintTells.l1 kj16 a1 a2 a3 t121 y124 (y124.length : Int) x33_1 y133 (y133.length : Int) 0)) else (none)) else (none)) else (none)) else (none)) = some true := by first | (rw [hji26] at H; exact H) | (simp only [hji26] at H ⊢; exact H)
                        (try rw [hji26] at A22)
                        have hji26_ : (if (t130.size : Int) < (wrap64 (t132 + (a3.size : Int))) then (t130.size : Int) else (wrap64 (t132 + (a3.size : Int)))) = ji26 := hji26
                        by_cases c27 : 0 ≤ (ji26)
                        · rw [if_pos c27] at H
                          have c27M : max ji26 0 = ji26 := Int.max_eq_left c27
                          have c27b0 := eq_true c27
                          have c27b1 : decide (0 ≤ (ji26)) = true := decide_eq_true c27
                          clear c27
                          by_cases c28 : (ji26) ≤ (t130.size : Int)
                          · rw [if_pos c28] at H
                            have c28b0 := eq_true c28
                            have c28b1 : decide ((ji26) ≤ (t130.size : Int)) = true := decide_eq_true c28
                            clear c28
                            by_cases c29 : ((t130.extract 0 (t132 : Int).toNat) ++ a3).size + (t130.extract ((ji26) : Int).toNat t130.size).size ≤ 9223372036854775807
                            · rw [if_pos c29] at H
                              have c29b0 := eq_true c29
                              have c29b1 : decide (((t130.extract 0 (t132 : Int).toNat) ++ a3).size + (t130.extract ((ji26) : Int).toNat t130.size).size ≤ 9223372036854775807) = true := decide_eq_true c29
                              try have c29b2 : (9223372036854775807 < ((t130.extract 0 (t132 : Int).toNat) ++ a3).size + (t130.extract ((ji26) : Int).toNat t130.size).size) = False := eq_false (Nat.not_lt.2 c29)
                              (try have c29b8 : (9223372036854775807 < t132.toNat + a3.size + (t130.size - ji26.toNat)) = False := (by have f0_ : 0 ≤ t132 := of_decide_eq_true (by first | (with_reducible assumption) | assumption); have g0_ : t132 ≤ (t130.size : Int) := of_decide_eq_true (by first | (with_reducible assumption) | assumption); have f1_ : 0 ≤ ji26 := of_decide_eq_true (by first | (with_reducible assumption) | assumption); have g1_ : ji26 ≤ (t130.size : Int) := of_decide_eq_true (by first | (with_reducible assumption) | assumption); have e_ := c29; simp only [ByteArray.size_append, ByteArray.size_extract] at e_; exact eq_false (by omega)))
                              have c30b0 := eq_true (of_decide_eq_true (by first | (with_reducible assumption) | assumption) : 0 ≤ t132)
                              have c31b0 := eq_true (of_decide_eq_true (by first | (with_reducible assumption) | assumption) : t132 ≤ (t130.size : Int))
                              have c32b0 := eq_true (of_decide_eq_true (by first | (with_reducible assumption) | assumption) : 0 ≤ t132)
                              have c33b0 := eq_true (of_decide_eq_true (by first | (with_reducible assumption) | assumption) : t132 ≤ (t130.size : Int))
                              by_cases c34 : ((t130.extract 0 (t132 : Int).toNat) ++ a3).size + (t130.extract (t132 : Int).toNat t130.size).size ≤ 9223372036854775807
                              · rw [if_pos c34] at H
                                have c34b0 := eq_true c34
                                have c34b1 : decide (((t130.extract 0 (t132 : Int).toNat) ++ a3).size + (t130.extract (t132 : Int).toNat t130.size).size ≤ 9223372036854775807) = true := decide_eq_true c34
                                try have c34b2 : (9223372036854775807 < ((t130.extract 0 (t132 : Int).toNat) ++ a3).size + (t130.extract (t132 : Int).toNat t130.size).size) = False := eq_false (Nat.not_lt.2 c34)
                                (try have c34b8 : (9223372036854775807 < t132.toNat + a3.size + (t130.size - t132.toNat)) = False := (by have f0_ : 0 ≤ t132 := of_decide_eq_true (by first | (with_reducible assumption) | assumption); have g0_ : t132 ≤ (t130.size : Int) := of_decide_eq_true (by first | (with_reducible assumption) | assumption); have e_ := c34; simp only [ByteArray.size_append, ByteArray.size_extract] at e_; exact eq_false (by omega)))
                                have c35b0 := eq_true (of_decide_eq_true (by first | (with_reducible assumption) | assumption) : 0 ≤ t132)
                                have c36b0 := eq_true (of_decide_eq_true (by first | (with_reducible assumption) | assumption) : t132 ≤ (t130.size : Int))
                                obtain ⟨y133, hy133⟩ : ∃ y_ : List ByteArray, y_ = (([a1, t130, ((t130.extract 0 (t132 : Int).toNat) ++ a3) ++ (t130.extract ((ji26) : Int).toNat t130.size), ((t130.extract 0 (t132 : Int).toNat) ++ a3) ++ (t130.extract (t132 : Int).toNat t130.size), t130.extract 0 (t132 : Int).toNat] : List ByteArray)) := ⟨_, rfl⟩
                                replace H : (careenlaw01_VarintTells.l1 kj16 a1 a2 a3 t121 y124 (y124.length : Int) x33_1 y133 (y133.length : Int) 0) = some true := by first | (rw [hy133]; with_reducible exact H) | (have H2_ := (Option.bind_some _ _).symm.trans H; rw [hy133]; with_reducible exact H2_) | (have H2_ := (Option.bind_some _ _).symm.trans H; with_reducible exact H2_) | with_reducible exact H | (rw [hy133]; exact H) | exact H
                                have Ny133 := Aside0.mk hy133
                                clear hy133
                                have H' := Aside0.mk H
                                clear H
                                try go_wp2_with (first | ((with_reducible refine gate_callee (f := 10) rfl ?_); refine goesL_ (some 59) rfl rfl Try.func10 (by kernel_rfl) rfl #[.int .i64 a2, .int .i64 (wrap64 ((t130.size : Int) + 1))] rfl (by (try simp only [List.map_toArray, List.map_cons, List.map_nil]); first | done | rfl | (simp only [List.length_drop, List.length_take]; rfl)) ?_; (with_reducible refine (careenlaw01_pick.calls a2 (wrap64 ((t130.size : Int) + 1)) t132 _ A22.out).mono ?_); rintro e w' ⟨rfl, ⟨nd, rfl⟩⟩; refine ⟨_, rfl, ?_⟩))
                                (try (rw [drewN_self wc]; generalize hq_ : World.drewN wc _ = wc; have n0_ : Aside0 (Kd.R (Kd.int .i64) 3 wc w.heap.size (fun _ => True) (.slice (some ad127) y124.length co11) y124) := ⟨by rw [← hq_]; exact (by (with_reducible repeat (first | apply Kd.R_alloc | apply Kd.R_drewN | apply Kd.R_drew)); exact HO_31.out)⟩; have n1_ : Aside0 (Below w.heap.size w wc) := ⟨by rw [← hq_]; exact (by repeat (first | (with_reducible first | exact HB.out | apply below_alloc | apply pw_below_drewN | apply below_drew1) | exact HB.out))⟩; clear HO_31 HB hq_; have HO_31 := n0_; have HB := n1_; clear n0_ n1_))
                                have n0_ := Aside0.mk (Kd.R_drew HO_31.out)
                                have n1_ := Aside0.mk (below_drew1 HB.out)
                                clear HO_31
                                clear HB
                                have HO_31 := n0_
                                have HB := n1_
                                clear n0_ n1_
                                refine start_ (n := 32) (S := fun w' => True) (ds := []) #[false, false, false, false, false, false, false, false, false, false, false, false, false, false, false, false, false, false, false, false, false, false, false, false, false, false, false, false, false, false, false, false] (by kernel_rfl) rfl rfl trivial (fun hHeld => ?_); refine with_tabW careenlaw01_VarintTells.tab10 careenlaw01_VarintTells.bits10 (fun HT_ HW_ => ?_)
                                generalize wc.drew = w37 at HO_31 HB hHeld ⊢
                                refine pure_ (i := 0) (N := some 60) (v := ?_) (a' := ?_) #[true, false, false, false, false, false, false, false, false, false, false, false, false, false, false, false, false, false, false, false, false, false, false, false, false, false, false, false, false, false, false, false] rfl rfl (any_of HT_.out (by kernel_rfl)) (fun _ _ _ h => h) (Or.inl ⟨by rfl, ?_⟩) ?_ ?_
                                rotate_left
                                · intro w'
                                  go_simp
                                  with_reducible rfl
                                rotate_left
                                · simp only [Act.put, List.setIfInBounds_toArray, List.set_cons_zero, List.set_cons_succ, i64_w, i32_w]
                                  rfl
                                refine pure_ (i := 1) (N := some 61) (v := ?_) (a' := ?_) #[true, true, false, false, false, false, false, false, false, false, false, false, false, false, false, false, false, false, false, false, false, false, false, false, false, false, false, false, false, false, false, false] rfl rfl (any_of HT_.out (by kernel_rfl)) (fun _ _ _ h => h) (Or.inl ⟨by rfl, ?_⟩) ?_ ?_
                                rotate_left
                                · intro w'
                                  go_simp
                                  with_reducible rfl
                                rotate_left
                                · simp only [Act.put, List.setIfInBounds_toArray, List.set_cons_zero, List.set_cons_succ, i64_w, i32_w]
                                  rfl
                                refine pure_ (i := 2) (N := some 62) (v := ?_) (a' := ?_) #[true, true, true, false, false, false, false, false, false, false, false, false, false, false, false, false, false, false, false, false, false, false, false, false, false, false, false, false, false, false, false, false] rfl rfl (any_of HT_.out (by kernel_rfl)) (fun _ _ _ h => h) (Or.inl ⟨by rfl, ?_⟩) ?_ ?_
                                rotate_left
                                · intro w'
                                  go_simp
                                  with_reducible rfl
                                rotate_left
                                · simp only [Act.put, List.setIfInBounds_toArray, List.set_cons_zero, List.set_cons_succ, i64_w, i32_w]
                                  rfl
                                refine pure_ (i := 3) (N := some 63) (v := ?_) (a' := ?_) #[true, true, true, true, false, false, false, false, false, false, false, false, false, false, false, false, false, false, false, false, false, false, false, false, false, false, false, false, false, false, false, false] rfl rfl (any_of HT_.out (by kernel_rfl)) (fun _ _ _ h => h) (Or.inl ⟨by rfl, ?_⟩) ?_ ?_
                                rotate_left
                                · intro w'
                                  go_simp
                                  with_reducible rfl
                                rotate_left
                                · simp only [Act.put, List.setIfInBounds_toArray, List.set_cons_zero, List.set_cons_succ, i64_w, i32_w]
                                  rfl
                                refine pure_ (i := 4) (N := some 64) (v := ?_) (a' := ?_) #[true, true, true, true, true, false, false, false, false, false, false, false, false, false, false, false, false, false, false, false, false, false, false, false, false, false, false, false, false, false, false, false] rfl rfl (any_of HT_.out (by kernel_rfl)) (fun _ _ _ h => h) (Or.inl ⟨by rfl, ?_⟩) ?_ ?_
                                rotate_left
                                · intro w'
                                  go_simp
                                  with_reducible rfl
                                rotate_left
                                · simp only [Act.put, List.setIfInBounds_toArray, List.set_cons_zero, List.set_cons_succ, i64_w, i32_w]
                                  rfl
                                refine pure_ (i := 5) (N := some 65) (v := ?_) (a' := ?_) #[true, true, true, true, true, true, false, false, false, false, false, false, false, false, false, false, false, false, false, false, false, false, false, false, false, false, false, false, false, false, false, false] rfl rfl (any_of HT_.out (by kernel_rfl)) (fun _ _ _ h => h) (Or.inl ⟨by rfl, ?_⟩) ?_ ?_
                                rotate_left
                                · intro w'
                                  go_simp
                                  with_reducible rfl
                                rotate_left
                                · simp only [Act.put, List.setIfInBounds_toArray, List.set_cons_zero, List.set_cons_succ, i64_w, i32_w]
                                  rfl
                                refine pure_ (i := 6) (N := some 66) (v := ?_) (a' := ?_) #[true, true, true, true, true, true, true, false, false, false, false, false, false, false, false, false, false, false, false, false, false, false, false, false, false, false, false, false, false, false, false, false] rfl rfl (any_of HT_.out (by kernel_rfl)) (fun _ _ _ h => h) (Or.inl ⟨by rfl, ?_⟩) ?_ ?_
                                rotate_left
                                · intro w'
                                  go_simp
                                  with_reducible rfl
                                rotate_left
                                · simp only [Act.put, List.setIfInBounds_toArray, List.set_cons_zero, List.set_cons_succ, i64_w, i32_w]
                                  rfl
                                refine pure_ (i := 7) (N := some 67) (v := ?_) (a' := ?_) #[true, true, true, true, true, true, true, true, false, false, false, false, false, false, false, false, false, false, false, false, false, false, false, false, false, false, false, false, false, false, false, false] rfl rfl (any_of HT_.out (by kernel_rfl)) (fun _ _ _ h => h) (Or.inl ⟨by rfl, ?_⟩) ?_ ?_
                                rotate_left
                                · intro w'
                                  go_simp
                                  with_reducible rfl
                                rotate_left
                                · simp only [Act.put, List.setIfInBounds_toArray, List.set_cons_zero, List.set_cons_succ, i64_w, i32_w]
                                  rfl
                                refine pure_ (i := 8) (N := some 68) (v := ?_) (a' := ?_) #[true, true, true, true, true, true, true, true, true, false, false, false, false, false, false, false, false, false, false, false, false, false, false, false, false, false, false, false, false, false, false, false] rfl rfl (any_of HT_.out (by kernel_rfl)) (fun _ _ _ h => h) (Or.inl ⟨by rfl, ?_⟩) ?_ ?_
                                rotate_left
                                · intro w'
                                  go_simp
                                  with_reducible rfl
                                rotate_left
                                · simp only [Act.put, List.setIfInBounds_toArray, List.set_cons_zero, List.set_cons_succ, i64_w, i32_w]
                                  rfl
                                refine pure_ (i := 9) (N := some 69) (v := ?_) (a' := ?_) #[true, true, true, true, true, true, true, true, true, true, false, false, false, false, false, false, false, false, false, false, false, false, false, false, false, false, false, false, false, false, false, false] rfl rfl (any_of HT_.out (by kernel_rfl)) (fun _ _ _ h => h) (Or.inl ⟨by rfl, ?_⟩) ?_ ?_
                                rotate_left
                                · intro w'
                                  go_simp
                                  with_reducible rfl
                                rotate_left
                                · simp only [Act.put, List.setIfInBounds_toArray, List.set_cons_zero, List.set_cons_succ, i64_w, i32_w]
                                  rfl
                                refine pure_ (i := 10) (N := some 70) (v := ?_) (a' := ?_) #[true, true, true, true, true, true, true, true, true, true, true, false, false, false, false, false, false, false, false, false, false, false, false, false, false, false, false, false, false, false, false, false] rfl rfl (any_of HT_.out (by kernel_rfl)) (fun _ _ _ h => h) (Or.inl ⟨by rfl, ?_⟩) ?_ ?_
                                rotate_left
                                · intro w'
                                  go_simp
                                  with_reducible rfl
                                rotate_left
                                · simp only [Act.put, List.setIfInBounds_toArray, List.set_cons_zero, List.set_cons_succ, i64_w, i32_w]
                                  rfl
                                refine pure_ (i := 11) (N := some 71) (v := ?_) (a' := ?_) #[true, true, true, true, true, true, true, true, true, true, true, true, false, false, false, false, false, false, false, false, false, false, false, false, false, false, false, false, false, false, false, false] rfl rfl (any_of HT_.out (by kernel_rfl)) (fun _ _ _ h => h) (Or.inl ⟨by rfl, ?_⟩) ?_ ?_
                                rotate_left
                                · intro w'
                                  go_simp
                                  with_reducible rfl
                                rotate_left
                                · simp only [Act.put, List.setIfInBounds_toArray, List.set_cons_zero, List.set_cons_succ, i64_w, i32_w]
                                  rfl
                                refine pure_ (i := 12) (N := some 72) (v := ?_) (a' := ?_) #[true, true, true, true, true, true, true, true, true, true, true, true, true, false, false, false, false, false, false, false, false, false, false, false, false, false, false, false, false, false, false, false] rfl rfl (any_of HT_.out (by kernel_rfl)) (fun _ _ _ h => h) (Or.inl ⟨by rfl, ?_⟩) ?_ ?_
                                rotate_left
                                · intro w'
                                  go_simp
                                  with_reducible rfl
                                rotate_left
                                · simp only [Act.put, List.setIfInBounds_toArray, List.set_cons_zero, List.set_cons_succ, i64_w, i32_w]
                                  rfl
                                refine pure_ (i := 13) (N := some 73) (v := ?_) (a' := ?_) #[true, true, true, true, true, true, true, true, true, true, true, true, true, true, false, false, false, false, false, false, false, false, false, false, false, false, false, false, false, false, false, false] rfl rfl (any_of HT_.out (by kernel_rfl)) (fun _ _ _ h => h) (Or.inl ⟨by rfl, ?_⟩) ?_ ?_
                                rotate_left
                                · intro w'
                                  go_simp
                                  with_reducible rfl
                                rotate_left
                                · simp only [Act.put, List.setIfInBounds_toArray, List.set_cons_zero, List.set_cons_succ, i64_w, i32_w]
                                  rfl
                                refine pure_ (i := 14) (N := some 74) (v := ?_) (a' := ?_) #[true, true, true, true, true, true, true, true, true, true, true, true, true, true, true, false, false, false, false, false, false, false, false, false, false, false, false, false, false, false, false, false] rfl rfl (any_of HT_.out (by kernel_rfl)) (fun _ _ _ h => h) (Or.inl ⟨by rfl, ?_⟩) ?_ ?_
                                rotate_left
                                · intro w'
                                  go_simp
                                  with_reducible rfl
                                rotate_left
                                · simp only [Act.put, List.setIfInBounds_toArray, List.set_cons_zero, List.set_cons_succ, i64_w, i32_w]
                                  rfl
                                refine pure_ (i := 15) (N := some 75) (v := ?_) (a' := ?_) #[true, true, true, true, true, true, true, true, true, true, true, true, true, true, true, true, false, false, false, false, false, false, false, false, false, false, false, false, false, false, false, false] rfl rfl (any_of HT_.out (by kernel_rfl)) (fun _ _ _ h => h) (Or.inl ⟨by rfl, ?_⟩) ?_ ?_
                                rotate_left
                                · intro w'
                                  go_simp
                                  with_reducible rfl
                                rotate_left
                                · simp only [Act.put, List.setIfInBounds_toArray, List.set_cons_zero, List.set_cons_succ, i64_w, i32_w]
                                  rfl
                                refine pure_ (i := 16) (N := some 76) (v := ?_) (a' := ?_) #[true, true, true, true, true, true, true, true, true, true, true, true, true, true, true, true, true, false, false, false, false, false, false, false, false, false, false, false, false, false, false, false] rfl rfl (any_of HT_.out (by kernel_rfl)) (fun _ _ _ h => h) (Or.inl ⟨by rfl, ?_⟩) ?_ ?_
                                rotate_left
                                · intro w'
                                  go_simp
                                  with_reducible rfl
                                rotate_left
                                · simp only [Act.put, List.setIfInBounds_toArray, List.set_cons_zero, List.set_cons_succ, i64_w, i32_w]
                                  rfl
                                refine pure_ (i := 17) (N := some 77) (v := ?_) (a' := ?_) #[true, true, true, true, true, true, true, true, true, true, true, true, true, true, true, true, true, true, false, false, false, false, false, false, false, false, false, false, false, false, false, false] rfl rfl (any_of HT_.out (by kernel_rfl)) (fun _ _ _ h => h) (Or.inl ⟨by rfl, ?_⟩) ?_ ?_
                                rotate_left
                                · intro w'
                                  go_simp
                                  with_reducible rfl
                                rotate_left
                                · simp only [Act.put, List.setIfInBounds_toArray, List.set_cons_zero, List.set_cons_succ, i64_w, i32_w]
                                  rfl
                                refine pure_ (i := 18) (N := some 78) (v := ?_) (a' := ?_) #[true, true, true, true, true, true, true, true, true, true, true, true, true, true, true, true, true, true, true, false, false, false, false, false, false, false, false, false, false, false, false, false] rfl rfl (any_of HT_.out (by kernel_rfl)) (fun _ _ _ h => h) (Or.inl ⟨by rfl, ?_⟩) ?_ ?_
                                rotate_left
                                · intro w'
                                  go_simp
                                  with_reducible rfl
                                rotate_left
                                · simp only [Act.put, List.setIfInBounds_toArray, List.set_cons_zero, List.set_cons_succ, i64_w, i32_w]
                                  rfl
                                refine pure_ (i := 19) (N := some 79) (v := ?_) (a' := ?_) #[true, true, true, true, true, true, true, true, true, true, true, true, true, true, true, true, true, true, true, true, false, false, false, false, false, false, false, false, false, false, false, false] rfl rfl (any_of HT_.out (by kernel_rfl)) (fun _ _ _ h => h) (Or.inl ⟨by rfl, ?_⟩) ?_ ?_
                                rotate_left
                                · intro w'
                                  go_simp
                                  with_reducible rfl
                                rotate_left
                                · simp only [Act.put, List.setIfInBounds_toArray, List.set_cons_zero, List.set_cons_succ, i64_w, i32_w]
                                  rfl
                                refine pure_ (i := 20) (N := some 80) (v := ?_) (a' := ?_) #[true, true, true, true, true, true, true, true, true, true, true, true, true, true, true, true, true, true, true, true, true, false, false, false, false, false, false, false, false, false, false, false] rfl rfl (any_of HT_.out (by kernel_rfl)) (fun _ _ _ h => h) (Or.inl ⟨by rfl, ?_⟩) ?_ ?_
                                rotate_left
                                · intro w'
                                  go_simp
                                  with_reducible rfl
                                rotate_left
                                · simp only [Act.put, List.setIfInBounds_toArray, List.set_cons_zero, List.set_cons_succ, i64_w, i32_w]
                                  rfl
                                refine pure_ (i := 21) (N := some 81) (v := ?_) (a' := ?_) #[true, true, true, true, true, true, true, true, true, true, true, true, true, true, true, true, true, true, true, true, true, true, false, false, false, false, false, false, false, false, false, false] rfl rfl (any_of HT_.out (by kernel_rfl)) (fun _ _ _ h => h) (Or.inl ⟨by rfl, ?_⟩) ?_ ?_
                                rotate_left
                                · intro w'
                                  go_simp
                                  with_reducible rfl
                                rotate_left
                                · simp only [Act.put, List.setIfInBounds_toArray, List.set_cons_zero, List.set_cons_succ, i64_w, i32_w]
                                  rfl
                                refine pure_ (i := 22) (N := some 82) (v := ?_) (a' := ?_) #[true, true, true, true, true, true, true, true, true, true, true, true, true, true, true, true, true, true, true, true, true, true, true, false, false, false, false, false, false, false, false, false] rfl rfl (any_of HT_.out (by kernel_rfl)) (fun _ _ _ h => h) (Or.inl ⟨by rfl, ?_⟩) ?_ ?_
                                rotate_left
                                · intro w'
                                  go_simp
                                  with_reducible rfl
                                rotate_left
                                · simp only [Act.put, List.setIfInBounds_toArray, List.set_cons_zero, List.set_cons_succ, i64_w, i32_w]
                                  rfl
                                refine pure_ (i := 23) (N := some 83) (v := ?_) (a' := ?_) #[true, true, true, true, true, true, true, true, true, true, true, true, true, true, true, true, true, true, true, true, true, true, true, true, false, false, false, false, false, false, false, false] rfl rfl (any_of HT_.out (by kernel_rfl)) (fun _ _ _ h => h) (Or.inl ⟨by rfl, ?_⟩) ?_ ?_
                                rotate_left
                                · intro w'
                                  go_simp
                                  with_reducible rfl
                                rotate_left
                                · simp only [Act.put, List.setIfInBounds_toArray, List.set_cons_zero, List.set_cons_succ, i64_w, i32_w]
                                  rfl
                                refine pure_ (i := 24) (N := some 84) (v := ?_) (a' := ?_) #[true, true, true, true, true, true, true, true, true, true, true, true, true, true, true, true, true, true, true, true, true, true, true, true, true, false, false, false, false, false, false, false] rfl rfl (any_of HT_.out (by kernel_rfl)) (fun _ _ _ h => h) (Or.inl ⟨by rfl, ?_⟩) ?_ ?_
                                rotate_left
                                · intro w'
                                  go_simp
                                  with_reducible rfl
                                rotate_left
                                · simp only [Act.put, List.setIfInBounds_toArray, List.set_cons_zero, List.set_cons_succ, i64_w, i32_w]
                                  rfl
                                refine pure_ (i := 25) (N := some 85) (v := ?_) (a' := ?_) #[true, true, true, true, true, true, true, true, true, true, true, true, true, true, true, true, true, true, true, true, true, true, true, true, true, true, false, false, false, false, false, false] rfl rfl (any_of HT_.out (by kernel_rfl)) (fun _ _ _ h => h) (Or.inl ⟨by rfl, ?_⟩) ?_ ?_
                                rotate_left
                                · intro w'
                                  go_simp
                                  with_reducible rfl
                                rotate_left
                                · simp only [Act.put, List.setIfInBounds_toArray, List.set_cons_zero, List.set_cons_succ, i64_w, i32_w]
                                  rfl
                                refine pure_ (i := 26) (N := some 86) (v := ?_) (a' := ?_) #[true, true, true, true, true, true, true, true, true, true, true, true, true, true, true, true, true, true, true, true, true, true, true, true, true, true, true, false, false, false, false, false] rfl rfl (any_of HT_.out (by kernel_rfl)) (fun _ _ _ h => h) (Or.inl ⟨by rfl, ?_⟩) ?_ ?_
                                rotate_left
                                · intro w'
                                  go_simp
                                  with_reducible rfl
                                rotate_left
                                · simp only [Act.put, List.setIfInBounds_toArray, List.set_cons_zero, List.set_cons_succ, i64_w, i32_w]
                                  rfl
                                refine pure_ (i := 27) (N := some 87) (v := ?_) (a' := ?_) #[true, true, true, true, true, true, true, true, true, true, true, true, true, true, true, true, true, true, true, true, true, true, true, true, true, true, true, true, false, false, false, false] rfl rfl (any_of HT_.out (by kernel_rfl)) (fun _ _ _ h => h) (Or.inl ⟨by rfl, ?_⟩) ?_ ?_
                                rotate_left
                                · intro w'
                                  go_simp
                                  with_reducible rfl
                                rotate_left
                                · simp only [Act.put, List.setIfInBounds_toArray, List.set_cons_zero, List.set_cons_succ, i64_w, i32_w]
                                  rfl
                                refine pure_ (i := 28) (N := some 88) (v := ?_) (a' := ?_) #[true, true, true, true, true, true, true, true, true, true, true, true, true, true, true, true, true, true, true, true, true, true, true, true, true, true, true, true, true, false, false, false] rfl rfl (any_of HT_.out (by kernel_rfl)) (fun _ _ _ h => h) (Or.inl ⟨by rfl, ?_⟩) ?_ ?_
                                rotate_left
                                · intro w'
                                  go_simp
                                  with_reducible rfl
                                rotate_left
                                · simp only [Act.put, List.setIfInBounds_toArray, List.set_cons_zero, List.set_cons_succ, i64_w, i32_w]
                                  rfl
                                refine pure_ (i := 31) (N := some 91) (v := ?_) (a' := ?_) #[true, true, true, true, true, true, true, true, true, true, true, true, true, true, true, true, true, true, true, true, true, true, true, true, true, true, true, true, true, false, false, true] rfl rfl (any_of HT_.out (by kernel_rfl)) (fun _ _ _ h => h) (Or.inl ⟨by rfl, ?_⟩) ?_ ?_
                                rotate_left
                                · intro w'
                                  go_simp
                                  with_reducible rfl
                                rotate_left
                                · simp only [Act.put, List.setIfInBounds_toArray, List.set_cons_zero, List.set_cons_succ, i64_w, i32_w]
                                  rfl
                                refine one_ (i := 29) (N := some 89) #[true, true, true, true, true, true, true, true, true, true, true, true, true, true, true, true, true, true, true, true, true, true, true, true, true, true, true, true, true, true, false, true] rfl rfl (one_of HT_.out (by kernel_rfl)) (by decide) (fun K hK => ?_)
                                refine Kd.R_lit_step Kd.string _ 9 ?hg (N := 89) ?hd (xs := ([a1, t130, ((t130.extract 0 (t132 : Int).toNat) ++ a3) ++ (t130.extract ((ji26) : Int).toNat t130.size), ((t130.extract 0 (t132 : Int).toNat) ++ a3) ++ (t130.extract (t132 : Int).toNat t130.size), t130.extract 0 (t132 : Int).toNat] : List ByteArray)) (inner := [.string a1, .string t130, .string (((t130.extract 0 (t132 : Int).toNat) ++ a3) ++ (t130.extract ((ji26) : Int).toNat t130.size)), .string (((t130.extract 0 (t132 : Int).toNat) ++ a3) ++ (t130.extract (t132 : Int).toNat t130.size)), .string (t130.extract 0 (t132 : Int).toNat)]) (ok := fun _ => True) (okp := fun _ => True) ?hr ?hp (fun _ hk => hk) trivial (Below.refl _ _) (Nat.le_refl _) (by simp) ?_; (case hd => rfl); (case hg => rfl); (case hr => first | (go_simp; done) | (go_simp; rfl)); (case hp => exact (Reps.one (show Kd.M Kd.string _ _ _ a1 [.string a1] from rfl) (Reps.one (show Kd.M Kd.string _ _ _ t130 [.string t130] from rfl) (Reps.one (show Kd.M Kd.string _ _ _ (((t130.extract 0 (t132 : Int).toNat) ++ a3) ++ (t130.extract ((ji26) : Int).toNat t130.size)) [.string (((t130.extract 0 (t132 : Int).toNat) ++ a3) ++ (t130.extract ((ji26) : Int).toNat t130.size))] from rfl) (Reps.one (show Kd.M Kd.string _ _ _ (((t130.extract 0 (t132 : Int).toNat) ++ a3) ++ (t130.extract (t132 : Int).toNat t130.size)) [.string (((t130.extract 0 (t132 : Int).toNat) ++ a3) ++ (t130.extract (t132 : Int).toNat t130.size))] from rfl) (Reps.one (show Kd.M Kd.string _ _ _ (t130.extract 0 (t132 : Int).toNat) [.string (t130.extract 0 (t132 : Int).toNat)] from rfl) (Reps.none _ _)))))))
                                intro v134 w38 ho39 hb hg_ hnew_
                                clear hg_ hnew_
                                (first | rw [← Ny133.out] at ho39 | (simp only [Int.reduceToNat] at ho39; rw [← Ny133.out] at ho39))
                                have n0_ := Aside0.mk (Kd.R_below (by (with_reducible repeat (first | apply Kd.R_alloc | apply Kd.R_drewN | apply Kd.R_drew)); exact HO_31.out) hb)
                                have n1_ := Aside0.mk (Kd.R_lower ho39 (below_size (by repeat (first | (with_reducible first | exact HB.out | apply below_alloc | apply pw_below_drewN | apply below_drew1) | exact HB.out))))
                                have n2_ := Aside0.mk (below_step (by repeat (first | (with_reducible first | exact HB.out | apply below_alloc | apply pw_below_drewN | apply below_drew1) | exact HB.out)) hb)
                                clear HO_31
                                clear HB
                                have HO_31 := n0_
                                have HO135 := n1_
                                have HB := n2_
                                clear n0_ n1_ n2_
                                clear hb ho39
                                obtain ⟨Ao40, co40, eo40⟩ := Kd.R_slice HO135.out
                                (first | subst eo40 | (injection eo40 with f1_ f2_ f3_; have f4_ := f1_.symm; have f5_ := f3_.symm; clear f1_ f2_ f3_; subst f4_; subst f5_))
                                refine hK.out _ _ trivial (fun hHeld => ?_)
                                clear hK K
                                refine norm_ (a' := ?_) ?_ ?_
                                rotate_left
                                · show Act.put _ (some 89) _ = _
                                  simp only [Act.put, List.setIfInBounds_toArray, List.set_cons_zero, List.set_cons_succ, i64_w, i32_w]
                                  rfl
                                refine pure_ (i := 30) (N := some 90) (v := ?_) (a' := ?_) #[true, true, true, true, true, true, true, true, true, true, true, true, true, true, true, true, true, true, true, true, true, true, true, true, true, true, true, true, true, true, true, true] rfl rfl (any_of HT_.out (by kernel_rfl)) (fun _ _ _ h => h) (Or.inl ⟨by rfl, ?_⟩) ?_ ?_
                                rotate_left
                                · intro w'
                                  go_simp
                                  with_reducible rfl
                                rotate_left
                                · simp only [Act.put, List.setIfInBounds_toArray, List.set_cons_zero, List.set_cons_succ, i64_w, i32_w]
                                  rfl
                                refine done_ (done_of HT_.out (by kernel_rfl)) ?_
                                try go_wp2
                                go_loopg [91] kj16 (fun kq v91 w' => ∃ (x91_3 : Int), v91 = .int .i64 x91_3 ∧ Aside0 (careenlaw01_VarintTells.l1 kq a1 a2 a3 t121 y124 (y124.length : Int) x33_1 y133 (y133.length : Int) x91_3 = some true) ∧ Aside0 (kq ≤ kj16) ∧ Aside0 (Kd.R (Kd.int .i64) 3 w' w.heap.size (fun _ => True) (.slice (some ad127) y124.length co11) y124) ∧ Aside0 (Kd.R Kd.string 9 w' w.heap.size (fun _ => True) (.slice Ao40 y133.length co40) y133) ∧ Aside0 (Below w.heap.size w w'))
                                case atStart => exact ⟨(0), (by first | rfl | (simp; done) | (simp [*]; done)), H', ⟨Nat.le_refl _⟩, ⟨by (with_reducible repeat (first | apply Kd.R_alloc | apply Kd.R_drewN | apply Kd.R_drew)); exact HO_31.out⟩, ⟨by (with_reducible repeat (first | apply Kd.R_alloc | apply Kd.R_drewN | apply Kd.R_drew)); exact HO135.out⟩, ⟨by repeat (first | (with_reducible first | exact HB.out | apply below_alloc | apply pw_below_drewN | apply below_drew1) | exact HB.out)⟩⟩
                                case round =>
                                  clear H'
                                  try clear c1
                                  try clear p1
                                  try clear q1
                                  try clear hx1
                                  try clear c2
                                  try clear p2
                                  try clear c3
                                  try clear p6
                                  try clear c9
                                  try clear c10
                                  try clear c11
                                  try clear c12
                                  try clear c12b0
                                  try clear p12
                                  try clear q12
                                  try clear hx12
                                  try clear c13
                                  try clear c13b0
                                  try clear c14
                                  try clear c14b0
                                  try clear c20
                                  try clear c20b0
                                  try clear c20b1
                                  try clear c21
                                  try clear c23
                                  try clear c23b0
                                  try clear c23b1
                                  try clear c24
                                  try clear c24b0
                                  try clear c24b1
                                  try clear c25
                                  try clear c25b0
                                  try clear c25b1
                                  try clear c25b2
                                  try clear c27
                                  try clear c27b0
                                  try clear c27b1
                                  try clear c28
                                  try clear c28b0
                                  try clear c28b1
                                  try clear c29
                                  try clear c29b0
                                  try clear c29b1
                                  try clear c29b2
                                  try clear c30
                                  try clear c30b0
                                  try clear c31
                                  try clear c31b0
                                  try clear c32
                                  try clear c32b0
                                  try clear c33
                                  try clear c33b0
                                  try clear c34
                                  try clear c34b0
                                  try clear c34b1
                                  try clear c34b2
                                  try clear c35
                                  try clear c35b0
                                  try clear c36
                                  try clear c36b0
                                  try clear hx127_0
                                  try clear p1
                                  try clear p12
                                  try clear p127
                                  try clear p2
                                  try clear q1
                                  try clear q12
                                  try clear q127
                                  obtain ⟨x91_3, rfl, HA, HK3, HO_31, HO_89, HB⟩ := hrel
                                  cases gk with
                                  | zero => cases (show (none : Option _) = some _ from HA.out)
                                  | succ k3 =>
                                    have H := HA.out
                                    clear HA
                                    simp only [careenlaw01_VarintTells.l1] at H
                                    by_cases c41 : x91_3 < (y133.length : Int)
                                    · rw [if_pos c41] at H
                                      have c41b0 : decide (x91_3 < (y133.length : Int)) = true := decide_eq_true c41
                                      clear c41
                                      by_cases c42 : 0 ≤ x91_3
                                      · rw [if_pos c42] at H
                                        have c42b0 : decide (0 ≤ x91_3) = true := decide_eq_true c42
                                        clear c42
                                        by_cases c43 : x91_3 < (y133.length : Int)
                                        · rw [if_pos c43] at H
                                          have c43b0 : decide (x91_3 < (y133.length : Int)) = true := decide_eq_true c43
                                          clear c43
                                          replace H := Option.bind_eq_some_iff.mp H
                                          obtain ⟨⟨t137, t138, t139⟩, A440, H⟩ := H
                                          replace H : ((careenref01_Take.f k3 (rdOf ByteArray.empty y133 x91_3)).bind fun bt140 => (if t137 = bt140.1 then (if t138 = bt140.2.1 then (if t139 = bt140.2.2 then (careenlaw01_VarintTells.l1 k3 a1 a2 a3 t121 y124 (y124.length : Int) x33_1 y133 (y133.length : Int) (wrap64 (x91_3 + 1))) else (some false)) else (some false)) else (some false))) = some true := H
                                          have A44 := Aside0.mk A440
                                          clear A440
                                          replace H := Option.bind_eq_some_iff.mp H
                                          obtain ⟨⟨t140, t141, t142⟩, A450, H⟩ := H
                                          replace H : (if t137 = t140 then (if t138 = t141 then (if t139 = t142 then (careenlaw01_VarintTells.l1 k3 a1 a2 a3 t121 y124 (y124.length : Int) x33_1 y133 (y133.length : Int) (wrap64 (x91_3 + 1))) else (some false)) else (some false)) else (some false)) = some true := H
                                          have A45 := Aside0.mk A450
                                          clear A450
                                          by_cases c46 : t137 = t140
                                          · rw [if_pos c46] at H
                                            have c46b0 : (t137 == t140) = true := beq_iff_eq.mpr c46
                                            have c46b1 : (t137 != t140) = false := bne_eq_false_iff_eq.mpr c46
                                            clear c46
                                            by_cases c47 : t138 = t141
                                            · rw [if_pos c47] at H
                                              have c47b0 : (t138 == t141) = true := beq_iff_eq.mpr c47
                                              have c47b1 : (t138 != t141) = false := bne_eq_false_iff_eq.mpr c47
                                              clear c47
                                              by_cases c48 : t139 = t142
                                              · rw [if_pos c48] at H
                                                have c48b0 : (t139 == t142) = true := beq_iff_eq.mpr c48
                                                have c48b1 : (t139 != t142) = false := bne_eq_false_iff_eq.mpr c48
                                                clear c48
                                                have H' := Aside0.mk H
                                                clear H
                                                have p136 : 0 ≤ (x91_3 : Int) := of_decide_eq_true (by first | (with_reducible assumption) | assumption)
                                                have q136 : x91_3 < (y133.length : Int) := of_decide_eq_true (by first | (with_reducible assumption) | assumption)
                                                obtain ⟨ad136, e136, hx136_0⟩ := Kd.at_string (Kd.R_reads' HO_89.out).2.2 x91_3 p136 q136
                                                cases e136
                                                replace p136 := eq_true p136
                                                replace q136 := eq_true q136
                                                go_wp2_with (first | ((with_reducible refine gate_callee (f := 13) rfl ?_); refine goesL_ (some 97) rfl rfl Try.func13 (by kernel_rfl) rfl #[.string (rdOf ByteArray.empty y133 x91_3)] rfl (by (try simp only [List.map_toArray, List.map_cons, List.map_nil]); first | done | rfl | (simp only [List.length_drop, List.length_take]; rfl)) ?_; (with_reducible refine (varint_Take.calls k3 (rdOf ByteArray.empty y133 x91_3) t137 t138 t139 _ A44.out).mono ?_); rintro e w49 ⟨rfl, hb⟩; refine ⟨_, rfl, ?_⟩; have n0_ := Aside0.mk (Kd.R_below (by (with_reducible repeat (first | apply Kd.R_alloc | apply Kd.R_drewN | apply Kd.R_drew)); exact HO_31.out) hb); have n1_ := Aside0.mk (Kd.R_below (by (with_reducible repeat (first | apply Kd.R_alloc | apply Kd.R_drewN | apply Kd.R_drew)); exact HO_89.out) hb); have n2_ := Aside0.mk (below_step (by repeat (first | (with_reducible first | exact HB.out | apply below_alloc | apply pw_below_drewN | apply below_drew1) | exact HB.out)) hb); clear HO_31; clear HO_89; clear HB; have HO_31 := n0_; have HO_89 := n1_; have HB := n2_; clear n0_ n1_ n2_; (try clear hb); (try clear hb2); (try clear hk); (try clear hi)) | ((with_reducible refine gate_callee (f := 14) rfl ?_); refine goesL_ (some 103) rfl rfl Try.func14 (by kernel_rfl) rfl #[.string (rdOf ByteArray.empty y133 x91_3)] rfl (by (try simp only [List.map_toArray, List.map_cons, List.map_nil]); first | done | rfl | (simp only [List.length_drop, List.length_take]; rfl)) ?_; (with_reducible refine (careenref01_Take.calls k3 (rdOf ByteArray.empty y133 x91_3) t140 t141 t142 _ A45.out).mono ?_); rintro e w' ⟨rfl, ⟨nd, rfl⟩⟩; refine ⟨_, rfl, ?_⟩))
                                                go_roundg k3
                                                case measure => have := HK1.out; have := HJ16.out; have := HK3.out; omega
                                                case rel => exact ⟨(wrap64 (x91_3 + 1)), (by first | rfl | (simp; done) | (simp [*]; done)), H', ⟨by have := HK1.out; have := HJ16.out; have := HK3.out; omega⟩, ⟨by (with_reducible repeat (first | apply Kd.R_alloc | apply Kd.R_drewN | apply Kd.R_drew)); exact HO_31.out⟩, ⟨by (with_reducible repeat (first | apply Kd.R_alloc | apply Kd.R_drewN | apply Kd.R_drew)); exact HO_89.out⟩, ⟨by repeat (first | (with_reducible first | exact HB.out | apply below_alloc | apply pw_below_drewN | apply below_drew1) | exact HB.out)⟩⟩
                                              · rw [if_neg c48] at H
                                                have c48b0 : (t139 == t142) = false := beq_eq_false_iff_ne.mpr c48
                                                have c48b1 : (t139 != t142) = true := bne_iff_ne.mpr c48
                                                exact absurd H (by simp)
                                            · rw [if_neg c47] at H
                                              have c47b0 : (t138 == t141) = false := beq_eq_false_iff_ne.mpr c47
                                              have c47b1 : (t138 != t141) = true := bne_iff_ne.mpr c47
                                              exact absurd H (by simp)
                                          · rw [if_neg c46] at H
                                            have c46b0 : (t137 == t140) = false := beq_eq_false_iff_ne.mpr c46
                                            have c46b1 : (t137 != t140) = true := bne_iff_ne.mpr c46
                                            exact absurd H (by simp)
                                        · rw [if_neg c43] at H
                                          exact absurd H (by simp)
                                      · rw [if_neg c42] at H
                                        exact absurd H (by simp)
                                    · rw [if_neg c41] at H
                                      have c41b0 : decide (x91_3 < (y133.length : Int)) = false := decide_eq_false c41
                                      clear c41
                                      have H' := Aside0.mk H
                                      clear H
                                      go_wp2
                                      go_roundg k3
                                      case measure => have := HK1.out; have := HJ16.out; have := HK3.out; omega
                                      case rel => exact ⟨(wrap64 (x33_1 + 1)), (by first | rfl | (simp; done) | (simp [*]; done)), H', ⟨by have := HK1.out; have := HJ16.out; have := HK3.out; omega⟩, ⟨by (with_reducible repeat (first | apply Kd.R_alloc | apply Kd.R_drewN | apply Kd.R_drew)); exact HO_31.out⟩, ⟨by repeat (first | (with_reducible first | exact HB.out | apply below_alloc | apply pw_below_drewN | apply below_drew1) | exact HB.out)⟩⟩
                              · rw [if_neg c34] at H
                                exact absurd H (by simp)
                            · rw [if_neg c29] at H
                              exact absurd H (by simp)
                          · rw [if_neg c28] at H
                            exact absurd H (by simp)
                        · rw [if_neg c27] at H
                          exact absurd H (by simp)
                      · rw [if_neg c25] at H
                        exact absurd H (by simp)
                    · rw [if_neg c24] at H
                      exact absurd H (by simp)
                  · rw [if_neg c23] at H
                    exact absurd H (by simp)
          · rw [if_neg c14] at H
            exact absurd H (by simp)
        · rw [if_neg c13] at H
          exact absurd H (by simp)
      · rw [if_neg c12] at H
        have c12b0 : decide (x33_1 < (y124.length : Int)) = false := decide_eq_false c12
        clear c12
        have HV_ := Aside0.mk (Option.some.inj H)
        clear H
        go_wp2
        go_ret
        exact ⟨by first | exact congrArg (fun b_ => Ending.returned (Value.bool b_)) HV_.out | (have hv_ := HV_.out; simp only [Bool.and_eq_true, beq_iff_eq] at hv_; simp [hv_]; done) | (have hv_ := HV_.out; simp at hv_; simp [*]; done) | rfl | (simp [errW_none, errW_some] <;> rfl) | (simp [*, errW_none, errW_some] <;> rfl), by repeat (first | (with_reducible first | exact HB.out | apply below_alloc | apply pw_below_drewN | apply below_drew1) | exact HB.out)⟩

/-- THE ONE PURE STATEMENT of careenlaw01_VarintTells: yours. -/
def careenlaw01_VarintTells.Pure : Prop := ∀ (a0 : Int) (a1 : ByteArray) (a2 : Int) (a3 : ByteArray), (Lit.int .i64 a0).wf = true → a1.size ≤ 140737488351232 → (Lit.int .i64 a2).wf = true → a3.size ≤ 140737488351232 → ∃ k, careenlaw01_VarintTells.f k a0 a1 a2 a3 = some true
theorem careenlaw01_VarintTells.walk (P : careenlaw01_VarintTells.Pure) (a0 : Int) (a1 : ByteArray) (a2 : Int) (a3 : ByteArray) (w : World) (w0 : (Lit.int .i64 a0).wf = true) (w1 : a1.size ≤ 140737488351232) (w2 : (Lit.int .i64 a2).wf = true) (w3 : a3.size ≤ 140737488351232) :
    Calls Try.prog 3 #[.int .i64 a0, .string a1, .int .i64 a2, .string a3] w fun e w' => e = .returned (.bool true) ∧ Below w.heap.size w w' := by
  obtain ⟨k, h⟩ := P a0 a1 a2 a3 w0 w1 w2 w3
  refine (careenlaw01_VarintTells.calls k a0 a1 a2 a3 w h).mono ?_
  rintro e w' ⟨rfl, hd⟩
  exact ⟨rfl, hd⟩

end Go.Proofs.Ytdoehfppncgieaa.PAll
