/- The walk of the law SumChanged: the conversion of a text to bytes, four stores, the conversion back, two sums. -/
import Derived.Test.YtimodgajmcmkpaaPAllx1
import Derived.Test.YtimodgajmcmkpaaSums
import Derived.LoopN
import Derived.Deep.RegionWith
import Derived.Lib.ConvBytes
namespace Go.Proofs.Ytimodgajmcmkpaa.Changed
open Go.RowKit Go.Proofs.YtimodgajmcmkpaaW.PrintWords Go.Proofs.YtimodgajmcmkpaaW.PrintLast Go.Proofs.YtimodgajmcmkpaaW.PrintMore Go.Proofs.Ytimodgajmcmkpaa.PAll Go.Proofs.Ytimodgajmcmkpaa.Base Go.Proofs.Ytimodgajmcmkpaa.Crc Go.Proofs.Ytimodgajmcmkpaa.Sums
/-- Block g begins with these bytes, which may be written. -/
def Row (W : World) (g : Nat) (xs : List Int) : Prop := ∀ j, j < xs.length → W.cell? ⟨g, j, none⟩ = some (.int .u8 (xs.getD j 0)) ∧ W.frozen? ⟨g, j, none⟩ = false
theorem Row.set {W : World} {g : Nat} {xs : List Int} (h : Row W g xs) (i : Nat) (hi : i < xs.length) (v : Int) : Row (W.setCell ⟨g, i, none⟩ (.int .u8 v)) g (xs.set i v) := by
  intro j hj
  rw [List.length_set] at hj
  rw [World.frozen?_setCell, List.getD_eq_getElem?_getD, List.getElem?_set]
  refine ⟨?_, (h j hj).2⟩
  by_cases e : i = j
  · subst e
    rw [if_pos rfl, if_pos hi]
    exact World.cell?_setCell_same _ _ _ (h i hi).1
  · rw [if_neg e, World.cell?_setCell_other _ _ _ _ (by simp), ← List.getD_eq_getElem?_getD]
    exact (h j hj).1
theorem Row.drew {W : World} {g : Nat} {xs : List Int} (h : Row W g xs) : Row W.drew g xs := h
theorem Row.drewN {W : World} {g : Nat} {xs : List Int} (h : Row W g xs) (n : Nat) : Row (W.drewN n) g xs := h
def nums (t : ByteArray) : List Int := t.toList.map fun b => (b.toNat : Int)
theorem conv_facts (w1 : World) (t : ByteArray) : Row (Lib.bytesWorld w1 5 t) w1.heap.size (nums t) ∧ ∀ B, B ≤ w1.heap.size → Below B w1 (Lib.bytesWorld w1 5 t) := by
  have hz : (Lib.bytesCells w1 5 t).size = t.size + (grownCap w1 t.size 0 5 - t.size) := by
    unfold Lib.bytesCells
    rw [Array.size_append, Array.size_map, Array.size_replicate]; rfl
  constructor
  · intro j hj
    unfold nums at hj
    rw [List.length_map, ← tl_size] at hj
    constructor
    · rw [Lib.bytesWorld_cell w1 5 t j hj]
      unfold nums
      rw [List.getD_eq_getElem?_getD, List.getD_eq_getElem?_getD, List.getElem?_map, tl_eq, List.getElem?_eq_getElem (by rw [Array.length_toList]; exact hj)]
      rfl
    · unfold World.frozen?
      rw [Lib.bytesWorld_at_new]
      simp
      omega
  · intro B hB
    exact ⟨rfl, rfl, rfl, by rw [Lib.bytesWorld_size]; omega, fun k hk => Lib.bytesWorld_at_old w1 5 t k (by omega)⟩
theorem bits_xor_u8 (a b : UInt8) : Go.bits .xor .u8 (a.toNat : Int) (b.toNat : Int) = ((a ^^^ b).toNat : Int) := by
  have e : Go.bits .xor .u8 (a.toNat : Int) (b.toNat : Int) = IntKind.u8.wrap (((BitVec.ofInt 8 (a.toNat : Int)) ^^^ (BitVec.ofInt 8 (b.toNat : Int))).toNat : Int) := rfl
  have e1 : BitVec.ofInt 8 (a.toNat : Int) = a.toBitVec := ofInt_nat a.toBitVec
  have e2 : BitVec.ofInt 8 (b.toNat : Int) = b.toBitVec := ofInt_nat b.toBitVec
  rw [e, e1, e2, IntKind.wrap_u8]
  have := (a.toBitVec ^^^ b.toBitVec).isLt
  show (((a.toBitVec ^^^ b.toBitVec).toNat : Int)) % 256 = ((a.toBitVec ^^^ b.toBitVec).toNat : Int)
  omega
def numsL (l : List UInt8) : List Int := l.map fun b => (b.toNat : Int)
theorem numsL_at (l : List UInt8) (i : Nat) (h : i < l.length) : (numsL l)[i]?.getD 0 = (l[i].toNat : Int) := by
  unfold numsL
  rw [List.getElem?_map, List.getElem?_eq_getElem h]; rfl
theorem byte_int (x i : Nat) : ((byte x i).toNat : Int) = ((x / 256 ^ i % 256 : Nat) : Int) := by simp [byte]
theorem numsL_set (l : List UInt8) (i : Nat) (h : i < l.length) (x k : Nat) (v : Int) (hv : v = ((byte x k).toNat : Int)) : (numsL l).set i (Go.bits .xor .u8 ((numsL l)[i]?.getD 0) v) = numsL (l.set i (l[i] ^^^ byte x k)) := by
  rw [numsL_at l i h, hv, bits_xor_u8]
  unfold numsL
  rw [List.map_set]
theorem numsL_back (l : List UInt8) : (strOfNums (numsL l)).toList = l := by
  rw [tl_nums]
  unfold numsL
  rw [List.map_map]
  have e : ((fun n : Int => UInt8.ofNat n.toNat) ∘ fun b : UInt8 => (b.toNat : Int)) = id := by
    funext b
    simp
  rw [e, List.map_id]
/-- Four bytes that stand side by side are turned: the sums are the same if the number is zero, and then alone. -/
theorem four_sets (l : List UInt8) (k x : Nat) (hk : k + 4 ≤ l.length) (hx : x < 4294967296) (ys1 ys2 ys3 ys4 : List Int)
    (h1 : (numsL l).set k (Go.bits .xor .u8 ((numsL l)[k]?.getD 0) ((x : Int) % 256)) = ys1)
    (h2 : ys1.set (k + 1) (Go.bits .xor .u8 (ys1[k + 1]?.getD 0) ((x : Int) / 256 % 256)) = ys2)
    (h3 : ys2.set (k + 2) (Go.bits .xor .u8 (ys2[k + 2]?.getD 0) ((x : Int) / 65536 % 256)) = ys3)
    (h4 : ys3.set (k + 3) (Go.bits .xor .u8 (ys3[k + 3]?.getD 0) ((x : Int) / 16777216 % 256)) = ys4) :
    sum (strOfNums ys4).toList = sum l ↔ x = 0 := by
  obtain ⟨p, q, b0, b1, b2, b3, e, hp⟩ : ∃ p q b0 b1 b2 b3, l = p ++ b0 :: b1 :: b2 :: b3 :: q ∧ p.length = k := by
    refine ⟨l.take k, l.drop (k + 4), l[k], l[k + 1], l[k + 2], l[k + 3], ?_, by rw [List.length_take]; omega⟩
    rw [← List.drop_eq_getElem_cons, ← List.drop_eq_getElem_cons, ← List.drop_eq_getElem_cons, ← List.drop_eq_getElem_cons, List.take_append_drop]
  subst e
  subst hp
  rw [numsL_set _ _ (by simp) x 0 _ (by rw [byte_int]; omega)] at h1
  subst h1
  rw [numsL_set _ _ (by simp) x 1 _ (by rw [byte_int]; omega)] at h2
  subst h2
  rw [numsL_set _ _ (by simp) x 2 _ (by rw [byte_int]; omega)] at h3
  subst h3
  rw [numsL_set _ _ (by simp) x 3 _ (by rw [byte_int]; omega)] at h4
  subst h4
  rw [numsL_back]
  have key := sum_changed p q b0 b1 b2 b3 x hx
  rw [← key]
  simp
set_option maxHeartbeats 8000000 in
set_option maxRecDepth 100000 in
theorem walk (s : ByteArray) (a b : Int) (w : World) (hs : s.size ≤ 140737488351232) (ha : (Lit.int .i64 a).wf = true) (hb : (Lit.int .i64 b).wf = true) :
    Calls Try.prog 4 #[.string s, .int .i64 a, .int .i64 b] w fun e w' => e = .returned (.bool true) ∧ Below w.heap.size w w' := by
  have hcv := fun (W : World) (t : ByteArray) => Lib.run_convert_string_bytes (P := Try.prog) W 9 27 5 t (u := .string) Try.underlying9 Try.underlying27 Try.underlying5
  by_cases g : (s.size : Int) > 3000
  go_enter Try.func4, Try.ntmps4
  go_upto_region 5 with (first | (go_at_call 9; (refine (careenlaw05_awake.calls 40000 true _ (awake_tells 40000 (by decide))).mono ?_); rintro e w1 ⟨rfl, hb1⟩))
  have hu : (s.extract 0 3000).size = min 3000 s.size := by rw [ByteArray.size_extract]; omega
  rw [← hu]
  have h3 : (s.extract 0 3000).size ≤ 3000 := by omega
  clear hu
  generalize s.extract 0 3000 = u at h3 ⊢
  rotate_left
  go_enter Try.func4, Try.ntmps4
  go_upto_region 5 with (first | (go_at_call 9; (refine (careenlaw05_awake.calls 40000 true _ (awake_tells 40000 (by decide))).mono ?_); rintro e w1 ⟨rfl, hb1⟩))
  have h3 : s.size ≤ 3000 := by omega
  revert h3
  generalize s = u
  intro h3
  rotate_left
  all_goals
    obtain ⟨R0, B0⟩ := conv_facts w1 (u ++ { data := #[97, 98, 99, 100] })
    have hB2 := hb1.trans (B0 w.heap.size hb1.size)
    generalize Lib.bytesWorld w1 5 (u ++ { data := #[97, 98, 99, 100] }) = W2 at R0 B0 hB2 ⊢
    generalize grownCap w1 (u.size + 4) 0 5 = cap
    have hl : (nums (u ++ { data := #[97, 98, 99, 100] })).length = u.size + 4 := by
      unfold nums
      rw [List.length_map, ← tl_size, ByteArray.size_append]; rfl
    have hpos : (0 : Int) < (u.size : Int) + 4 - 3 := by omega
    obtain ⟨p0, p1⟩ := pickN_lt (c := a) (n := (u.size : Int) + 4 - 3) hpos
    obtain ⟨q0, q1⟩ := pickN_lt (c := b) (n := 4294967296) (by decide)
    have P1 := pick_eq a ((u.size : Int) + 4 - 3) ha hpos
    have P2 := pick_eq b 4294967296 hb (by decide)
    obtain ⟨kk, ek⟩ := Int.eq_ofNat_of_zero_le p0
    obtain ⟨x, ex⟩ := Int.eq_ofNat_of_zero_le q0
    rw [ek] at P1 p1
    rw [ex] at P2 q1
    clear ek ex p0 q0 ha hb hcv
    have hk : kk + 4 ≤ u.size + 4 := by omega
    have HX : Aside0 (x < 4294967296) := ⟨by omega⟩
    have H1 := Aside0.mk P1
    have H2 := Aside0.mk P2
    have HR := Aside0.mk R0
    have HB := Aside0.mk B0
    have HC := Aside0.mk hB2
    clear P1 P2 R0 B0 hB2
    go_wp2_with (first | (go_at_call 14; (with_reducible refine (careenlaw05_pick.calls a ((u.size : Int) + 4 - 3) (kk : Int) _ H1.out).mono ?_); rintro e w2 ⟨rfl, ⟨nd1, rfl⟩⟩) | (go_at_call 14; (with_reducible refine (careenlaw05_pick.calls b 4294967296 (x : Int) _ H2.out).mono ?_); rintro e w2 ⟨rfl, ⟨nd2, rfl⟩⟩))
    have R1 := HR.out.drewN (nd1 + nd2)
    have hB3 : Below w.heap.size w (W2.drewN (nd1 + nd2)) := pw_below_drewN HC.out _
    clear HR HB HC H1 H2 p1 q1 hpos
    generalize W2.drewN (nd1 + nd2) = W3 at R1 hB3 ⊢
    generalize hxs : nums (u ++ { data := #[97, 98, 99, 100] }) = xs at R1 hl
    refine wp_loop_rounds 5 ?_
    have c1 := (R1 kk (by omega)).1
    have f1 := (R1 kk (by omega)).2
    have HR1 := Aside0.mk R1
    have HB3 := Aside0.mk hB3
    clear R1 hB3
    rw [rounds_succ]; go_wp2_with (fail)
    go_region
    go_wp2_with (fail)
    clear c1 f1
    have HR2 : Aside0 (Row (W3.setCell ⟨w1.heap.size, kk, none⟩ (.int .u8 (Go.bits .xor .u8 (xs[kk]?.getD 0) ((x : Int) % 256)))).drew w1.heap.size (xs.set (kk) (Go.bits .xor .u8 (xs[kk]?.getD 0) ((x : Int) % 256)))) := ⟨(HR1.out.set (kk) (by omega) _).drew⟩
    have HB4 : Aside0 (Below w.heap.size w (W3.setCell ⟨w1.heap.size, kk, none⟩ (.int .u8 (Go.bits .xor .u8 (xs[kk]?.getD 0) ((x : Int) % 256)))).drew) := ⟨(HB3.out.setCell (p := ⟨w1.heap.size, kk, none⟩) hb1.size _).drew⟩
    have hl1 : (xs.set (kk) (Go.bits .xor .u8 (xs[kk]?.getD 0) ((x : Int) % 256))).length = u.size + 4 := by rw [List.length_set, hl]
    generalize (W3.setCell ⟨w1.heap.size, kk, none⟩ (.int .u8 (Go.bits .xor .u8 (xs[kk]?.getD 0) ((x : Int) % 256)))).drew = W4 at HR2 HB4 ⊢
    generalize hy1 : xs.set (kk) (Go.bits .xor .u8 (xs[kk]?.getD 0) ((x : Int) % 256)) = ys1 at HR2 hl1
    clear HR1 HB3 hl
    have c2 := (HR2.out (kk + 1) (by omega)).1
    have f2 := (HR2.out (kk + 1) (by omega)).2
    rw [rounds_succ]; go_wp2_with (fail)
    go_region
    go_wp2_with (fail)
    clear c2 f2
    have HR3 : Aside0 (Row (W4.setCell ⟨w1.heap.size, kk + 1, none⟩ (.int .u8 (Go.bits .xor .u8 (ys1[kk + 1]?.getD 0) ((x : Int) / 256 % 256)))).drew w1.heap.size (ys1.set (kk + 1) (Go.bits .xor .u8 (ys1[kk + 1]?.getD 0) ((x : Int) / 256 % 256)))) := ⟨(HR2.out.set (kk + 1) (by omega) _).drew⟩
    have HB5 : Aside0 (Below w.heap.size w (W4.setCell ⟨w1.heap.size, kk + 1, none⟩ (.int .u8 (Go.bits .xor .u8 (ys1[kk + 1]?.getD 0) ((x : Int) / 256 % 256)))).drew) := ⟨(HB4.out.setCell (p := ⟨w1.heap.size, kk + 1, none⟩) hb1.size _).drew⟩
    have hl2 : (ys1.set (kk + 1) (Go.bits .xor .u8 (ys1[kk + 1]?.getD 0) ((x : Int) / 256 % 256))).length = u.size + 4 := by rw [List.length_set, hl1]
    generalize (W4.setCell ⟨w1.heap.size, kk + 1, none⟩ (.int .u8 (Go.bits .xor .u8 (ys1[kk + 1]?.getD 0) ((x : Int) / 256 % 256)))).drew = W5 at HR3 HB5 ⊢
    generalize hy2 : ys1.set (kk + 1) (Go.bits .xor .u8 (ys1[kk + 1]?.getD 0) ((x : Int) / 256 % 256)) = ys2 at HR3 hl2
    clear HR2 HB4 hl1
    have c3 := (HR3.out (kk + 2) (by omega)).1
    have f3 := (HR3.out (kk + 2) (by omega)).2
    rw [rounds_succ]; go_wp2_with (fail)
    go_region
    go_wp2_with (fail)
    clear c3 f3
    have HR4 : Aside0 (Row (W5.setCell ⟨w1.heap.size, kk + 2, none⟩ (.int .u8 (Go.bits .xor .u8 (ys2[kk + 2]?.getD 0) ((x : Int) / 65536 % 256)))).drew w1.heap.size (ys2.set (kk + 2) (Go.bits .xor .u8 (ys2[kk + 2]?.getD 0) ((x : Int) / 65536 % 256)))) := ⟨(HR3.out.set (kk + 2) (by omega) _).drew⟩
    have HB6 : Aside0 (Below w.heap.size w (W5.setCell ⟨w1.heap.size, kk + 2, none⟩ (.int .u8 (Go.bits .xor .u8 (ys2[kk + 2]?.getD 0) ((x : Int) / 65536 % 256)))).drew) := ⟨(HB5.out.setCell (p := ⟨w1.heap.size, kk + 2, none⟩) hb1.size _).drew⟩
    have hl3 : (ys2.set (kk + 2) (Go.bits .xor .u8 (ys2[kk + 2]?.getD 0) ((x : Int) / 65536 % 256))).length = u.size + 4 := by rw [List.length_set, hl2]
    generalize (W5.setCell ⟨w1.heap.size, kk + 2, none⟩ (.int .u8 (Go.bits .xor .u8 (ys2[kk + 2]?.getD 0) ((x : Int) / 65536 % 256)))).drew = W6 at HR4 HB6 ⊢
    generalize hy3 : ys2.set (kk + 2) (Go.bits .xor .u8 (ys2[kk + 2]?.getD 0) ((x : Int) / 65536 % 256)) = ys3 at HR4 hl3
    clear HR3 HB5 hl2
    have c4 := (HR4.out (kk + 3) (by omega)).1
    have f4 := (HR4.out (kk + 3) (by omega)).2
    rw [rounds_succ]; go_wp2_with (fail)
    go_region
    go_wp2_with (fail)
    clear c4 f4
    have HR5 : Aside0 (Row (W6.setCell ⟨w1.heap.size, kk + 3, none⟩ (.int .u8 (Go.bits .xor .u8 (ys3[kk + 3]?.getD 0) ((x : Int) / 16777216 % 256)))).drew w1.heap.size (ys3.set (kk + 3) (Go.bits .xor .u8 (ys3[kk + 3]?.getD 0) ((x : Int) / 16777216 % 256)))) := ⟨(HR4.out.set (kk + 3) (by omega) _).drew⟩
    have HB7 : Aside0 (Below w.heap.size w (W6.setCell ⟨w1.heap.size, kk + 3, none⟩ (.int .u8 (Go.bits .xor .u8 (ys3[kk + 3]?.getD 0) ((x : Int) / 16777216 % 256)))).drew) := ⟨(HB6.out.setCell (p := ⟨w1.heap.size, kk + 3, none⟩) hb1.size _).drew⟩
    have hl4 : (ys3.set (kk + 3) (Go.bits .xor .u8 (ys3[kk + 3]?.getD 0) ((x : Int) / 16777216 % 256))).length = u.size + 4 := by rw [List.length_set, hl3]
    generalize (W6.setCell ⟨w1.heap.size, kk + 3, none⟩ (.int .u8 (Go.bits .xor .u8 (ys3[kk + 3]?.getD 0) ((x : Int) / 16777216 % 256)))).drew = W7 at HR5 HB7 ⊢
    generalize hy4 : ys3.set (kk + 3) (Go.bits .xor .u8 (ys3[kk + 3]?.getD 0) ((x : Int) / 16777216 % 256)) = ys4 at HR5 hl4
    clear HR4 HB6 hl3
    have hcb : ∀ W : World, Row W w1.heap.size ys4 → (convert 27 9 (.slice (some ⟨w1.heap.size, 0, none⟩) (u.size + 4) cap)).run Try.prog W = .ok (.string (strOfNums ys4)) W := fun W hW =>
      run_convert_bytes_arg W 27 5 Try.underlying27 Try.underlying5 w1.heap.size 0 (u.size + 4) cap ys4 hl4 (fun i hi => by rw [Nat.zero_add]; exact (hW i (by omega)).1) 9 Try.underlying9
    have hc7 := hcb W7 HR5.out
    have htl : (u ++ { data := #[97, 98, 99, 100] } : ByteArray).toList.length = u.size + 4 := by rw [← tl_size, ByteArray.size_append]; rfl
    have hz4 : (strOfNums ys4).size = u.size + 4 := by rw [tl_size, tl_nums, List.length_map, hl4]
    have hzt : (u ++ { data := #[97, 98, 99, 100] } : ByteArray).size = u.size + 4 := by rw [ByteArray.size_append]; rfl
    have T1 := Aside0.mk (of_tells (strOfNums ys4) (by omega) 100000 (by omega))
    have T2 := Aside0.mk (of_tells (u ++ { data := #[97, 98, 99, 100] }) (by omega) 100000 (by omega))
    have hS := four_sets (u ++ { data := #[97, 98, 99, 100] } : ByteArray).toList kk x (by omega) HX.out ys1 ys2 ys3 ys4 (by rw [← hxs] at hy1; exact hy1) hy2 hy3 hy4
    clear hxs hy1 hy2 hy3 hy4 hcb hz4 hzt htl hl4
    generalize sum (strOfNums ys4).toList = S1 at hS T1
    generalize sum (u ++ { data := #[97, 98, 99, 100] } : ByteArray).toList = S2 at hS T2
    have hS2 : ((S1 : Int) == (S2 : Int)) = ((x : Int) == 0) := by
      by_cases h : x = 0
      · rw [hS.mpr h, h]; simp
      · have : ¬ S1 = S2 := fun e => h (hS.mp e)
        rw [beq_eq_false_iff_ne.mpr (by omega), beq_eq_false_iff_ne.mpr (by omega)]
    clear hS
    rw [rounds_succ]; go_wp2_with (first | (go_at_call 10; (with_reducible refine (sum_Of.calls 100000 (strOfNums ys4) (S1 : Int) _ T1.out).mono ?_); rintro e w9 ⟨rfl, ⟨nd3, rfl⟩⟩) | (go_at_call 10; (with_reducible refine (sum_Of.calls 100000 (u ++ { data := #[97, 98, 99, 100] }) (S2 : Int) _ T2.out).mono ?_); rintro e w9 ⟨rfl, ⟨nd4, rfl⟩⟩))
    refine bodyPost_ret (v := .bool true) (by simp [results, Try.results4, go_sem]) rfl ⟨rfl, ?_⟩
    exact pw_below_drewN HB7.out _
end Go.Proofs.Ytimodgajmcmkpaa.Changed
