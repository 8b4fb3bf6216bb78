/- The walk of the law MailMixed: letters are counted into an array of twelve numbers, and counted out again as they are taken. -/
import Derived.Test.YtmgfkpeadkfioaaMixp
import Derived.Test.YtmgfkpeadkfioaaPAllx4
import Derived.LoopN
import Derived.StillTailTactics
import Derived.Deep.RegionWith
namespace Go.Proofs.Ytmgfkpeadkfioaa.Mix
open Go.RowKit Go.Proofs.YtmgfkpeadkfioaaW.PrintWords Go.Proofs.YtmgfkpeadkfioaaW.PrintLast Go.Proofs.YtmgfkpeadkfioaaW.PrintMore Go.Proofs.Ytmgfkpeadkfioaa.PAll Go.Proofs.Ytmgfkpeadkfioaa.Base Go.Proofs.Ytmgfkpeadkfioaa.Mails
set_option linter.unusedVariables false
set_option linter.unusedSimpArgs false
theorem blk_num {W : World} {g : Nat} {M : List S23} (h : W.heap[g]? = some (.cells (cells M) 42 (0, 0))) (a : Nat) (ha : a < 12) : W.cell? ⟨g, a, none⟩ = some (.int .i64 (num M a)) := (blk_cell h a).trans (cells_at M a ha)
theorem blk_turn {W : World} {g : Nat} {M M' : List S23} (h : W.heap[g]? = some (.cells (cells M) 42 (0, 0))) (a : Nat) (v : Int) (ha : a < 12) (h1 : num M' a = v) (h2 : ∀ j, j ≠ a → num M' j = num M j) : (W.setCell ⟨g, a, none⟩ (.int .i64 v)).heap[g]? = some (.cells (cells M') 42 (0, 0)) := blk_put h a _ (cells_set M M' a v ha h1 h2)
theorem eq_zero (W : World) : (Op.equalIn 10000 42 (.agg #[.int .i64 0, .int .i64 0, .int .i64 0, .int .i64 0, .int .i64 0, .int .i64 0, .int .i64 0, .int .i64 0, .int .i64 0, .int .i64 0, .int .i64 0, .int .i64 0]) (.agg #[.int .i64 0, .int .i64 0, .int .i64 0, .int .i64 0, .int .i64 0, .int .i64 0, .int .i64 0, .int .i64 0, .int .i64 0, .int .i64 0, .int .i64 0, .int .i64 0])).run Try.prog W = .ok true W := by kernel_rfl
set_option maxHeartbeats 16000000 in
set_option maxRecDepth 100000 in
theorem walk (A0 : Option Addr) (c0 : Nat) (l0 : List S45) (A1 : Option Addr) (c1 : Nat) (l1 : List Int) (w : World) (hr0_ : Kd.C k45 w A0 l0.length l0) (hc0_ : l0.length ≤ c0) (hr1_ : Kd.C (Kd.int .i64) w A1 l1.length l1) (hc1_ : l1.length ≤ c1) (haw_ : careenlaw11_awake.f 100 = some true) (L : List S23) (hL_ : careenlaw11_Letters.f 100 l0 = some L) (hg_ : ∀ m ∈ L, Good m) (hn : L.length ≤ 30) (hl1 : l1.length * 8 ≤ 140737488351232) (hp_ : ∀ (i n : Nat), i < l1.length → 0 < n → ∃ q : Nat, q < n ∧ careenlaw11_pick.f (rd l1 (i : Int)) (n : Int) = some (q : Int)) :
    Calls Try.prog 6 #[.slice A0 l0.length c0, .slice A1 l1.length c1] w fun e w' => e = .returned (.bool true) ∧ Below w.heap.size w w' := by
  have hr0 := Aside0.mk hr0_
  have hc0 := Aside0.mk hc0_
  have hr1 := Aside0.mk hr1_
  have hc1 := Aside0.mk hc1_
  have haw := Aside0.mk haw_
  have hL := Aside0.mk hL_
  have hg := Aside0.mk hg_
  have hp := Aside0.mk hp_
  clear hr0_ hc0_ hr1_ hc1_ haw_ hL_ hg_ hp_
  have HB := Aside0.mk (Below.refl w.heap.size w)
  go_enter Try.func6, Try.ntmps6
  go_upto_region 3 with (first | (go_at_call 7; (with_reducible refine (careenlaw11_awake.calls 100 true _ haw.out).mono ?_); rintro e w1 ⟨rfl, hb⟩; have n0_ := Aside0.mk (below_step (by repeat (first | (with_reducible first | exact HB.out | apply below_alloc | apply pw_below_drewN | apply below_drew1) | exact HB.out)) hb); clear HB; have HB := n0_; clear n0_ hb) | (go_at_call 11; (with_reducible refine (careenlaw11_Letters.calls 100 A0 c0 l0 L _ ?s1 hc0.out hL.out).mono ?_); (case s1 => exact Kd.C_below hr0.out (by repeat (first | (with_reducible first | exact HB.out | apply below_alloc | apply pw_below_drewN | apply below_drew1) | exact HB.out))); rintro e w2 ⟨v0, rfl, ho, hb⟩; have HO2 := Aside0.mk (Kd.R_lower ho (below_size (by repeat (first | (with_reducible first | exact HB.out | apply below_alloc | apply pw_below_drewN | apply below_drew1) | exact HB.out)))); have n0_ := Aside0.mk (below_step (by repeat (first | (with_reducible first | exact HB.out | apply below_alloc | apply pw_below_drewN | apply below_drew1) | exact HB.out)) hb); clear HB; have HB := n0_; clear n0_ hb))
  obtain ⟨A, c, eA⟩ := Kd.R_slice ho
  subst eA
  obtain ⟨_, hcl, hC⟩ := Kd.R_reads' ho
  clear ho
  have HC := Aside0.mk hC
  have HL := Aside0.mk hcl
  clear hC hcl
  have HW := Aside0.mk (Below.refl w2.heap.size w2)
  have HG := Aside0.mk HB.out.size
  go_wp2_with (fail)
  go_loopw [8] (fun v wr => ∃ j : Nat, j ≤ L.length ∧ v = .int .i64 (j : Int) ∧ Aside0 (Below w.heap.size w wr) ∧ Aside0 (Below w2.heap.size w2 wr) ∧ Aside0 (wr.heap[w2.heap.size]? = some (.cells (cells (L.take j)) 42 (0, 0)))) (fun v _ => L.length - (intOf v).toNat)
  case atStart => exact ⟨0, Nat.zero_le _, rfl, ⟨(by repeat (first | (with_reducible first | exact HB.out | apply below_alloc | apply pw_below_drewN | apply below_drew1) | exact HB.out))⟩, ⟨(by repeat (first | (with_reducible first | exact HW.out | apply below_alloc | apply pw_below_drewN | apply below_drew1) | exact HW.out))⟩, ⟨by first | exact blk_new w2 _ | (rw [List.take_zero, cells_nil]; exact blk_new w2 _)⟩⟩
  case round =>
    obtain ⟨j, hj, rfl, HB, HW, HK⟩ := hrel
    by_cases hlt : j < L.length
    · have q0 : (0 : Int) ≤ (j : Int) := Int.natCast_nonneg _
      have q1 : (j : Int) < (L.length : Int) := Int.ofNat_lt.mpr hlt
      have q2 : (L.length : Int) ≤ 30 := Int.ofNat_le.mpr hn
      obtain ⟨ad, eA, x0, x1, x2⟩ := at_T23 (Kd.C_below HC.out HW.out) (j : Int) q0 q1
      subst eA
      clear x0
      rw [Int.toNat_natCast] at x1 x2
      have gd := hg.out _ (List.getElem_mem hlt)
      rw [rd23 L j hlt] at x1 x2
      obtain ⟨t, b, et, eb, ht, hb4, ei⟩ := letter_nums gd
      rw [et] at x1
      have s1 : num (L.take (j + 1)) (t * 4 + b) = num (L.take j) (t * 4 + b) + 1 := by rw [List.take_succ_eq_append_getElem hlt, num_snoc, if_pos ei.symm]
      have s2 : ∀ i, i ≠ t * 4 + b → num (L.take (j + 1)) i = num (L.take j) i := fun i hi => by rw [List.take_succ_eq_append_getElem hlt, num_snoc, if_neg (by rw [← ei]; exact fun e => hi e.symm)]; omega
      have HS1 := Aside0.mk s1
      have HS2 := Aside0.mk s2
      have HE := Aside0.mk eb
      have nb := num_bound (L.take j) (t * 4 + b)
      have nl : ((L.take j).length : Int) ≤ 30 := by rw [List.length_take]; omega
      have n0 : 0 ≤ num (L.take j) (t * 4 + b) := nb.1
      have n1 : num (L.take j) (t * 4 + b) ≤ 30 := by omega
      have cc := blk_num HK.out (t * 4 + b) (by omega)
      have cf := blk_frozen HK.out (t * 4 + b)
      clear s1 s2 et ei nb nl gd
      generalize hz : num (L.take j) (t * 4 + b) = z at HS1 n0 n1 cc
      have HZ := Aside0.mk hz
      clear hz
      generalize (L[j]).f2 = dd at x2 eb HE
      have t0 : (0 : Int) ≤ (t : Int) := Int.natCast_nonneg _
      have t1 : (t : Int) < 3 := by omega
      have b0 : (0 : Int) ≤ (b : Int) := Int.natCast_nonneg _
      have b1 : (b : Int) < 4 := by omega
      go_upto_region 7 with (fail)
      go_still_tail 18, (by kernel_rfl)
      change wpList _ _ _ _ _ wr.drew
      clear cc cf x1 x2 eb
      have n0_ : Aside0 (Below w.heap.size w wr.drew) := ⟨below_drew1 HB.out⟩
      have n1_ : Aside0 (Below w2.heap.size w2 wr.drew) := ⟨below_drew1 HW.out⟩
      have n2_ : Aside0 (wr.drew.heap[w2.heap.size]? = some (.cells (cells (L.take j)) 42 (0, 0))) := ⟨blk_drew HK.out⟩
      clear HB HW HK
      generalize wr.drew = W3 at n0_ n1_ n2_ ⊢
      have HB := n0_
      have HW := n1_
      have HK := n2_
      clear n0_ n1_ n2_
      have cc := blk_num HK.out (t * 4 + b) (by omega)
      have cf := blk_frozen HK.out (t * 4 + b)
      rw [HZ.out] at cc
      go_wp2_with (fail)
      go_roundw
      case rel => exact ⟨j + 1, by omega, by go_num, ⟨below_set HB.out HG.out⟩, ⟨HW.out.setCell (p := ⟨w2.heap.size, t * 4 + b, none⟩) (Nat.le_refl _) _⟩, ⟨blk_turn HK.out (t * 4 + b) (z + 1) (by omega) HS1.out HS2.out⟩⟩
      case measure => simp [intOf]; omega
    · obtain rfl : j = L.length := by omega
      have HO := Aside0.mk (Kd.R_below HO2.out HW.out)
      have HK0 := HK.out
      rw [List.take_length] at HK0
      have HKK := Aside0.mk HK0
      clear HK HK0 HO2 HC
      generalize w2.heap.size = g at HG HKK ⊢
      clear hlt hj HW
      have e0 : decide ((L.length : Int) < (L.length : Int)) = false := decide_eq_false (by omega)
      go_wp2_with (fail)
      go_loopw [10, 6] (fun i v wr => ∃ (n : Nat) (M : List S23) (A' : Option Addr) (c' : Nat), n + M.length = L.length ∧ i = .int .i64 (n : Int) ∧ v = .slice A' M.length c' ∧ Aside0 (∀ m ∈ M, Good m) ∧ Aside0 (Below w.heap.size w wr) ∧ Aside0 (wr.heap[g]? = some (.cells (cells M) 42 (0, 0))) ∧ Aside0 (Kd.R k23 23 wr w.heap.size (fun _ => True) (.slice A' M.length c') M)) (fun i _ _ => L.length - (intOf i).toNat)
      case atStart => exact ⟨0, L, _, _, Nat.zero_add _, rfl, rfl, hg, ⟨(by repeat (first | (with_reducible first | exact HB.out | apply below_alloc | apply pw_below_drewN | apply below_drew1) | exact HB.out))⟩, HKK, HO⟩
      case round =>
        clear HO HKK HB e0
        obtain ⟨n, M, A', c', hnM, rfl, rfl, HGD, HB, HK, HO⟩ := hrel
        by_cases hlt : n < L.length
        · have q0 : (0 : Int) ≤ (n : Int) := Int.natCast_nonneg _
          have q1 : (n : Int) < (L.length : Int) := Int.ofNat_lt.mpr hlt
          have q2 : (L.length : Int) ≤ 30 := Int.ofNat_le.mpr hn
          have m1 : (0 : Int) < (M.length : Int) := by omega
          have m2 : (M.length : Int) ≤ 30 := by omega
          by_cases hi : n < l1.length
          · have i1 : (n : Int) < (l1.length : Int) := Int.ofNat_lt.mpr hi
            obtain ⟨ad1, eA1, y1⟩ := Kd.at_int (Kd.C_below hr1.out HB.out) (n : Int) q0 i1
            subst eA1
            rw [Int.toNat_natCast] at y1
            obtain ⟨q, hq, hpq⟩ := hp.out n M.length hi (by omega)
            have HP := Aside0.mk hpq
            clear hpq
            have l1b : (l1.length : Int) ≤ 17592186043904 := by omega
            have qq0 : (0 : Int) ≤ (q : Int) := Int.natCast_nonneg _
            have qq1 : (q : Int) < (M.length : Int) := Int.ofNat_lt.mpr hq
            go_upto_region 15 with (first | (go_at_call 8; (with_reducible refine (careenlaw11_pick.calls (rd l1 (n : Int)) (M.length : Int) (q : Int) _ HP.out).mono ?_); rintro e w' ⟨rfl, ⟨nd, rfl⟩⟩; have n1_ := Aside0.mk (pw_below_drewN HB.out nd); have n2_ := Aside0.mk (blk_drewN HK.out nd); have n3_ := Aside0.mk (Kd.R_drewN HO.out nd); clear HB HK HO; have HB := n1_; have HK := n2_; have HO := n3_; clear n1_ n2_ n3_))
            have HT := Aside0.mk (take_eq M (by omega) q hq)
            rw [rd23 M q hq] at HT
            obtain ⟨t, b, et, eb, ht, hb4, ei⟩ := letter_nums (HGD.out _ (List.getElem_mem hq))
            rw [et] at HT
            have hgl := gone_len M q hq
            have s1 : num (gone M q) (t * 4 + b) = num M (t * 4 + b) - 1 := by rw [num_gone M q hq, if_pos ei.symm]
            have s2 : ∀ i, i ≠ t * 4 + b → num (gone M q) i = num M i := fun i hi => by rw [num_gone M q hq, if_neg (by rw [← ei]; exact fun e => hi e.symm)]; omega
            have HS1 := Aside0.mk s1
            have HS2 := Aside0.mk s2
            have HE := Aside0.mk eb
            have HD2 := Aside0.mk (good_gone HGD.out q)
            have nb := num_bound M (t * 4 + b)
            have n0 : 0 ≤ num M (t * 4 + b) := nb.1
            have n1 : num M (t * 4 + b) ≤ 30 := by omega
            clear s1 s2 et ei nb eb
            generalize hz : num M (t * 4 + b) = z at HS1 n0 n1
            have HZ := Aside0.mk hz
            clear hz
            generalize gone M q = M' at HT hgl HS1 HS2 HD2
            generalize (M[q]).f0 = m0 at HT
            generalize (M[q]).f2 = dd at HT HE
            go_upto_region 16 with (first | (go_at_call 12; (with_reducible refine (mail_Take.calls A' c' M (q : Int) m0 (t : Int) dd M' true _ ?s1 ?s2 HT.out).mono ?_); (case s1 => exact (Kd.R_reads' HO.out).2.2); (case s2 => exact (Kd.R_reads' HO.out).2.1); rintro e w3 ⟨v3, rfl, ho, hb⟩; have n1_ := Aside0.mk (Kd.R_lower ho (below_size (by repeat (first | (with_reducible first | exact HB.out | apply below_alloc | apply pw_below_drewN | apply below_drew1) | exact HB.out)))); have n2_ := Aside0.mk (below_step (by repeat (first | (with_reducible first | exact HB.out | apply below_alloc | apply pw_below_drewN | apply below_drew1) | exact HB.out)) hb); have n3_ := Aside0.mk (blk_below HK.out hb); clear HB HK HO ho hb; have HO := n1_; have HB := n2_; have HK := n3_; clear n1_ n2_ n3_))
            obtain ⟨A2, c2, e2⟩ := Kd.R_slice HO.out
            subst e2
            have hbx := blk_new w3 (.cells #[.int .i64 m0, .int .i64 (t : Int), .string dd] 23)
            have n1_ : Aside0 (Below w.heap.size w (w3.alloc (.cells #[.int .i64 m0, .int .i64 (t : Int), .string dd] 23))) := ⟨below_alloc HB.out _⟩
            have n2_ : Aside0 ((w3.alloc (.cells #[.int .i64 m0, .int .i64 (t : Int), .string dd] 23)).heap[g]? = some (.cells (cells M) 42 (0, 0))) := ⟨blk_alloc HK.out _⟩
            have n3_ : Aside0 (Kd.R k23 23 (w3.alloc (.cells #[.int .i64 m0, .int .i64 (t : Int), .string dd] 23)) w.heap.size (fun _ => True) (.slice A2 M'.length c2) M') := ⟨Kd.R_alloc HO.out _⟩
            clear HB HK HO
            generalize w3.alloc (.cells #[.int .i64 m0, .int .i64 (t : Int), .string dd] 23) = W4 at hbx n1_ n2_ n3_ ⊢
            generalize w3.heap.size = gb at hbx ⊢
            have HB := n1_
            have HK := n2_
            have HO := n3_
            clear n1_ n2_ n3_
            have y2 : W4.cell? ⟨gb, 1, none⟩ = some (.int .i64 (t : Int)) := (blk_cell hbx 1).trans rfl
            have y3 : W4.cell? ⟨gb, 2, none⟩ = some (.string dd) := (blk_cell hbx 2).trans rfl
            clear hbx
            have t0 : (0 : Int) ≤ (t : Int) := Int.natCast_nonneg _
            have t1 : (t : Int) < 3 := by omega
            have t2 : (t : Int) ≤ 2 := by omega
            have b0 : (0 : Int) ≤ (b : Int) := Int.natCast_nonneg _
            have b1 : (b : Int) < 4 := by omega
            have g2 : ((M'.length : Int) != (M.length : Int) - 1) = false := bne_eq_false_iff_eq.mpr (by omega)
            have g1 : ((M'.length : Int) == (M.length : Int) - 1) = true := beq_iff_eq.mpr (by omega)
            have HGL := Aside0.mk hgl
            clear hgl
            go_upto_region 18 with (fail)
            clear g1 g2
            have eb := HE.out
            have cc := blk_num HK.out (t * 4 + b) (by omega)
            rw [HZ.out] at cc
            go_still_tail 12, (by kernel_rfl)
            change wpList _ _ _ _ _ W4.drew
            clear cc y2 y3 eb
            have n1_ : Aside0 (Below w.heap.size w W4.drew) := ⟨below_drew1 HB.out⟩
            have n2_ : Aside0 (W4.drew.heap[g]? = some (.cells (cells M) 42 (0, 0))) := ⟨blk_drew HK.out⟩
            have n3_ : Aside0 (Kd.R k23 23 W4.drew w.heap.size (fun _ => True) (.slice A2 M'.length c2) M') := ⟨Kd.R_drew HO.out⟩
            clear HB HK HO
            generalize W4.drew = W5 at n1_ n2_ n3_ ⊢
            have HB := n1_
            have HK := n2_
            have HO := n3_
            clear n1_ n2_ n3_
            have cc := blk_num HK.out (t * 4 + b) (by omega)
            have cf := blk_frozen HK.out (t * 4 + b)
            rw [HZ.out] at cc
            go_wp2_with (fail)
            go_roundw
            case rel => exact ⟨n + 1, M', A2, c2, by have := HGL.out; omega, by go_num, rfl, HD2, ⟨below_set HB.out HG.out⟩, ⟨blk_turn HK.out (t * 4 + b) (z - 1) (by omega) HS1.out HS2.out⟩, ⟨Kd.R_mono (Kd.R_far (p := ⟨g, t * 4 + b, none⟩) (Kd.R_types HO.out HK.out (by decide)) (fun _ hk => hk.2) (.int .i64 (z - 1))) (fun _ _ => trivial)⟩⟩
            case measure => simp [intOf]; omega
          · have i1 : ¬ (n : Int) < (l1.length : Int) := by omega
            have hq : 0 < M.length := by omega
            go_upto_region 15 with (fail)
            have HT := Aside0.mk (take_eq M (by omega) 0 hq)
            rw [show ((0 : Nat) : Int) = 0 from rfl, show rd_T23 M (0 : Int) = M[0] from rd23 M 0 hq] at HT
            obtain ⟨t, b, et, eb, ht, hb4, ei⟩ := letter_nums (HGD.out _ (List.getElem_mem hq))
            rw [et] at HT
            have hgl := gone_len M 0 hq
            have s1 : num (gone M 0) (t * 4 + b) = num M (t * 4 + b) - 1 := by rw [num_gone M 0 hq, if_pos ei.symm]
            have s2 : ∀ i, i ≠ t * 4 + b → num (gone M 0) i = num M i := fun i hi => by rw [num_gone M 0 hq, if_neg (by rw [← ei]; exact fun e => hi e.symm)]; omega
            have HS1 := Aside0.mk s1
            have HS2 := Aside0.mk s2
            have HE := Aside0.mk eb
            have HD2 := Aside0.mk (good_gone HGD.out 0)
            have nb := num_bound M (t * 4 + b)
            have n0 : 0 ≤ num M (t * 4 + b) := nb.1
            have n1 : num M (t * 4 + b) ≤ 30 := by omega
            clear s1 s2 et ei nb eb
            generalize hz : num M (t * 4 + b) = z at HS1 n0 n1
            have HZ := Aside0.mk hz
            clear hz
            generalize gone M 0 = M' at HT hgl HS1 HS2 HD2
            generalize (M[0]).f0 = m0 at HT
            generalize (M[0]).f2 = dd at HT HE
            go_upto_region 16 with (first | (go_at_call 12; (with_reducible refine (mail_Take.calls A' c' M 0 m0 (t : Int) dd M' true _ ?s1 ?s2 HT.out).mono ?_); (case s1 => exact (Kd.R_reads' HO.out).2.2); (case s2 => exact (Kd.R_reads' HO.out).2.1); rintro e w3 ⟨v3, rfl, ho, hb⟩; have n1_ := Aside0.mk (Kd.R_lower ho (below_size (by repeat (first | (with_reducible first | exact HB.out | apply below_alloc | apply pw_below_drewN | apply below_drew1) | exact HB.out)))); have n2_ := Aside0.mk (below_step (by repeat (first | (with_reducible first | exact HB.out | apply below_alloc | apply pw_below_drewN | apply below_drew1) | exact HB.out)) hb); have n3_ := Aside0.mk (blk_below HK.out hb); clear HB HK HO ho hb; have HO := n1_; have HB := n2_; have HK := n3_; clear n1_ n2_ n3_))
            obtain ⟨A2, c2, e2⟩ := Kd.R_slice HO.out
            subst e2
            have hbx := blk_new w3 (.cells #[.int .i64 m0, .int .i64 (t : Int), .string dd] 23)
            have n1_ : Aside0 (Below w.heap.size w (w3.alloc (.cells #[.int .i64 m0, .int .i64 (t : Int), .string dd] 23))) := ⟨below_alloc HB.out _⟩
            have n2_ : Aside0 ((w3.alloc (.cells #[.int .i64 m0, .int .i64 (t : Int), .string dd] 23)).heap[g]? = some (.cells (cells M) 42 (0, 0))) := ⟨blk_alloc HK.out _⟩
            have n3_ : Aside0 (Kd.R k23 23 (w3.alloc (.cells #[.int .i64 m0, .int .i64 (t : Int), .string dd] 23)) w.heap.size (fun _ => True) (.slice A2 M'.length c2) M') := ⟨Kd.R_alloc HO.out _⟩
            clear HB HK HO
            generalize w3.alloc (.cells #[.int .i64 m0, .int .i64 (t : Int), .string dd] 23) = W4 at hbx n1_ n2_ n3_ ⊢
            generalize w3.heap.size = gb at hbx ⊢
            have HB := n1_
            have HK := n2_
            have HO := n3_
            clear n1_ n2_ n3_
            have y2 : W4.cell? ⟨gb, 1, none⟩ = some (.int .i64 (t : Int)) := (blk_cell hbx 1).trans rfl
            have y3 : W4.cell? ⟨gb, 2, none⟩ = some (.string dd) := (blk_cell hbx 2).trans rfl
            clear hbx
            have t0 : (0 : Int) ≤ (t : Int) := Int.natCast_nonneg _
            have t1 : (t : Int) < 3 := by omega
            have t2 : (t : Int) ≤ 2 := by omega
            have b0 : (0 : Int) ≤ (b : Int) := Int.natCast_nonneg _
            have b1 : (b : Int) < 4 := by omega
            have g2 : ((M'.length : Int) != (M.length : Int) - 1) = false := bne_eq_false_iff_eq.mpr (by omega)
            have g1 : ((M'.length : Int) == (M.length : Int) - 1) = true := beq_iff_eq.mpr (by omega)
            have HGL := Aside0.mk hgl
            clear hgl
            go_upto_region 18 with (fail)
            clear g1 g2
            have eb := HE.out
            have cc := blk_num HK.out (t * 4 + b) (by omega)
            rw [HZ.out] at cc
            go_still_tail 12, (by kernel_rfl)
            change wpList _ _ _ _ _ W4.drew
            clear cc y2 y3 eb
            have n1_ : Aside0 (Below w.heap.size w W4.drew) := ⟨below_drew1 HB.out⟩
            have n2_ : Aside0 (W4.drew.heap[g]? = some (.cells (cells M) 42 (0, 0))) := ⟨blk_drew HK.out⟩
            have n3_ : Aside0 (Kd.R k23 23 W4.drew w.heap.size (fun _ => True) (.slice A2 M'.length c2) M') := ⟨Kd.R_drew HO.out⟩
            clear HB HK HO
            generalize W4.drew = W5 at n1_ n2_ n3_ ⊢
            have HB := n1_
            have HK := n2_
            have HO := n3_
            clear n1_ n2_ n3_
            have cc := blk_num HK.out (t * 4 + b) (by omega)
            have cf := blk_frozen HK.out (t * 4 + b)
            rw [HZ.out] at cc
            go_wp2_with (fail)
            go_roundw
            case rel => exact ⟨n + 1, M', A2, c2, by have := HGL.out; omega, by go_num, rfl, HD2, ⟨below_set HB.out HG.out⟩, ⟨blk_turn HK.out (t * 4 + b) (z - 1) (by omega) HS1.out HS2.out⟩, ⟨Kd.R_mono (Kd.R_far (p := ⟨g, t * 4 + b, none⟩) (Kd.R_types HO.out HK.out (by decide)) (fun _ hk => hk.2) (.int .i64 (z - 1))) (fun _ _ => trivial)⟩⟩
            case measure => simp [intOf]; omega
        · have hM : M.length = 0 := by omega
          obtain rfl : n = L.length := by omega
          have HT := Aside0.mk (take_none M (by omega) 0 (by omega))
          have e0 : decide ((L.length : Int) < (L.length : Int)) = false := decide_eq_false (by omega)
          have HMN := Aside0.mk (List.eq_nil_of_length_eq_zero hM)
          clear hM hlt hnM
          go_upto_region 21 with (first | (go_at_call 12; (with_reducible refine (mail_Take.calls A' c' M 0 0 0 ⟨#[]⟩ M false _ ?s1 ?s2 HT.out).mono ?_); (case s1 => exact (Kd.R_reads' HO.out).2.2); (case s2 => exact (Kd.R_reads' HO.out).2.1); rintro e w3 ⟨v3, rfl, ho, hb⟩; have n2_ := Aside0.mk (below_step (by repeat (first | (with_reducible first | exact HB.out | apply below_alloc | apply pw_below_drewN | apply below_drew1) | exact HB.out)) hb); have n3_ := Aside0.mk (blk_below HK.out hb); clear HB HK HO ho hb; have HB := n2_; have HK := n3_; clear n2_ n3_))
          have HK0 := HK.out
          rw [HMN.out, cells_nil] at HK0
          have n1_ : Aside0 (Below w.heap.size w (w3.alloc (.cells #[.int .i64 0, .int .i64 0, .string ⟨#[]⟩] 23))) := ⟨below_alloc HB.out _⟩
          have hbx := blk_alloc HK0 (.cells #[.int .i64 0, .int .i64 0, .string ⟨#[]⟩] 23)
          clear HK HK0 HB
          generalize w3.alloc (.cells #[.int .i64 0, .int .i64 0, .string ⟨#[]⟩] 23) = W4 at n1_ hbx ⊢
          have k0 : W4.cell? ⟨g, 0, none⟩ = some (.int .i64 0) := (blk_cell hbx 0).trans rfl
          have k1 : W4.cell? ⟨g, 1, none⟩ = some (.int .i64 0) := (blk_cell hbx 1).trans rfl
          have k2 : W4.cell? ⟨g, 2, none⟩ = some (.int .i64 0) := (blk_cell hbx 2).trans rfl
          have k3 : W4.cell? ⟨g, 3, none⟩ = some (.int .i64 0) := (blk_cell hbx 3).trans rfl
          have k4 : W4.cell? ⟨g, 4, none⟩ = some (.int .i64 0) := (blk_cell hbx 4).trans rfl
          have k5 : W4.cell? ⟨g, 5, none⟩ = some (.int .i64 0) := (blk_cell hbx 5).trans rfl
          have k6 : W4.cell? ⟨g, 6, none⟩ = some (.int .i64 0) := (blk_cell hbx 6).trans rfl
          have k7 : W4.cell? ⟨g, 7, none⟩ = some (.int .i64 0) := (blk_cell hbx 7).trans rfl
          have k8 : W4.cell? ⟨g, 8, none⟩ = some (.int .i64 0) := (blk_cell hbx 8).trans rfl
          have k9 : W4.cell? ⟨g, 9, none⟩ = some (.int .i64 0) := (blk_cell hbx 9).trans rfl
          have k10 : W4.cell? ⟨g, 10, none⟩ = some (.int .i64 0) := (blk_cell hbx 10).trans rfl
          have k11 : W4.cell? ⟨g, 11, none⟩ = some (.int .i64 0) := (blk_cell hbx 11).trans rfl
          have HB := n1_
          clear n1_ hbx
          have heq := eq_zero
          go_wp2_with (fail)
          go_ret
          exact ⟨rfl, HB.out⟩
end Go.Proofs.Ytmgfkpeadkfioaa.Mix
