-- Written by a program of this session (wip/xpatch.py, wip/xprint.sh) for seat Ytmicfaeloanffaa.
import Derived.Test.YtmicfaeloanffaaPAllx0
import Derived.Test.YtmicfaeloanffaaPAllx2
import Derived.Test.YtmicfaeloanffaaPAllx3
namespace Go.Proofs.Ytmicfaeloanffaa.PAll
attribute [local go_sem high] Go.Proofs.Ytmicfaeloanffaa.Hand.unary_xor_u32
open Go.RowKit Go.Proofs.YtmicfaeloanffaaW.PrintWords Go.Proofs.YtmicfaeloanffaaW.PrintLast Go.Proofs.YtmicfaeloanffaaW.PrintMore
attribute [local go_sem] max2_int min2_int max_two min_two max_three min_three max_four min_four   -- for this text's walks alone
set_option linter.unusedVariables false
set_option linter.unusedSimpArgs false

/-! ### frame_take: function 28 -/
-- HAND rounds=0 making=1
-- INFO 23
theorem m_letter1 (w : World) : (method 192 55 (.agg #[]) "careen/frame.letter").run Try.prog w = .ok (33, .agg #[]) w := by kernel_rfl
theorem m_letter2 (w : World) : (method 192 60 (.agg #[]) "careen/frame.letter").run Try.prog w = .ok (34, .agg #[]) w := by kernel_rfl
theorem m_read1 (w : World) : (method 192 55 (.agg #[]) "careen/frame.read").run Try.prog w = .ok (52, .agg #[]) w := by kernel_rfl
theorem m_read2 (w : World) : (method 192 60 (.agg #[]) "careen/frame.read").run Try.prog w = .ok (54, .agg #[]) w := by kernel_rfl
set_option maxHeartbeats 4000000 in
set_option maxRecDepth 100000 in
theorem begins_one_ok (c : Int) (h1 : (c == 97) = true) (w : World) : Calls Try.prog 31 #[.iface 55 (.agg #[]), .int .u8 c] w fun e w' => e = .returned (.int .i64 0) ∧ Below w.heap.size w w' := by
 have hm1 := m_letter1
 have hm2 := m_letter2
 have B0 := Below.refl w.heap.size w
 go_enter Try.func31, Try.ntmps31
 go_wp2_with (first | (go_at_call 33; (refine (letter_one _).mono ?_); rintro e w1 ⟨rfl, hb⟩; replace B0 := B0.trans (hb.mono B0.size); clear hb) | (go_at_call 34; (refine (letter_two _).mono ?_); rintro e w1 ⟨rfl, hb⟩; replace B0 := B0.trans (hb.mono B0.size); clear hb))
 refine bodyPost_ret (v := .int .i64 0) (by simp [results, Try.results31, go_sem]) rfl ⟨rfl, B0⟩
set_option maxHeartbeats 4000000 in
set_option maxRecDepth 100000 in
theorem begins_one_two (c : Int) (h1 : (c == 97) = false) (h2 : (c == 98) = true) (w : World) : Calls Try.prog 31 #[.iface 55 (.agg #[]), .int .u8 c] w fun e w' => e = .returned (.int .i64 22) ∧ Below w.heap.size w w' := by
 have hm1 := m_letter1
 have hm2 := m_letter2
 have B0 := Below.refl w.heap.size w
 go_enter Try.func31, Try.ntmps31
 go_wp2_with (first | (go_at_call 33; (refine (letter_one _).mono ?_); rintro e w1 ⟨rfl, hb⟩; replace B0 := B0.trans (hb.mono B0.size); clear hb) | (go_at_call 34; (refine (letter_two _).mono ?_); rintro e w1 ⟨rfl, hb⟩; replace B0 := B0.trans (hb.mono B0.size); clear hb))
 refine bodyPost_ret (v := .int .i64 22) (by simp [results, Try.results31, go_sem]) rfl ⟨rfl, B0⟩
set_option maxHeartbeats 4000000 in
set_option maxRecDepth 100000 in
theorem begins_one_no (c : Int) (h1 : (c == 97) = false) (h2 : (c == 98) = false) (w : World) : Calls Try.prog 31 #[.iface 55 (.agg #[]), .int .u8 c] w fun e w' => e = .returned (.int .i64 11) ∧ Below w.heap.size w w' := by
 have hm1 := m_letter1
 have hm2 := m_letter2
 have B0 := Below.refl w.heap.size w
 go_enter Try.func31, Try.ntmps31
 go_wp2_with (first | (go_at_call 33; (refine (letter_one _).mono ?_); rintro e w1 ⟨rfl, hb⟩; replace B0 := B0.trans (hb.mono B0.size); clear hb) | (go_at_call 34; (refine (letter_two _).mono ?_); rintro e w1 ⟨rfl, hb⟩; replace B0 := B0.trans (hb.mono B0.size); clear hb))
 refine bodyPost_ret (v := .int .i64 11) (by simp [results, Try.results31, go_sem]) rfl ⟨rfl, B0⟩
set_option maxHeartbeats 4000000 in
set_option maxRecDepth 100000 in
theorem begins_two_ok (c : Int) (h2 : (c == 98) = true) (w : World) : Calls Try.prog 31 #[.iface 60 (.agg #[]), .int .u8 c] w fun e w' => e = .returned (.int .i64 0) ∧ Below w.heap.size w w' := by
 have hm1 := m_letter1
 have hm2 := m_letter2
 have B0 := Below.refl w.heap.size w
 go_enter Try.func31, Try.ntmps31
 go_wp2_with (first | (go_at_call 33; (refine (letter_one _).mono ?_); rintro e w1 ⟨rfl, hb⟩; replace B0 := B0.trans (hb.mono B0.size); clear hb) | (go_at_call 34; (refine (letter_two _).mono ?_); rintro e w1 ⟨rfl, hb⟩; replace B0 := B0.trans (hb.mono B0.size); clear hb))
 refine bodyPost_ret (v := .int .i64 0) (by simp [results, Try.results31, go_sem]) rfl ⟨rfl, B0⟩
set_option maxHeartbeats 4000000 in
set_option maxRecDepth 100000 in
theorem begins_two_one (c : Int) (h2 : (c == 98) = false) (h1 : (c == 97) = true) (w : World) : Calls Try.prog 31 #[.iface 60 (.agg #[]), .int .u8 c] w fun e w' => e = .returned (.int .i64 22) ∧ Below w.heap.size w w' := by
 have hm1 := m_letter1
 have hm2 := m_letter2
 have B0 := Below.refl w.heap.size w
 go_enter Try.func31, Try.ntmps31
 go_wp2_with (first | (go_at_call 33; (refine (letter_one _).mono ?_); rintro e w1 ⟨rfl, hb⟩; replace B0 := B0.trans (hb.mono B0.size); clear hb) | (go_at_call 34; (refine (letter_two _).mono ?_); rintro e w1 ⟨rfl, hb⟩; replace B0 := B0.trans (hb.mono B0.size); clear hb))
 refine bodyPost_ret (v := .int .i64 22) (by simp [results, Try.results31, go_sem]) rfl ⟨rfl, B0⟩
set_option maxHeartbeats 4000000 in
set_option maxRecDepth 100000 in
theorem begins_two_no (c : Int) (h1 : (c == 97) = false) (h2 : (c == 98) = false) (w : World) : Calls Try.prog 31 #[.iface 60 (.agg #[]), .int .u8 c] w fun e w' => e = .returned (.int .i64 11) ∧ Below w.heap.size w w' := by
 have hm1 := m_letter1
 have hm2 := m_letter2
 have B0 := Below.refl w.heap.size w
 go_enter Try.func31, Try.ntmps31
 go_wp2_with (first | (go_at_call 33; (refine (letter_one _).mono ?_); rintro e w1 ⟨rfl, hb⟩; replace B0 := B0.trans (hb.mono B0.size); clear hb) | (go_at_call 34; (refine (letter_two _).mono ?_); rintro e w1 ⟨rfl, hb⟩; replace B0 := B0.trans (hb.mono B0.size); clear hb))
 refine bodyPost_ret (v := .int .i64 11) (by simp [results, Try.results31, go_sem]) rfl ⟨rfl, B0⟩
theorem bits_or_bytes (a b : Nat) (ha : a < 256) (hb : b < 256) : Go.bits .or .i64 ((a : Int) * 256) (b : Int) = (a : Int) * 256 + (b : Int) := by
 have e1 : ((a : Int) * 256) = ((a * 256 : Nat) : Int) := by omega
 have e : Go.bits .or .i64 ((a * 256 : Nat) : Int) (b : Int) = IntKind.i64.wrap (((BitVec.ofInt 64 ((a * 256 : Nat) : Int)) ||| (BitVec.ofInt 64 (b : Int))).toNat : Int) := rfl
 have h1 : (BitVec.ofInt 64 ((a * 256 : Nat) : Int)).toNat = a * 256 := by simp; omega
 have h2 : (BitVec.ofInt 64 (b : Int)).toNat = b := by simp; omega
 have h3 : a * 256 ||| b = a * 256 + b := by
  have := Nat.shiftLeft_add_eq_or_of_lt (a := a) (b := b) (i := 8) (by omega)
  rw [Nat.shiftLeft_eq] at this
  exact this.symm
 rw [e1, e, BitVec.toNat_or, h1, h2, h3, IntKind.wrap_i64]
 omega
theorem bt_nat (s : ByteArray) (i : Int) : ∃ n : Nat, bt s i = (n : Int) ∧ n < 256 := by
 unfold bt
 split
 ·exact ⟨_, rfl, UInt8.toNat_lt _⟩
 ·exact ⟨0, rfl, by decide⟩
set_option maxHeartbeats 4000000 in
set_option maxRecDepth 100000 in
theorem read_one_cut (s : ByteArray) (h : (s.size : Int) < 4) (w : World) : Calls Try.prog 52 #[.agg #[], .string s] w fun e w' => e = .returned (.tuple #[.agg #[.int .i64 0, .int .i64 0, .string ⟨#[]⟩], .int .i64 0, .int .i64 0, .bool false]) ∧ Below w.heap.size w w' := by
 go_enter Try.func52, Try.ntmps52
 go_wp2
 refine bodyPost_ret (v := .tuple #[.agg #[.int .i64 0, .int .i64 0, .string ⟨#[]⟩], .int .i64 0, .int .i64 0, .bool false]) (by simp [results, Try.results52, go_sem]) rfl ⟨rfl, ?_⟩
 exact ((Below.refl _ _).alloc (Nat.le_refl _) _).alloc (by simp) _
set_option maxHeartbeats 4000000 in
set_option maxRecDepth 100000 in
theorem read_one_ok (s : ByteArray) (h : ¬ (s.size : Int) < 4) (w : World) : Calls Try.prog 52 #[.agg #[], .string s] w fun e w' => e = .returned (.tuple #[.agg #[.int .i64 (bt s 1), .int .i64 0, .string ⟨#[]⟩], .int .i64 4, .int .i64 (bt s 2 * 256 + bt s 3), .bool true]) ∧ Below w.heap.size w w' := by
 have p1 := eq_true (show (1 : Int) < (s.size : Int) by omega)
 have p2 := eq_true (show (2 : Int) < (s.size : Int) by omega)
 have p3 := eq_true (show (3 : Int) < (s.size : Int) by omega)
 have hx1 : ∀ h : 1 < s.size, ((s[1]'h).toNat : Int) = bt s 1 := bt_at s 1
 have hx2 : ∀ h : 2 < s.size, ((s[2]'h).toNat : Int) = bt s 2 := bt_at s 2
 have hx3 : ∀ h : 3 < s.size, ((s[3]'h).toNat : Int) = bt s 3 := bt_at s 3
 obtain ⟨n1, e1, l1⟩ := bt_nat s 1
 obtain ⟨n2, e2, l2⟩ := bt_nat s 2
 obtain ⟨n3, e3, l3⟩ := bt_nat s 3
 have w1 : wrap64 (bt s 1) = bt s 1 := by rw [e1]; unfold wrap64; omega
 have w2 : wrap64 (bt s 2) = bt s 2 := by rw [e2]; unfold wrap64; omega
 have w3 : wrap64 (bt s 3) = bt s 3 := by rw [e3]; unfold wrap64; omega
 have w4 : wrap64 (bt s 2 * 256) = bt s 2 * 256 := by rw [e2]; unfold wrap64; omega
 have hor : Go.bits .or .i64 (bt s 2 * 256) (bt s 3) = bt s 2 * 256 + bt s 3 := by rw [e2, e3]; exact bits_or_bytes n2 n3 l2 l3
 clear e1 e2 e3 l1 l2 l3
 go_enter Try.func52, Try.ntmps52
 go_upto_region 4 with (fail)
 go_region
 go_wp2
 refine bodyPost_ret (v := .tuple #[.agg #[.int .i64 (bt s 1), .int .i64 0, .string ⟨#[]⟩], .int .i64 4, .int .i64 (bt s 2 * 256 + bt s 3), .bool true]) (by simp [results, Try.results52, go_sem, hx1, hx2, hx3, w1, w2, w3, w4, hor]) rfl ⟨rfl, ?_⟩
 exact (((Below.refl _ _).alloc (Nat.le_refl _) _).alloc (by simp) _).drew
/-- What stands in the result's variable behind a call. -/
theorem cells_two (w : World) (w1 : World) (S : Obj) (hb : Below ((w.alloc S).alloc (.cells #[.int .i64 0, .int .i64 0, .string ⟨#[]⟩] 23)).heap.size ((w.alloc S).alloc (.cells #[.int .i64 0, .int .i64 0, .string ⟨#[]⟩] 23)) w1) :
  w1.cell? ⟨w.heap.size + 1, 0, none⟩ = some (.int .i64 0) ∧ w1.cell? ⟨w.heap.size + 1, 1, none⟩ = some (.int .i64 0) ∧ w1.cell? ⟨w.heap.size + 1, 2, none⟩ = some (.string ⟨#[]⟩) ∧ w1.frozen? ⟨w.heap.size + 1, 0, none⟩ = false ∧ w1.frozen? ⟨w.heap.size + 1, 1, none⟩ = false ∧ w1.frozen? ⟨w.heap.size + 1, 2, none⟩ = false ∧ w.heap.size + 1 < w1.heap.size ∧ Below w.heap.size w w1 := by
 have eW : ((w.alloc S).alloc (.cells #[.int .i64 0, .int .i64 0, .string ⟨#[]⟩] 23)).heap.size = w.heap.size + 2 := by simp
 have hs := hb.size
 rw [eW] at hs
 refine ⟨?_, ?_, ?_, ?_, ?_, ?_, by omega, ?_⟩
 ·rw [hb.cell (p := ⟨w.heap.size + 1, 0, none⟩) (by rw [eW]; show w.heap.size + 1 < _; omega)]; simp [go_sem]
 ·rw [hb.cell (p := ⟨w.heap.size + 1, 1, none⟩) (by rw [eW]; show w.heap.size + 1 < _; omega)]; simp [go_sem]
 ·rw [hb.cell (p := ⟨w.heap.size + 1, 2, none⟩) (by rw [eW]; show w.heap.size + 1 < _; omega)]; simp [go_sem]
 ·rw [hb.frozen (p := ⟨w.heap.size + 1, 0, none⟩) (by rw [eW]; show w.heap.size + 1 < _; omega)]; simp [go_sem]
 ·rw [hb.frozen (p := ⟨w.heap.size + 1, 1, none⟩) (by rw [eW]; show w.heap.size + 1 < _; omega)]; simp [go_sem]
 ·rw [hb.frozen (p := ⟨w.heap.size + 1, 2, none⟩) (by rw [eW]; show w.heap.size + 1 < _; omega)]; simp [go_sem]
 ·exact (((Below.refl w.heap.size w).alloc (Nat.le_refl _) S).alloc (by simp) _).trans (hb.mono (by omega))
/-- Three cells of a block. -/
structure C3 (W : World) (b : Nat) (x y z : Value) : Prop where
 c0 : W.cell? ⟨b, 0, none⟩ = some x
 c1 : W.cell? ⟨b, 1, none⟩ = some y
 c2 : W.cell? ⟨b, 2, none⟩ = some z
theorem C3.set0 {W : World} {b : Nat} {x y z : Value} (h : C3 W b x y z) (v : Value) : C3 (W.setCell ⟨b, 0, none⟩ v) b v y z :=
 ⟨World.cell?_setCell_same _ _ _ h.c0, (World.cell?_setCell_other _ _ _ _ (by simp)).trans h.c1, (World.cell?_setCell_other _ _ _ _ (by simp)).trans h.c2⟩
theorem C3.set1 {W : World} {b : Nat} {x y z : Value} (h : C3 W b x y z) (v : Value) : C3 (W.setCell ⟨b, 1, none⟩ v) b x v z :=
 ⟨(World.cell?_setCell_other _ _ _ _ (by simp)).trans h.c0, World.cell?_setCell_same _ _ _ h.c1, (World.cell?_setCell_other _ _ _ _ (by simp)).trans h.c2⟩
theorem C3.set2 {W : World} {b : Nat} {x y z : Value} (h : C3 W b x y z) (v : Value) : C3 (W.setCell ⟨b, 2, none⟩ v) b x y v :=
 ⟨(World.cell?_setCell_other _ _ _ _ (by simp)).trans h.c0, (World.cell?_setCell_other _ _ _ _ (by simp)).trans h.c1, World.cell?_setCell_same _ _ _ h.c2⟩
theorem C3.drew {W : World} {b : Nat} {x y z : Value} (h : C3 W b x y z) : C3 W.drew b x y z := ⟨h.c0, h.c1, h.c2⟩
theorem res54 (t : Array Value) (W : World) (b : Nat) (x y z v5 v6 v7 : Value) (hC : C3 W b x y z) (h4 : t.getD 4 undef = .pointer (some ⟨b, 0, none⟩)) (h5 : t.getD 5 undef = v5) (h6 : t.getD 6 undef = v6) (h7 : t.getD 7 undef = v7) :
  (results Try.f54 t).run Try.prog W = .ok (.tuple #[.agg #[x, y, z], v5, v6, v7]) W := by
 have c0 := hC.c0
 have c1 := hC.c1
 have c2 := hC.c2
 simp [results, Try.results54, go_sem, -Array.getD_eq_getD_getElem?, h4, h5, h6, h7, c0, c1, c2]
set_option maxHeartbeats 4000000 in
set_option maxRecDepth 100000 in
theorem read_two_cut (s : ByteArray) (h : (s.size : Int) < 3) (w : World) : Calls Try.prog 54 #[.agg #[], .string s] w fun e w' => e = .returned (.tuple #[.agg #[.int .i64 0, .int .i64 0, .string ⟨#[]⟩], .int .i64 0, .int .i64 0, .bool false]) ∧ Below w.heap.size w w' := by
 go_enter Try.func54, Try.ntmps54
 go_wp2
 refine bodyPost_ret (v := .tuple #[.agg #[.int .i64 0, .int .i64 0, .string ⟨#[]⟩], .int .i64 0, .int .i64 0, .bool false]) (by simp [results, Try.results54, go_sem]) rfl ⟨rfl, ?_⟩
 exact ((Below.refl _ _).alloc (Nat.le_refl _) _).alloc (by simp) _
set_option maxHeartbeats 4000000 in
set_option maxRecDepth 100000 in
theorem read_two_cut2 (s : ByteArray) (h : ¬ (s.size : Int) < 3) (K : Nat) (n k : Int) (ht : varint_Take.f K (s.extract 3 s.size) = some (n, k, 10)) (w : World) : Calls Try.prog 54 #[.agg #[], .string s] w fun e w' => e = .returned (.tuple #[.agg #[.int .i64 0, .int .i64 0, .string ⟨#[]⟩], .int .i64 0, .int .i64 0, .bool false]) ∧ Below w.heap.size w w' := by
 have HT := Aside0.mk ht
 clear ht
 go_enter Try.func54, Try.ntmps54
 go_wp2_with (first | (go_at_call 56; (with_reducible refine (varint_Take.calls K (s.extract 3 s.size) n k 10 _ HT.out).mono ?_); rintro e w1 ⟨rfl, hb1⟩; obtain ⟨q0, q1, q2, f0, f1, f2, hz, B1⟩ := cells_two w w1 _ hb1))
 refine bodyPost_ret (v := .tuple #[.agg #[.int .i64 0, .int .i64 0, .string ⟨#[]⟩], .int .i64 0, .int .i64 0, .bool false]) (by simp [results, Try.results54, go_sem, q0, q1, q2, hz]) rfl ⟨rfl, ?_⟩
 repeat (first | exact B1 | (refine Below.setCell ?_ (by simp) _))
set_option maxHeartbeats 4000000 in
set_option maxRecDepth 100000 in
theorem read_two_ok (s : ByteArray) (h : ¬ (s.size : Int) < 3) (K : Nat) (n k : Int) (hk0 : 0 ≤ k) (hk1 : k ≤ 100) (ht : varint_Take.f K (s.extract 3 s.size) = some (n, k, 0)) (w : World) : Calls Try.prog 54 #[.agg #[], .string s] w fun e w' => e = .returned (.tuple #[.agg #[.int .i64 (bt s 2), .int .i64 (bt s 1), .string ⟨#[]⟩], .int .i64 (3 + k), .int .i64 n, .bool true]) ∧ Below w.heap.size w w' := by
 have HT := Aside0.mk ht
 clear ht
 have p1 := eq_true (show (1 : Int) < (s.size : Int) by omega)
 have p2 := eq_true (show (2 : Int) < (s.size : Int) by omega)
 have hx1 : ∀ h : 1 < s.size, ((s[1]'h).toNat : Int) = bt s 1 := bt_at s 1
 have hx2 : ∀ h : 2 < s.size, ((s[2]'h).toNat : Int) = bt s 2 := bt_at s 2
 obtain ⟨n1, u1, l1⟩ := bt_nat s 1
 obtain ⟨n2, u2, l2⟩ := bt_nat s 2
 have e1 : wrap64 (bt s 1) = bt s 1 := by rw [u1]; unfold wrap64; omega
 have e2 : wrap64 (bt s 2) = bt s 2 := by rw [u2]; unfold wrap64; omega
 have e3 : wrap64 (3 + k) = 3 + k := by unfold wrap64; omega
 clear u1 u2 l1 l2
 go_enter Try.func54, Try.ntmps54
 go_upto_region 8 with (first | (go_at_call 56; (with_reducible refine (varint_Take.calls K (s.extract 3 s.size) n k 0 _ HT.out).mono ?_); rintro e w1 ⟨rfl, hb1⟩; obtain ⟨q0, q1, q2, f0, f1, f2, hz, B1⟩ := cells_two w w1 _ hb1))
 go_region
 go_wp2
 refine bodyPost_ret (v := .tuple #[.agg #[.int .i64 (bt s 2), .int .i64 (bt s 1), .string ⟨#[]⟩], .int .i64 (3 + k), .int .i64 n, .bool true]) ?_ rfl ⟨rfl, ?_⟩
 ·simp only [hx1, hx2, e1, e2, e3]
  exact res54 _ _ _ _ _ _ _ _ _ ((((((C3.mk q0 q1 q2).set1 _).set0 _).set0 _).set1 _).set2 _).drew rfl rfl rfl rfl
 ·repeat (first | exact B1 | (refine Below.drew ?_) | (refine Below.setCell ?_ (by simp) _))
set_option maxHeartbeats 4000000 in
set_option maxRecDepth 100000 in
theorem read_two_bad (s : ByteArray) (h : ¬ (s.size : Int) < 3) (K : Nat) (n k : Int) (hk0 : 0 ≤ k) (hk1 : k ≤ 100) (e : Int) (h10 : (e == 10) = false) (h0 : (e == 0) = false) (ht : varint_Take.f K (s.extract 3 s.size) = some (n, k, e)) (w : World) : Calls Try.prog 54 #[.agg #[], .string s] w fun e' w' => e' = .returned (.tuple #[.agg #[.int .i64 (bt s 2), .int .i64 (bt s 1), .string ⟨#[]⟩], .int .i64 (3 + k), .int .i64 4001, .bool true]) ∧ Below w.heap.size w w' := by
 have HT := Aside0.mk ht
 have h0' : (e != 0) = true := by simp [bne, h0]
 clear ht
 have p1 := eq_true (show (1 : Int) < (s.size : Int) by omega)
 have p2 := eq_true (show (2 : Int) < (s.size : Int) by omega)
 have hx1 : ∀ h : 1 < s.size, ((s[1]'h).toNat : Int) = bt s 1 := bt_at s 1
 have hx2 : ∀ h : 2 < s.size, ((s[2]'h).toNat : Int) = bt s 2 := bt_at s 2
 obtain ⟨n1, u1, l1⟩ := bt_nat s 1
 obtain ⟨n2, u2, l2⟩ := bt_nat s 2
 have e1 : wrap64 (bt s 1) = bt s 1 := by rw [u1]; unfold wrap64; omega
 have e2 : wrap64 (bt s 2) = bt s 2 := by rw [u2]; unfold wrap64; omega
 have e3 : wrap64 (3 + k) = 3 + k := by unfold wrap64; omega
 clear u1 u2 l1 l2
 go_enter Try.func54, Try.ntmps54
 go_upto_region 8 with (first | (go_at_call 56; (with_reducible refine (varint_Take.calls K (s.extract 3 s.size) n k e _ HT.out).mono ?_); rintro e' w1 ⟨rfl, hb1⟩; obtain ⟨q0, q1, q2, f0, f1, f2, hz, B1⟩ := cells_two w w1 _ hb1))
 go_region
 go_wp2
 refine bodyPost_ret (v := .tuple #[.agg #[.int .i64 (bt s 2), .int .i64 (bt s 1), .string ⟨#[]⟩], .int .i64 (3 + k), .int .i64 4001, .bool true]) ?_ rfl ⟨rfl, ?_⟩
 ·simp only [hx1, hx2, e1, e2, e3]
  exact res54 _ _ _ _ _ _ _ _ _ ((((((C3.mk q0 q1 q2).set1 _).set0 _).set0 _).set1 _).set2 _).drew rfl rfl rfl rfl
 ·repeat (first | exact B1 | (refine Below.drew ?_) | (refine Below.setCell ?_ (by simp) _))
/-- Three cells of a block that may be written. -/
structure K3 (W : World) (b : Nat) (x y z : Value) : Prop where
 c : C3 W b x y z
 f0 : W.frozen? ⟨b, 0, none⟩ = false
 f1 : W.frozen? ⟨b, 1, none⟩ = false
 f2 : W.frozen? ⟨b, 2, none⟩ = false
 lt : b < W.heap.size
theorem K3.new (W : World) (x y z : Value) (h : (W.alloc (.cells #[x, y, z] 23)).cell? ⟨W.heap.size, 0, none⟩ = some x ∧ (W.alloc (.cells #[x, y, z] 23)).cell? ⟨W.heap.size, 1, none⟩ = some y ∧ (W.alloc (.cells #[x, y, z] 23)).cell? ⟨W.heap.size, 2, none⟩ = some z := by simp [go_sem]) : K3 (W.alloc (.cells #[x, y, z] 23)) W.heap.size x y z :=
 ⟨⟨h.1, h.2.1, h.2.2⟩, by simp [go_sem], by simp [go_sem], by simp [go_sem], by simp⟩
theorem K3.below {W w1 : World} {b : Nat} {x y z : Value} (h : K3 W b x y z) (hb : Below W.heap.size W w1) : K3 w1 b x y z :=
 ⟨⟨(hb.cell (p := ⟨b, 0, none⟩) h.lt).trans h.c.c0, (hb.cell (p := ⟨b, 1, none⟩) h.lt).trans h.c.c1, (hb.cell (p := ⟨b, 2, none⟩) h.lt).trans h.c.c2⟩,
  (hb.frozen (p := ⟨b, 0, none⟩) h.lt).trans h.f0, (hb.frozen (p := ⟨b, 1, none⟩) h.lt).trans h.f1, (hb.frozen (p := ⟨b, 2, none⟩) h.lt).trans h.f2, Nat.lt_of_lt_of_le h.lt hb.size⟩
theorem K3.alloc {W : World} {b : Nat} {x y z : Value} (h : K3 W b x y z) (o : Obj) : K3 (W.alloc o) b x y z := h.below ((Below.refl _ _).alloc (Nat.le_refl _) o)
theorem K3.drewN {W : World} {b : Nat} {x y z : Value} (h : K3 W b x y z) (n : Nat) : K3 (W.drewN n) b x y z := h.below (pw_below_drewN (Below.refl _ _) n)
theorem K3.drew {W : World} {b : Nat} {x y z : Value} (h : K3 W b x y z) : K3 W.drew b x y z := h.below (Below.refl _ _).drew
theorem K3.set0 {W : World} {b : Nat} {x y z : Value} (h : K3 W b x y z) (v : Value) : K3 (W.setCell ⟨b, 0, none⟩ v) b v y z := ⟨h.c.set0 v, by rw [World.frozen?_setCell]; exact h.f0, by rw [World.frozen?_setCell]; exact h.f1, by rw [World.frozen?_setCell]; exact h.f2, by simpa [World.setCell] using h.lt⟩
theorem K3.set1 {W : World} {b : Nat} {x y z : Value} (h : K3 W b x y z) (v : Value) : K3 (W.setCell ⟨b, 1, none⟩ v) b x v z := ⟨h.c.set1 v, by rw [World.frozen?_setCell]; exact h.f0, by rw [World.frozen?_setCell]; exact h.f1, by rw [World.frozen?_setCell]; exact h.f2, by simpa [World.setCell] using h.lt⟩
theorem K3.set2 {W : World} {b : Nat} {x y z : Value} (h : K3 W b x y z) (v : Value) : K3 (W.setCell ⟨b, 2, none⟩ v) b x y v := ⟨h.c.set2 v, by rw [World.frozen?_setCell]; exact h.f0, by rw [World.frozen?_setCell]; exact h.f1, by rw [World.frozen?_setCell]; exact h.f2, by simpa [World.setCell] using h.lt⟩
theorem res28 (t : Array Value) (W : World) (b : Nat) (x y z v5 v6 : Value) (hC : C3 W b x y z) (h4 : t.getD 4 undef = .pointer (some ⟨b, 0, none⟩)) (h5 : t.getD 5 undef = v5) (h6 : t.getD 6 undef = v6) :
  (results Try.f28 t).run Try.prog W = .ok (.tuple #[.agg #[x, y, z], v5, v6]) W := by
 have c0 := hC.c0
 have c1 := hC.c1
 have c2 := hC.c2
 simp [results, Try.results28, go_sem, -Array.getD_eq_getD_getElem?, h4, h5, h6, c0, c1, c2]
set_option maxHeartbeats 4000000 in
set_option maxRecDepth 100000 in
theorem take_one_begins (s : ByteArray) (hs : 0 < s.size) (c : Int) (hc : bt s 0 = c) (be : Int) (hbe : ∀ w : World, Calls Try.prog 31 #[.iface 55 (.agg #[]), .int .u8 c] w fun e w' => e = .returned (.int .i64 be) ∧ Below w.heap.size w w')  (hb0 : (be == 0) = false) (w : World) :
  Calls Try.prog 28 #[.int .i64 1, .string s] w fun e w' => e = .returned (.tuple #[.agg #[.int .i64 0, .int .i64 0, .string ⟨#[]⟩], .int .i64 0, .int .i64 be]) ∧ Below w.heap.size w w' := by
 have p0 := eq_true (show (0 : Int) < (s.size : Int) by omega)
 have hx0 : ∀ h : 0 < s.size, ((s[0]'h).toNat : Int) = c := fun h => (bt_at s 0 h).trans hc
 have B0 := (Below.refl w.heap.size w).alloc (Nat.le_refl _) (.cells #[.int .i64 0, .int .i64 0, .string ⟨#[]⟩] 23)
 have k0 := K3.new w (.int .i64 0) (.int .i64 0) (.string ⟨#[]⟩)
 have hmr := m_read1
 have hb0' : (be != 0) = true := by simpa using hb0
 go_enter Try.func28, Try.ntmps28
 go_wp2_with (first | (go_at_call 22; (refine (of_one _).mono ?_); rintro e w1 ⟨rfl, rfl⟩) | (go_at_call 31; (refine (hbe _).mono ?_); rintro e w1 ⟨rfl, hb1⟩; have k1 := k0.below hb1; have B1 := B0.trans (hb1.mono B0.size); clear hb1 k0 B0; have q0 := k1.c.c0; have q1 := k1.c.c1; have q2 := k1.c.c2; have f0 := k1.f0; have f1 := k1.f1; have f2 := k1.f2; have z := k1.lt))
 refine bodyPost_ret (v := .tuple #[.agg #[.int .i64 0, .int .i64 0, .string ⟨#[]⟩], .int .i64 0, .int .i64 be]) ?_ rfl ⟨rfl, ?_⟩
 ·exact res28 _ _ _ _ _ _ _ _ (((k1.set0 _).set1 _).set2 _).c rfl rfl rfl
 ·repeat (first | exact B1 | (refine Below.alloc ?_ (by first | exact B2.size | (simp; have := B2.size; omega)) _) | (refine Below.setCell ?_ (by simp) _))
set_option maxHeartbeats 4000000 in
set_option maxRecDepth 100000 in
theorem take_one_cut (s : ByteArray) (hs : 0 < s.size) (c : Int) (hc : bt s 0 = c) (be : Int) (hbe : ∀ w : World, Calls Try.prog 31 #[.iface 55 (.agg #[]), .int .u8 c] w fun e w' => e = .returned (.int .i64 be) ∧ Below w.heap.size w w') (kd fl ah n : Int) (wh : Bool) (hah : 0 ≤ ah ∧ ah ≤ 200) (hn : 0 ≤ n ∧ n ≤ 9007199254740992) (hrd : ∀ w : World, Calls Try.prog 52 #[.agg #[], .string s] w fun e w' => e = .returned (.tuple #[.agg #[.int .i64 kd, .int .i64 fl, .string ⟨#[]⟩], .int .i64 ah, .int .i64 n, .bool wh]) ∧ Below w.heap.size w w') (hb0 : be = 0) (hw : wh = false) (w : World) :
  Calls Try.prog 28 #[.int .i64 1, .string s] w fun e w' => e = .returned (.tuple #[.agg #[.int .i64 kd, .int .i64 fl, .string ⟨#[]⟩], .int .i64 0, .int .i64 0]) ∧ Below w.heap.size w w' := by
 have p0 := eq_true (show (0 : Int) < (s.size : Int) by omega)
 have hx0 : ∀ h : 0 < s.size, ((s[0]'h).toNat : Int) = c := fun h => (bt_at s 0 h).trans hc
 have B0 := (Below.refl w.heap.size w).alloc (Nat.le_refl _) (.cells #[.int .i64 0, .int .i64 0, .string ⟨#[]⟩] 23)
 have k0 := K3.new w (.int .i64 0) (.int .i64 0) (.string ⟨#[]⟩)
 have hmr := m_read1
 subst hb0
 subst hw
 go_enter Try.func28, Try.ntmps28
 go_wp2_with (first | (go_at_call 22; (refine (of_one _).mono ?_); rintro e w1 ⟨rfl, rfl⟩) | (go_at_call 31; (refine (hbe _).mono ?_); rintro e w1 ⟨rfl, hb1⟩; have k1 := k0.below hb1; have B1 := B0.trans (hb1.mono B0.size); clear hb1 k0 B0; have q0 := k1.c.c0; have q1 := k1.c.c1; have q2 := k1.c.c2; have f0 := k1.f0; have f1 := k1.f1; have f2 := k1.f2; have z := k1.lt) | (go_at_call 52; (refine (hrd _).mono ?_); rintro e w2 ⟨rfl, hb2⟩; have k2 := k1.below hb2; have B2 := B1.trans (hb2.mono B1.size); clear hb2 k1 B1 q0 q1 q2 f0 f1 f2 z; have q0 := k2.c.c0; have q1 := k2.c.c1; have q2 := k2.c.c2; have f0 := k2.f0; have f1 := k2.f1; have f2 := k2.f2; have z := k2.lt))
 refine bodyPost_ret (v := .tuple #[.agg #[.int .i64 kd, .int .i64 fl, .string ⟨#[]⟩], .int .i64 0, .int .i64 0]) ?_ rfl ⟨rfl, ?_⟩
 ·exact res28 _ _ _ _ _ _ _ _ ((((k2.set0 _).set1 _).set2 _).alloc _).c rfl rfl rfl
 ·repeat (first | exact B2 | (refine Below.alloc ?_ (by first | exact B2.size | (simp; have := B2.size; omega)) _) | (refine Below.setCell ?_ (by simp) _))
set_option maxHeartbeats 4000000 in
set_option maxRecDepth 100000 in
theorem take_one_long (s : ByteArray) (hs : 0 < s.size) (c : Int) (hc : bt s 0 = c) (be : Int) (hbe : ∀ w : World, Calls Try.prog 31 #[.iface 55 (.agg #[]), .int .u8 c] w fun e w' => e = .returned (.int .i64 be) ∧ Below w.heap.size w w') (kd fl ah n : Int) (wh : Bool) (hah : 0 ≤ ah ∧ ah ≤ 200) (hn : 0 ≤ n ∧ n ≤ 9007199254740992) (hrd : ∀ w : World, Calls Try.prog 52 #[.agg #[], .string s] w fun e w' => e = .returned (.tuple #[.agg #[.int .i64 kd, .int .i64 fl, .string ⟨#[]⟩], .int .i64 ah, .int .i64 n, .bool wh]) ∧ Below w.heap.size w w') (hb0 : be = 0) (hw : wh = true) (hl : n > 4000) (w : World) :
  Calls Try.prog 28 #[.int .i64 1, .string s] w fun e w' => e = .returned (.tuple #[.agg #[.int .i64 kd, .int .i64 fl, .string ⟨#[]⟩], .int .i64 0, .int .i64 11]) ∧ Below w.heap.size w w' := by
 have p0 := eq_true (show (0 : Int) < (s.size : Int) by omega)
 have hx0 : ∀ h : 0 < s.size, ((s[0]'h).toNat : Int) = c := fun h => (bt_at s 0 h).trans hc
 have B0 := (Below.refl w.heap.size w).alloc (Nat.le_refl _) (.cells #[.int .i64 0, .int .i64 0, .string ⟨#[]⟩] 23)
 have k0 := K3.new w (.int .i64 0) (.int .i64 0) (.string ⟨#[]⟩)
 have hmr := m_read1
 subst hb0
 subst hw
 go_enter Try.func28, Try.ntmps28
 go_wp2_with (first | (go_at_call 22; (refine (of_one _).mono ?_); rintro e w1 ⟨rfl, rfl⟩) | (go_at_call 31; (refine (hbe _).mono ?_); rintro e w1 ⟨rfl, hb1⟩; have k1 := k0.below hb1; have B1 := B0.trans (hb1.mono B0.size); clear hb1 k0 B0; have q0 := k1.c.c0; have q1 := k1.c.c1; have q2 := k1.c.c2; have f0 := k1.f0; have f1 := k1.f1; have f2 := k1.f2; have z := k1.lt) | (go_at_call 52; (refine (hrd _).mono ?_); rintro e w2 ⟨rfl, hb2⟩; have k2 := k1.below hb2; have B2 := B1.trans (hb2.mono B1.size); clear hb2 k1 B1 q0 q1 q2 f0 f1 f2 z; have q0 := k2.c.c0; have q1 := k2.c.c1; have q2 := k2.c.c2; have f0 := k2.f0; have f1 := k2.f1; have f2 := k2.f2; have z := k2.lt))
 refine bodyPost_ret (v := .tuple #[.agg #[.int .i64 kd, .int .i64 fl, .string ⟨#[]⟩], .int .i64 0, .int .i64 11]) ?_ rfl ⟨rfl, ?_⟩
 ·exact res28 _ _ _ _ _ _ _ _ ((((k2.set0 _).set1 _).set2 _).alloc _).c rfl rfl rfl
 ·repeat (first | exact B2 | (refine Below.alloc ?_ (by first | exact B2.size | (simp; have := B2.size; omega)) _) | (refine Below.setCell ?_ (by simp) _))
set_option maxHeartbeats 4000000 in
set_option maxRecDepth 100000 in
theorem take_one_short (s : ByteArray) (hs : 0 < s.size) (c : Int) (hc : bt s 0 = c) (be : Int) (hbe : ∀ w : World, Calls Try.prog 31 #[.iface 55 (.agg #[]), .int .u8 c] w fun e w' => e = .returned (.int .i64 be) ∧ Below w.heap.size w w') (kd fl ah n : Int) (wh : Bool) (hah : 0 ≤ ah ∧ ah ≤ 200) (hn : 0 ≤ n ∧ n ≤ 9007199254740992) (hrd : ∀ w : World, Calls Try.prog 52 #[.agg #[], .string s] w fun e w' => e = .returned (.tuple #[.agg #[.int .i64 kd, .int .i64 fl, .string ⟨#[]⟩], .int .i64 ah, .int .i64 n, .bool wh]) ∧ Below w.heap.size w w') (hb0 : be = 0) (hw : wh = true) (hl : ¬ n > 4000) (hsz : (s.size : Int) < ah + n + 4) (w : World) :
  Calls Try.prog 28 #[.int .i64 1, .string s] w fun e w' => e = .returned (.tuple #[.agg #[.int .i64 kd, .int .i64 fl, .string ⟨#[]⟩], .int .i64 0, .int .i64 0]) ∧ Below w.heap.size w w' := by
 have p0 := eq_true (show (0 : Int) < (s.size : Int) by omega)
 have hx0 : ∀ h : 0 < s.size, ((s[0]'h).toNat : Int) = c := fun h => (bt_at s 0 h).trans hc
 have B0 := (Below.refl w.heap.size w).alloc (Nat.le_refl _) (.cells #[.int .i64 0, .int .i64 0, .string ⟨#[]⟩] 23)
 have k0 := K3.new w (.int .i64 0) (.int .i64 0) (.string ⟨#[]⟩)
 have hmr := m_read1
 subst hb0
 subst hw
 go_enter Try.func28, Try.ntmps28
 go_wp2_with (first | (go_at_call 22; (refine (of_one _).mono ?_); rintro e w1 ⟨rfl, rfl⟩) | (go_at_call 31; (refine (hbe _).mono ?_); rintro e w1 ⟨rfl, hb1⟩; have k1 := k0.below hb1; have B1 := B0.trans (hb1.mono B0.size); clear hb1 k0 B0; have q0 := k1.c.c0; have q1 := k1.c.c1; have q2 := k1.c.c2; have f0 := k1.f0; have f1 := k1.f1; have f2 := k1.f2; have z := k1.lt) | (go_at_call 52; (refine (hrd _).mono ?_); rintro e w2 ⟨rfl, hb2⟩; have k2 := k1.below hb2; have B2 := B1.trans (hb2.mono B1.size); clear hb2 k1 B1 q0 q1 q2 f0 f1 f2 z; have q0 := k2.c.c0; have q1 := k2.c.c1; have q2 := k2.c.c2; have f0 := k2.f0; have f1 := k2.f1; have f2 := k2.f2; have z := k2.lt))
 refine bodyPost_ret (v := .tuple #[.agg #[.int .i64 kd, .int .i64 fl, .string ⟨#[]⟩], .int .i64 0, .int .i64 0]) ?_ rfl ⟨rfl, ?_⟩
 ·exact res28 _ _ _ _ _ _ _ _ ((((k2.set0 _).set1 _).set2 _).alloc _).c rfl rfl rfl
 ·repeat (first | exact B2 | (refine Below.alloc ?_ (by first | exact B2.size | (simp; have := B2.size; omega)) _) | (refine Below.setCell ?_ (by simp) _))
set_option maxHeartbeats 4000000 in
set_option maxRecDepth 100000 in
theorem take_two_begins (s : ByteArray) (hs : 0 < s.size) (c : Int) (hc : bt s 0 = c) (be : Int) (hbe : ∀ w : World, Calls Try.prog 31 #[.iface 60 (.agg #[]), .int .u8 c] w fun e w' => e = .returned (.int .i64 be) ∧ Below w.heap.size w w')  (hb0 : (be == 0) = false) (w : World) :
  Calls Try.prog 28 #[.int .i64 2, .string s] w fun e w' => e = .returned (.tuple #[.agg #[.int .i64 0, .int .i64 0, .string ⟨#[]⟩], .int .i64 0, .int .i64 be]) ∧ Below w.heap.size w w' := by
 have p0 := eq_true (show (0 : Int) < (s.size : Int) by omega)
 have hx0 : ∀ h : 0 < s.size, ((s[0]'h).toNat : Int) = c := fun h => (bt_at s 0 h).trans hc
 have B0 := (Below.refl w.heap.size w).alloc (Nat.le_refl _) (.cells #[.int .i64 0, .int .i64 0, .string ⟨#[]⟩] 23)
 have k0 := K3.new w (.int .i64 0) (.int .i64 0) (.string ⟨#[]⟩)
 have hmr := m_read2
 have hb0' : (be != 0) = true := by simpa using hb0
 go_enter Try.func28, Try.ntmps28
 go_wp2_with (first | (go_at_call 22; (refine (of_two _).mono ?_); rintro e w1 ⟨rfl, rfl⟩) | (go_at_call 31; (refine (hbe _).mono ?_); rintro e w1 ⟨rfl, hb1⟩; have k1 := k0.below hb1; have B1 := B0.trans (hb1.mono B0.size); clear hb1 k0 B0; have q0 := k1.c.c0; have q1 := k1.c.c1; have q2 := k1.c.c2; have f0 := k1.f0; have f1 := k1.f1; have f2 := k1.f2; have z := k1.lt))
 refine bodyPost_ret (v := .tuple #[.agg #[.int .i64 0, .int .i64 0, .string ⟨#[]⟩], .int .i64 0, .int .i64 be]) ?_ rfl ⟨rfl, ?_⟩
 ·exact res28 _ _ _ _ _ _ _ _ (((k1.set0 _).set1 _).set2 _).c rfl rfl rfl
 ·repeat (first | exact B1 | (refine Below.alloc ?_ (by first | exact B2.size | (simp; have := B2.size; omega)) _) | (refine Below.setCell ?_ (by simp) _))
set_option maxHeartbeats 4000000 in
set_option maxRecDepth 100000 in
theorem take_two_cut (s : ByteArray) (hs : 0 < s.size) (c : Int) (hc : bt s 0 = c) (be : Int) (hbe : ∀ w : World, Calls Try.prog 31 #[.iface 60 (.agg #[]), .int .u8 c] w fun e w' => e = .returned (.int .i64 be) ∧ Below w.heap.size w w') (kd fl ah n : Int) (wh : Bool) (hah : 0 ≤ ah ∧ ah ≤ 200) (hn : 0 ≤ n ∧ n ≤ 9007199254740992) (hrd : ∀ w : World, Calls Try.prog 54 #[.agg #[], .string s] w fun e w' => e = .returned (.tuple #[.agg #[.int .i64 kd, .int .i64 fl, .string ⟨#[]⟩], .int .i64 ah, .int .i64 n, .bool wh]) ∧ Below w.heap.size w w') (hb0 : be = 0) (hw : wh = false) (w : World) :
  Calls Try.prog 28 #[.int .i64 2, .string s] w fun e w' => e = .returned (.tuple #[.agg #[.int .i64 kd, .int .i64 fl, .string ⟨#[]⟩], .int .i64 0, .int .i64 0]) ∧ Below w.heap.size w w' := by
 have p0 := eq_true (show (0 : Int) < (s.size : Int) by omega)
 have hx0 : ∀ h : 0 < s.size, ((s[0]'h).toNat : Int) = c := fun h => (bt_at s 0 h).trans hc
 have B0 := (Below.refl w.heap.size w).alloc (Nat.le_refl _) (.cells #[.int .i64 0, .int .i64 0, .string ⟨#[]⟩] 23)
 have k0 := K3.new w (.int .i64 0) (.int .i64 0) (.string ⟨#[]⟩)
 have hmr := m_read2
 subst hb0
 subst hw
 go_enter Try.func28, Try.ntmps28
 go_wp2_with (first | (go_at_call 22; (refine (of_two _).mono ?_); rintro e w1 ⟨rfl, rfl⟩) | (go_at_call 31; (refine (hbe _).mono ?_); rintro e w1 ⟨rfl, hb1⟩; have k1 := k0.below hb1; have B1 := B0.trans (hb1.mono B0.size); clear hb1 k0 B0; have q0 := k1.c.c0; have q1 := k1.c.c1; have q2 := k1.c.c2; have f0 := k1.f0; have f1 := k1.f1; have f2 := k1.f2; have z := k1.lt) | (go_at_call 54; (refine (hrd _).mono ?_); rintro e w2 ⟨rfl, hb2⟩; have k2 := k1.below hb2; have B2 := B1.trans (hb2.mono B1.size); clear hb2 k1 B1 q0 q1 q2 f0 f1 f2 z; have q0 := k2.c.c0; have q1 := k2.c.c1; have q2 := k2.c.c2; have f0 := k2.f0; have f1 := k2.f1; have f2 := k2.f2; have z := k2.lt))
 refine bodyPost_ret (v := .tuple #[.agg #[.int .i64 kd, .int .i64 fl, .string ⟨#[]⟩], .int .i64 0, .int .i64 0]) ?_ rfl ⟨rfl, ?_⟩
 ·exact res28 _ _ _ _ _ _ _ _ ((((k2.set0 _).set1 _).set2 _).alloc _).c rfl rfl rfl
 ·repeat (first | exact B2 | (refine Below.alloc ?_ (by first | exact B2.size | (simp; have := B2.size; omega)) _) | (refine Below.setCell ?_ (by simp) _))
set_option maxHeartbeats 4000000 in
set_option maxRecDepth 100000 in
theorem take_two_long (s : ByteArray) (hs : 0 < s.size) (c : Int) (hc : bt s 0 = c) (be : Int) (hbe : ∀ w : World, Calls Try.prog 31 #[.iface 60 (.agg #[]), .int .u8 c] w fun e w' => e = .returned (.int .i64 be) ∧ Below w.heap.size w w') (kd fl ah n : Int) (wh : Bool) (hah : 0 ≤ ah ∧ ah ≤ 200) (hn : 0 ≤ n ∧ n ≤ 9007199254740992) (hrd : ∀ w : World, Calls Try.prog 54 #[.agg #[], .string s] w fun e w' => e = .returned (.tuple #[.agg #[.int .i64 kd, .int .i64 fl, .string ⟨#[]⟩], .int .i64 ah, .int .i64 n, .bool wh]) ∧ Below w.heap.size w w') (hb0 : be = 0) (hw : wh = true) (hl : n > 4000) (w : World) :
  Calls Try.prog 28 #[.int .i64 2, .string s] w fun e w' => e = .returned (.tuple #[.agg #[.int .i64 kd, .int .i64 fl, .string ⟨#[]⟩], .int .i64 0, .int .i64 11]) ∧ Below w.heap.size w w' := by
 have p0 := eq_true (show (0 : Int) < (s.size : Int) by omega)
 have hx0 : ∀ h : 0 < s.size, ((s[0]'h).toNat : Int) = c := fun h => (bt_at s 0 h).trans hc
 have B0 := (Below.refl w.heap.size w).alloc (Nat.le_refl _) (.cells #[.int .i64 0, .int .i64 0, .string ⟨#[]⟩] 23)
 have k0 := K3.new w (.int .i64 0) (.int .i64 0) (.string ⟨#[]⟩)
 have hmr := m_read2
 subst hb0
 subst hw
 go_enter Try.func28, Try.ntmps28
 go_wp2_with (first | (go_at_call 22; (refine (of_two _).mono ?_); rintro e w1 ⟨rfl, rfl⟩) | (go_at_call 31; (refine (hbe _).mono ?_); rintro e w1 ⟨rfl, hb1⟩; have k1 := k0.below hb1; have B1 := B0.trans (hb1.mono B0.size); clear hb1 k0 B0; have q0 := k1.c.c0; have q1 := k1.c.c1; have q2 := k1.c.c2; have f0 := k1.f0; have f1 := k1.f1; have f2 := k1.f2; have z := k1.lt) | (go_at_call 54; (refine (hrd _).mono ?_); rintro e w2 ⟨rfl, hb2⟩; have k2 := k1.below hb2; have B2 := B1.trans (hb2.mono B1.size); clear hb2 k1 B1 q0 q1 q2 f0 f1 f2 z; have q0 := k2.c.c0; have q1 := k2.c.c1; have q2 := k2.c.c2; have f0 := k2.f0; have f1 := k2.f1; have f2 := k2.f2; have z := k2.lt))
 refine bodyPost_ret (v := .tuple #[.agg #[.int .i64 kd, .int .i64 fl, .string ⟨#[]⟩], .int .i64 0, .int .i64 11]) ?_ rfl ⟨rfl, ?_⟩
 ·exact res28 _ _ _ _ _ _ _ _ ((((k2.set0 _).set1 _).set2 _).alloc _).c rfl rfl rfl
 ·repeat (first | exact B2 | (refine Below.alloc ?_ (by first | exact B2.size | (simp; have := B2.size; omega)) _) | (refine Below.setCell ?_ (by simp) _))
set_option maxHeartbeats 4000000 in
set_option maxRecDepth 100000 in
theorem take_two_short (s : ByteArray) (hs : 0 < s.size) (c : Int) (hc : bt s 0 = c) (be : Int) (hbe : ∀ w : World, Calls Try.prog 31 #[.iface 60 (.agg #[]), .int .u8 c] w fun e w' => e = .returned (.int .i64 be) ∧ Below w.heap.size w w') (kd fl ah n : Int) (wh : Bool) (hah : 0 ≤ ah ∧ ah ≤ 200) (hn : 0 ≤ n ∧ n ≤ 9007199254740992) (hrd : ∀ w : World, Calls Try.prog 54 #[.agg #[], .string s] w fun e w' => e = .returned (.tuple #[.agg #[.int .i64 kd, .int .i64 fl, .string ⟨#[]⟩], .int .i64 ah, .int .i64 n, .bool wh]) ∧ Below w.heap.size w w') (hb0 : be = 0) (hw : wh = true) (hl : ¬ n > 4000) (hsz : (s.size : Int) < ah + n + 4) (w : World) :
  Calls Try.prog 28 #[.int .i64 2, .string s] w fun e w' => e = .returned (.tuple #[.agg #[.int .i64 kd, .int .i64 fl, .string ⟨#[]⟩], .int .i64 0, .int .i64 0]) ∧ Below w.heap.size w w' := by
 have p0 := eq_true (show (0 : Int) < (s.size : Int) by omega)
 have hx0 : ∀ h : 0 < s.size, ((s[0]'h).toNat : Int) = c := fun h => (bt_at s 0 h).trans hc
 have B0 := (Below.refl w.heap.size w).alloc (Nat.le_refl _) (.cells #[.int .i64 0, .int .i64 0, .string ⟨#[]⟩] 23)
 have k0 := K3.new w (.int .i64 0) (.int .i64 0) (.string ⟨#[]⟩)
 have hmr := m_read2
 subst hb0
 subst hw
 go_enter Try.func28, Try.ntmps28
 go_wp2_with (first | (go_at_call 22; (refine (of_two _).mono ?_); rintro e w1 ⟨rfl, rfl⟩) | (go_at_call 31; (refine (hbe _).mono ?_); rintro e w1 ⟨rfl, hb1⟩; have k1 := k0.below hb1; have B1 := B0.trans (hb1.mono B0.size); clear hb1 k0 B0; have q0 := k1.c.c0; have q1 := k1.c.c1; have q2 := k1.c.c2; have f0 := k1.f0; have f1 := k1.f1; have f2 := k1.f2; have z := k1.lt) | (go_at_call 54; (refine (hrd _).mono ?_); rintro e w2 ⟨rfl, hb2⟩; have k2 := k1.below hb2; have B2 := B1.trans (hb2.mono B1.size); clear hb2 k1 B1 q0 q1 q2 f0 f1 f2 z; have q0 := k2.c.c0; have q1 := k2.c.c1; have q2 := k2.c.c2; have f0 := k2.f0; have f1 := k2.f1; have f2 := k2.f2; have z := k2.lt))
 refine bodyPost_ret (v := .tuple #[.agg #[.int .i64 kd, .int .i64 fl, .string ⟨#[]⟩], .int .i64 0, .int .i64 0]) ?_ rfl ⟨rfl, ?_⟩
 ·exact res28 _ _ _ _ _ _ _ _ ((((k2.set0 _).set1 _).set2 _).alloc _).c rfl rfl rfl
 ·repeat (first | exact B2 | (refine Below.alloc ?_ (by first | exact B2.size | (simp; have := B2.size; omega)) _) | (refine Below.setCell ?_ (by simp) _))
theorem str_mid (s : ByteArray) (i j : Nat) (x y : Int) (hx : x = (i : Int)) (hy : y = (j : Int)) (hij : i ≤ j) (hj : j ≤ s.size) (W : World) : (Instr.slice 9 (.string s) (some (.int .i64 x)) (some (.int .i64 y)) none).run Try.prog W = .ok (.string (s.extract i j)) W := by
 subst hx; subst hy
 simp [Instr.slice, run_underlying Try.underlying9, Instr.sliceBounds, run_sliceBound, sliced, hij, hj]
theorem str_to (s : ByteArray) (j : Nat) (y : Int) (hy : y = (j : Int)) (hj : j ≤ s.size) (W : World) : (Instr.slice 9 (.string s) none (some (.int .i64 y)) none).run Try.prog W = .ok (.string (s.extract 0 j)) W := by
 subst hy
 rw [run_slice_string_h W 9 s Try.underlying9 .i64 _ (by omega) (by omega), Int.toNat_natCast]
set_option maxHeartbeats 8000000 in
set_option maxRecDepth 100000 in
theorem take_one_wrong (s : ByteArray) (hs : 0 < s.size) (c : Int) (hc : bt s 0 = c) (hbe : ∀ w : World, Calls Try.prog 31 #[.iface 55 (.agg #[]), .int .u8 c] w fun e w' => e = .returned (.int .i64 0) ∧ Below w.heap.size w w') (kd fl : Int) (a m : Nat) (ha : a ≤ 200) (hm : m ≤ 4000) (hrd : ∀ w : World, Calls Try.prog 52 #[.agg #[], .string s] w fun e w' => e = .returned (.tuple #[.agg #[.int .i64 kd, .int .i64 fl, .string ⟨#[]⟩], .int .i64 (a : Int), .int .i64 (m : Int), .bool true]) ∧ Below w.heap.size w w') (hsz : a + m + 4 ≤ s.size) (hR : frame_Right.f 1 kd fl (s.extract a (a + m)) = some false) (w : World) :
  Calls Try.prog 28 #[.int .i64 1, .string s] w fun e w' => e = .returned (.tuple #[.agg #[.int .i64 kd, .int .i64 fl, .string (s.extract a (a + m))], .int .i64 0, .int .i64 11]) ∧ Below w.heap.size w w' := by
 have p0 := eq_true (show (0 : Int) < (s.size : Int) by omega)
 have hx0 : ∀ h : 0 < s.size, ((s[0]'h).toNat : Int) = c := fun h => (bt_at s 0 h).trans hc
 have B0 := (Below.refl w.heap.size w).alloc (Nat.le_refl _) (.cells #[.int .i64 0, .int .i64 0, .string ⟨#[]⟩] 23)
 have k0 := K3.new w (.int .i64 0) (.int .i64 0) (.string ⟨#[]⟩)
 have hmr := m_read1
 have hl : ¬ (m : Int) > 4000 := by omega
 have hsz2 : ¬ (s.size : Int) < (a : Int) + (m : Int) + 4 := by omega
 have hsz3 : (a : Int) + (m : Int) ≤ (s.size : Int) := by omega
 have hst1 := fun W : World => str_mid s a (a + m) (a : Int) ((a : Int) + (m : Int)) rfl (by omega) (by omega) (by omega) W
 have hst2 := fun W : World => str_to s (a + m) ((a : Int) + (m : Int)) (by omega) (by omega) W
 have hst3 := fun W : World => str_mid s (a + m) (a + m + 4) ((a : Int) + (m : Int)) ((a : Int) + (m : Int) + 4) (by omega) (by omega) (by omega) (by omega) W
 have hw4 : IntKind.i64.wrap ((a : Int) + (m : Int) + 4) = (a : Int) + (m : Int) + 4 := by rw [IntKind.wrap_i64]; omega
 have HR := Aside0.mk hR
 clear hR
 go_enter Try.func28, Try.ntmps28
 go_upto_region 14 with (first | (go_at_call 22; (refine (of_one _).mono ?_); rintro e w1 ⟨rfl, rfl⟩) | (go_at_call 31; (refine (hbe _).mono ?_); rintro e w1 ⟨rfl, hb1⟩; have k1 := k0.below hb1; have B1 := B0.trans (hb1.mono B0.size); clear hb1 k0 B0; have q0 := k1.c.c0; have q1 := k1.c.c1; have q2 := k1.c.c2; have f0 := k1.f0; have f1 := k1.f1; have f2 := k1.f2; have z := k1.lt) | (go_at_call 52; (refine (hrd _).mono ?_); rintro e w2 ⟨rfl, hb2⟩; have k2 := k1.below hb2; have B2 := B1.trans (hb2.mono B1.size); clear hb2 k1 B1 q0 q1 q2 f0 f1 f2 z; have q0 := k2.c.c0; have q1 := k2.c.c1; have q2 := k2.c.c2; have f0 := k2.f0; have f1 := k2.f1; have f2 := k2.f2; have z := k2.lt))
 have kA := k2.alloc (.cells #[.int .i64 kd, .int .i64 fl, .string (s.extract a (a + m))] 23)
 have kB := K3.new w2 (.int .i64 kd) (.int .i64 fl) (.string (s.extract a (a + m)))
 have BA := B2.alloc B2.size (.cells #[.int .i64 kd, .int .i64 fl, .string (s.extract a (a + m))] 23)
 clear q0 q1 q2 f0 f1 f2 z
 refine start_ (n := 17) (S := fun w' => C3 w' w2.heap.size (.int .i64 kd) (.int .i64 fl) (.string (s.extract a (a + m)))) (ds := []) #[false, false, false, false, false, false, false, false, false, false, false, false, false, false, false, false, false] (by kernel_rfl) rfl rfl kB.drew.c (fun hHeld => ?_)
 refine pure_ (i := 0) (N := some 55) (v := ?_) (a' := ?_) #[true, false, false, false, false, false, false, false, false, false, false, false, false, false, false, false, false] rfl rfl (by kernel_rfl) (fun _ _ _ h => h) (Or.inl ⟨by rfl, ?_⟩) ?_ ?_
 rotate_left
 ·intro w'
  go_simp
  with_reducible rfl
 rotate_left
 ·simp only [Act.put, Hand.z1, Hand.z2, Hand.z3, i64_w, i32_w]
  rfl
 refine take_ (i := 1) (N := some 56) (v := ?_) (a' := ?_) #[true, true, false, false, false, false, false, false, false, false, false, false, false, false, false, false, false] rfl rfl (by kernel_rfl) (fun _ _ _ h => h) (Or.inl ⟨by rfl, ?_⟩) hHeld ?_ ?_
 rotate_left
 ·rintro w' ⟨s0, s1, s2⟩
  go_simp
  with_reducible rfl
 rotate_left
 ·simp only [Act.put, Hand.z1, Hand.z2, Hand.z3, i64_w, i32_w]
  rfl
 refine one_ (i := 2) (N := some 57) #[true, true, true, false, false, false, false, false, false, false, false, false, false, false, false, false, false] rfl rfl (by kernel_rfl) (by decide) (fun K hK => ?_)
 refine goes_ Try.func14 (by kernel_rfl) rfl #[.int .i64 1, .agg #[.int .i64 kd, .int .i64 fl, .string (s.extract a (a + m))]] (by rfl) rfl rfl (by (try simp only [List.map_toArray, List.map_cons, List.map_nil]); first | done | rfl) ?_
 refine (frame_Right.calls 1 kd fl (s.extract a (a + m)) false _ HR.out).mono ?_
 rintro e w3 ⟨rfl, hb3⟩
 have kA3 := kA.drew.below hb3
 have kB3 := kB.drew.below hb3
 have B3 := BA.drew.trans (hb3.mono (by show w.heap.size ≤ (w2.alloc _).heap.size; exact BA.size))
 clear hb3 kA kB BA
 refine ⟨_, rfl, ?_⟩
 refine hK.out _ _ kB3.c (fun hHeld => ?_)
 clear hK K
 refine norm_ (a' := ?_) ?_ ?_
 rotate_left
 ·show Act.put _ (some 57) _ = _
  simp only [Act.put, Hand.z1, Hand.z2, Hand.z3, i64_w, i32_w]
  rfl
 refine pure_ (i := 3) (N := some 58) (v := ?_) (a' := ?_) #[true, true, true, true, false, false, false, false, false, false, false, false, false, false, false, false, false] rfl rfl (by kernel_rfl) (fun _ _ _ h => h) (Or.inl ⟨by rfl, ?_⟩) ?_ ?_
 rotate_left
 ·intro w'
  go_simp
  with_reducible rfl
 rotate_left
 ·simp only [Act.put, Hand.z1, Hand.z2, Hand.z3, i64_w, i32_w]
  rfl
 refine pure_ (i := 4) (N := some 59) (v := ?_) (a' := ?_) #[true, true, true, true, true, false, false, false, false, false, false, false, false, false, false, false, false] rfl rfl (by kernel_rfl) (fun _ _ _ h => h) (Or.inl ⟨by rfl, ?_⟩) ?_ ?_
 rotate_left
 ·intro w'
  go_simp
  with_reducible rfl
 rotate_left
 ·simp only [Act.put, Hand.z1, Hand.z2, Hand.z3, i64_w, i32_w]
  rfl
 refine pure_ (i := 5) (N := some 60) (v := undef) (a' := ?_) #[true, true, true, true, true, true, false, false, false, false, false, false, false, false, false, false, false] rfl rfl (by kernel_rfl) (fun _ _ _ h => h) (Or.inr ⟨by rfl, rfl⟩) ?_ ?_
 rotate_left
 ·simp only [Act.put, Hand.z1, Hand.z2, Hand.z3, i64_w, i32_w]
  rfl
 refine pure_ (i := 6) (N := some 61) (v := undef) (a' := ?_) #[true, true, true, true, true, true, true, false, false, false, false, false, false, false, false, false, false] rfl rfl (by kernel_rfl) (fun _ _ _ h => h) (Or.inr ⟨by rfl, rfl⟩) ?_ ?_
 rotate_left
 ·simp only [Act.put, Hand.z1, Hand.z2, Hand.z3, i64_w, i32_w]
  rfl
 refine pure_ (i := 7) (N := some 62) (v := undef) (a' := ?_) #[true, true, true, true, true, true, true, true, false, false, false, false, false, false, false, false, false] rfl rfl (by kernel_rfl) (fun _ _ _ h => h) (Or.inr ⟨by rfl, rfl⟩) ?_ ?_
 rotate_left
 ·simp only [Act.put, Hand.z1, Hand.z2, Hand.z3, i64_w, i32_w]
  rfl
 refine pure_ (i := 8) (N := some 63) (v := undef) (a' := ?_) #[true, true, true, true, true, true, true, true, true, false, false, false, false, false, false, false, false] rfl rfl (by kernel_rfl) (fun _ _ _ h => h) (Or.inr ⟨by rfl, rfl⟩) ?_ ?_
 rotate_left
 ·simp only [Act.put, Hand.z1, Hand.z2, Hand.z3, i64_w, i32_w]
  rfl
 refine pure_ (i := 9) (N := some 64) (v := undef) (a' := ?_) #[true, true, true, true, true, true, true, true, true, true, false, false, false, false, false, false, false] rfl rfl (by kernel_rfl) (fun _ _ _ h => h) (Or.inr ⟨by rfl, rfl⟩) ?_ ?_
 rotate_left
 ·simp only [Act.put, Hand.z1, Hand.z2, Hand.z3, i64_w, i32_w]
  rfl
 refine pure_ (i := 10) (N := some 65) (v := undef) (a' := ?_) #[true, true, true, true, true, true, true, true, true, true, true, false, false, false, false, false, false] rfl rfl (by kernel_rfl) (fun _ _ _ h => h) (Or.inr ⟨by rfl, rfl⟩) ?_ ?_
 rotate_left
 ·simp only [Act.put, Hand.z1, Hand.z2, Hand.z3, i64_w, i32_w]
  rfl
 refine pure_ (i := 11) (N := some 66) (v := undef) (a' := ?_) #[true, true, true, true, true, true, true, true, true, true, true, true, false, false, false, false, false] rfl rfl (by kernel_rfl) (fun _ _ _ h => h) (Or.inr ⟨by rfl, rfl⟩) ?_ ?_
 rotate_left
 ·simp only [Act.put, Hand.z1, Hand.z2, Hand.z3, i64_w, i32_w]
  rfl
 refine pure_ (i := 12) (N := some 67) (v := undef) (a' := ?_) #[true, true, true, true, true, true, true, true, true, true, true, true, true, false, false, false, false] rfl rfl (by kernel_rfl) (fun _ _ _ h => h) (Or.inr ⟨by rfl, rfl⟩) ?_ ?_
 rotate_left
 ·simp only [Act.put, Hand.z1, Hand.z2, Hand.z3, i64_w, i32_w]
  rfl
 refine pure_ (i := 13) (N := some 68) (v := undef) (a' := ?_) #[true, true, true, true, true, true, true, true, true, true, true, true, true, true, false, false, false] rfl rfl (by kernel_rfl) (fun _ _ _ h => h) (Or.inr ⟨by rfl, rfl⟩) ?_ ?_
 rotate_left
 ·simp only [Act.put, Hand.z1, Hand.z2, Hand.z3, i64_w, i32_w]
  rfl
 refine pure_ (i := 14) (N := some 69) (v := undef) (a' := ?_) #[true, true, true, true, true, true, true, true, true, true, true, true, true, true, true, false, false] rfl rfl (by kernel_rfl) (fun _ _ _ h => h) (Or.inr ⟨by rfl, rfl⟩) ?_ ?_
 rotate_left
 ·simp only [Act.put, Hand.z1, Hand.z2, Hand.z3, i64_w, i32_w]
  rfl
 refine pure_ (i := 15) (N := some 70) (v := undef) (a' := ?_) #[true, true, true, true, true, true, true, true, true, true, true, true, true, true, true, true, false] rfl rfl (by kernel_rfl) (fun _ _ _ h => h) (Or.inr ⟨by rfl, rfl⟩) ?_ ?_
 rotate_left
 ·simp only [Act.put, Hand.z1, Hand.z2, Hand.z3, i64_w, i32_w]
  rfl
 refine pure_ (i := 16) (N := some 71) (v := ?_) (a' := ?_) #[true, true, true, true, true, true, true, true, true, true, true, true, true, true, true, true, true] rfl rfl (by kernel_rfl) (fun _ _ _ h => h) (Or.inl ⟨by rfl, ?_⟩) ?_ ?_
 rotate_left
 ·intro w'
  go_simp
  with_reducible rfl
 rotate_left
 ·simp only [Act.put, Hand.z1, Hand.z2, Hand.z3, i64_w, i32_w]
  rfl
 refine done_ (by kernel_rfl) ?_
 have q0a := kA3.c.c0
 have q1a := kA3.c.c1
 have q2a := kA3.c.c2
 have f0a := kA3.f0
 have f1a := kA3.f1
 have f2a := kA3.f2
 have za := kA3.lt
 have q0b := kB3.c.c0
 have q1b := kB3.c.c1
 have q2b := kB3.c.c2
 have f0b := kB3.f0
 have f1b := kB3.f1
 have f2b := kB3.f2
 have zb := kB3.lt
 have hne : w2.heap.size ≠ w.heap.size := by have := B2.size; have := k2.lt; omega
 go_wp2
 refine bodyPost_ret (v := .tuple #[.agg #[.int .i64 kd, .int .i64 fl, .string (s.extract a (a + m))], .int .i64 0, .int .i64 11]) ?_ rfl ⟨rfl, ?_⟩
 ·exact res28 _ _ _ _ _ _ _ _ ((((kA3.set0 _).set1 _).set2 _)).c rfl rfl rfl
 ·repeat (first | exact B3 | (refine Below.setCell ?_ (by simp) _))
set_option maxHeartbeats 8000000 in
set_option maxRecDepth 100000 in
theorem take_one_sum (s : ByteArray) (hs : 0 < s.size) (c : Int) (hc : bt s 0 = c) (hbe : ∀ w : World, Calls Try.prog 31 #[.iface 55 (.agg #[]), .int .u8 c] w fun e w' => e = .returned (.int .i64 0) ∧ Below w.heap.size w w') (kd fl : Int) (a m : Nat) (ha : a ≤ 200) (hm : m ≤ 4000) (hrd : ∀ w : World, Calls Try.prog 52 #[.agg #[], .string s] w fun e w' => e = .returned (.tuple #[.agg #[.int .i64 kd, .int .i64 fl, .string ⟨#[]⟩], .int .i64 (a : Int), .int .i64 (m : Int), .bool true]) ∧ Below w.heap.size w w') (hsz : a + m + 4 ≤ s.size) (hR : frame_Right.f 1 kd fl (s.extract a (a + m)) = some true) (KF : Nat) (u : Int) (hu : sum_Of.f KF (s.extract 0 (a + m)) = some u) (b : ByteArray) (hb : sum_Bytes.f KF u = some b) (hbad : (b.toList == (s.extract (a + m) (a + m + 4)).toList) = false) (w : World) :
  Calls Try.prog 28 #[.int .i64 1, .string s] w fun e w' => e = .returned (.tuple #[.agg #[.int .i64 kd, .int .i64 fl, .string (s.extract a (a + m))], .int .i64 0, .int .i64 11]) ∧ Below w.heap.size w w' := by
 have p0 := eq_true (show (0 : Int) < (s.size : Int) by omega)
 have hx0 : ∀ h : 0 < s.size, ((s[0]'h).toNat : Int) = c := fun h => (bt_at s 0 h).trans hc
 have B0 := (Below.refl w.heap.size w).alloc (Nat.le_refl _) (.cells #[.int .i64 0, .int .i64 0, .string ⟨#[]⟩] 23)
 have k0 := K3.new w (.int .i64 0) (.int .i64 0) (.string ⟨#[]⟩)
 have hmr := m_read1
 have hl : ¬ (m : Int) > 4000 := by omega
 have hsz2 : ¬ (s.size : Int) < (a : Int) + (m : Int) + 4 := by omega
 have hsz3 : (a : Int) + (m : Int) ≤ (s.size : Int) := by omega
 have hst1 := fun W : World => str_mid s a (a + m) (a : Int) ((a : Int) + (m : Int)) rfl (by omega) (by omega) (by omega) W
 have hst2 := fun W : World => str_to s (a + m) ((a : Int) + (m : Int)) (by omega) (by omega) W
 have hst3 := fun W : World => str_mid s (a + m) (a + m + 4) ((a : Int) + (m : Int)) ((a : Int) + (m : Int) + 4) (by omega) (by omega) (by omega) (by omega) W
 have hw4 : IntKind.i64.wrap ((a : Int) + (m : Int) + 4) = (a : Int) + (m : Int) + 4 := by rw [IntKind.wrap_i64]; omega
 have HR := Aside0.mk hR
 have HU := Aside0.mk hu
 have HS := Aside0.mk hb
 clear hR hu hb
 have hbad2 : (b.toList != (s.extract (a + m) (a + m + 4)).toList) = true := by simp [bne, hbad]
 go_enter Try.func28, Try.ntmps28
 go_upto_region 14 with (first | (go_at_call 22; (refine (of_one _).mono ?_); rintro e w1 ⟨rfl, rfl⟩) | (go_at_call 31; (refine (hbe _).mono ?_); rintro e w1 ⟨rfl, hb1⟩; have k1 := k0.below hb1; have B1 := B0.trans (hb1.mono B0.size); clear hb1 k0 B0; have q0 := k1.c.c0; have q1 := k1.c.c1; have q2 := k1.c.c2; have f0 := k1.f0; have f1 := k1.f1; have f2 := k1.f2; have z := k1.lt) | (go_at_call 52; (refine (hrd _).mono ?_); rintro e w2 ⟨rfl, hb2⟩; have k2 := k1.below hb2; have B2 := B1.trans (hb2.mono B1.size); clear hb2 k1 B1 q0 q1 q2 f0 f1 f2 z; have q0 := k2.c.c0; have q1 := k2.c.c1; have q2 := k2.c.c2; have f0 := k2.f0; have f1 := k2.f1; have f2 := k2.f2; have z := k2.lt))
 have kA := k2.alloc (.cells #[.int .i64 kd, .int .i64 fl, .string (s.extract a (a + m))] 23)
 have kB := K3.new w2 (.int .i64 kd) (.int .i64 fl) (.string (s.extract a (a + m)))
 have BA := B2.alloc B2.size (.cells #[.int .i64 kd, .int .i64 fl, .string (s.extract a (a + m))] 23)
 clear q0 q1 q2 f0 f1 f2 z
 refine start_ (n := 17) (S := fun w' => C3 w' w2.heap.size (.int .i64 kd) (.int .i64 fl) (.string (s.extract a (a + m)))) (ds := []) #[false, false, false, false, false, false, false, false, false, false, false, false, false, false, false, false, false] (by kernel_rfl) rfl rfl kB.drew.c (fun hHeld => ?_)
 refine pure_ (i := 0) (N := some 55) (v := ?_) (a' := ?_) #[true, false, false, false, false, false, false, false, false, false, false, false, false, false, false, false, false] rfl rfl (by kernel_rfl) (fun _ _ _ h => h) (Or.inl ⟨by rfl, ?_⟩) ?_ ?_
 rotate_left
 ·intro w'
  go_simp
  with_reducible rfl
 rotate_left
 ·simp only [Act.put, Hand.z1, Hand.z2, Hand.z3, i64_w, i32_w]
  rfl
 refine take_ (i := 1) (N := some 56) (v := ?_) (a' := ?_) #[true, true, false, false, false, false, false, false, false, false, false, false, false, false, false, false, false] rfl rfl (by kernel_rfl) (fun _ _ _ h => h) (Or.inl ⟨by rfl, ?_⟩) hHeld ?_ ?_
 rotate_left
 ·rintro w' ⟨s0, s1, s2⟩
  go_simp
  with_reducible rfl
 rotate_left
 ·simp only [Act.put, Hand.z1, Hand.z2, Hand.z3, i64_w, i32_w]
  rfl
 refine one_ (i := 2) (N := some 57) #[true, true, true, false, false, false, false, false, false, false, false, false, false, false, false, false, false] rfl rfl (by kernel_rfl) (by decide) (fun K hK => ?_)
 refine goes_ Try.func14 (by kernel_rfl) rfl #[.int .i64 1, .agg #[.int .i64 kd, .int .i64 fl, .string (s.extract a (a + m))]] (by rfl) rfl rfl (by (try simp only [List.map_toArray, List.map_cons, List.map_nil]); first | done | rfl) ?_
 refine (frame_Right.calls 1 kd fl (s.extract a (a + m)) true _ HR.out).mono ?_
 rintro e w3 ⟨rfl, hb3⟩
 have kA3 := kA.drew.below hb3
 have kB3 := kB.drew.below hb3
 have B3 := BA.drew.trans (hb3.mono (by show w.heap.size ≤ (w2.alloc _).heap.size; exact BA.size))
 clear hb3 kA kB BA
 refine ⟨_, rfl, ?_⟩
 refine hK.out _ _ kB3.c (fun hHeld => ?_)
 clear hK K
 refine norm_ (a' := ?_) ?_ ?_
 rotate_left
 ·show Act.put _ (some 57) _ = _
  simp only [Act.put, Hand.z1, Hand.z2, Hand.z3, i64_w, i32_w]
  rfl
 refine pure_ (i := 3) (N := some 58) (v := ?_) (a' := ?_) #[true, true, true, true, false, false, false, false, false, false, false, false, false, false, false, false, false] rfl rfl (by kernel_rfl) (fun _ _ _ h => h) (Or.inl ⟨by rfl, ?_⟩) ?_ ?_
 rotate_left
 ·intro w'
  go_simp
  with_reducible rfl
 rotate_left
 ·simp only [Act.put, Hand.z1, Hand.z2, Hand.z3, i64_w, i32_w]
  rfl
 refine pure_ (i := 4) (N := some 59) (v := ?_) (a' := ?_) #[true, true, true, true, true, false, false, false, false, false, false, false, false, false, false, false, false] rfl rfl (by kernel_rfl) (fun _ _ _ h => h) (Or.inl ⟨by rfl, ?_⟩) ?_ ?_
 rotate_left
 ·intro w'
  go_simp
  with_reducible rfl
 rotate_left
 ·simp only [Act.put, Hand.z1, Hand.z2, Hand.z3, i64_w, i32_w]
  rfl
 refine pure_ (i := 5) (N := some 60) (v := ?_) (a' := ?_) #[true, true, true, true, true, true, false, false, false, false, false, false, false, false, false, false, false] rfl rfl (by kernel_rfl) (fun _ _ _ h => h) (Or.inl ⟨by rfl, ?_⟩) ?_ ?_
 rotate_left
 ·intro w'
  go_simp
  with_reducible rfl
 rotate_left
 ·simp only [Act.put, Hand.z1, Hand.z2, Hand.z3, i64_w, i32_w]
  rfl
 refine pure_ (i := 6) (N := some 61) (v := ?_) (a' := ?_) #[true, true, true, true, true, true, true, false, false, false, false, false, false, false, false, false, false] rfl rfl (by kernel_rfl) (fun _ _ _ h => h) (Or.inl ⟨by rfl, ?_⟩) ?_ ?_
 rotate_left
 ·intro w'
  go_simp
  with_reducible rfl
 rotate_left
 ·simp only [Act.put, Hand.z1, Hand.z2, Hand.z3, i64_w, i32_w]
  rfl
 refine pure_ (i := 7) (N := some 62) (v := ?_) (a' := ?_) #[true, true, true, true, true, true, true, true, false, false, false, false, false, false, false, false, false] rfl rfl (by kernel_rfl) (fun _ _ _ h => h) (Or.inl ⟨by rfl, ?_⟩) ?_ ?_
 rotate_left
 ·intro w'
  go_simp
  with_reducible rfl
 rotate_left
 ·simp only [Act.put, Hand.z1, Hand.z2, Hand.z3, i64_w, i32_w]
  rfl
 refine pure_ (i := 10) (N := some 65) (v := ?_) (a' := ?_) #[true, true, true, true, true, true, true, true, false, false, true, false, false, false, false, false, false] rfl rfl (by kernel_rfl) (fun _ _ _ h => h) (Or.inl ⟨by rfl, ?_⟩) ?_ ?_
 rotate_left
 ·intro w'
  go_simp
  with_reducible rfl
 rotate_left
 ·simp only [Act.put, Hand.z1, Hand.z2, Hand.z3, i64_w, i32_w]
  rfl
 refine pure_ (i := 11) (N := some 66) (v := ?_) (a' := ?_) #[true, true, true, true, true, true, true, true, false, false, true, true, false, false, false, false, false] rfl rfl (by kernel_rfl) (fun _ _ _ h => h) (Or.inl ⟨by rfl, ?_⟩) ?_ ?_
 rotate_left
 ·intro w'
  go_simp
  with_reducible rfl
 rotate_left
 ·simp only [Act.put, Hand.z1, Hand.z2, Hand.z3, i64_w, i32_w]
  rfl
 refine pure_ (i := 12) (N := some 67) (v := ?_) (a' := ?_) #[true, true, true, true, true, true, true, true, false, false, true, true, true, false, false, false, false] rfl rfl (by kernel_rfl) (fun _ _ _ h => h) (Or.inl ⟨by rfl, ?_⟩) ?_ ?_
 rotate_left
 ·intro w'
  go_simp
  with_reducible rfl
 rotate_left
 ·simp only [Act.put, Hand.z1, Hand.z2, Hand.z3, i64_w, i32_w]
  rfl
 refine pure_ (i := 13) (N := some 68) (v := ?_) (a' := ?_) #[true, true, true, true, true, true, true, true, false, false, true, true, true, true, false, false, false] rfl rfl (by kernel_rfl) (fun _ _ _ h => h) (Or.inl ⟨by rfl, ?_⟩) ?_ ?_
 rotate_left
 ·intro w'
  go_simp
  with_reducible rfl
 rotate_left
 ·simp only [Act.put, Hand.z1, Hand.z2, Hand.z3, i64_w, i32_w]
  rfl
 refine pure_ (i := 14) (N := some 69) (v := ?_) (a' := ?_) #[true, true, true, true, true, true, true, true, false, false, true, true, true, true, true, false, false] rfl rfl (by kernel_rfl) (fun _ _ _ h => h) (Or.inl ⟨by rfl, ?_⟩) ?_ ?_
 rotate_left
 ·intro w'
  go_simp
  with_reducible rfl
 rotate_left
 ·simp only [Act.put, Hand.z1, Hand.z2, Hand.z3, i64_w, i32_w]
  rfl
 refine one_ (i := 8) (N := some 63) #[true, true, true, true, true, true, true, true, true, false, true, true, true, true, true, false, false] rfl rfl (by kernel_rfl) (by decide) (fun K hK => ?_)
 refine goes_ Try.func24 (by kernel_rfl) rfl #[.string (s.extract 0 (a + m))] (by rfl) rfl rfl (by (try simp only [List.map_toArray, List.map_cons, List.map_nil]); first | done | rfl) ?_
 refine (sum_Of.calls KF (s.extract 0 (a + m)) u _ HU.out).mono ?_
 rintro e w4 ⟨rfl, ⟨nd, rfl⟩⟩
 have kA4 := kA3.drewN nd
 have kB4 := kB3.drewN nd
 have B4 := pw_below_drewN B3 nd
 clear kA3 kB3 B3
 generalize w3.drewN nd = w4 at kA4 kB4 B4 ⊢
 refine ⟨_, rfl, ?_⟩
 refine hK.out _ _ kB4.c (fun hHeld => ?_)
 clear hK K
 refine norm_ (a' := ?_) ?_ ?_
 rotate_left
 ·show Act.put _ (some 63) _ = _
  simp only [Act.put, Hand.z1, Hand.z2, Hand.z3, i64_w, i32_w]
  rfl
 refine one_ (i := 9) (N := some 64) #[true, true, true, true, true, true, true, true, true, true, true, true, true, true, true, false, false] rfl rfl (by kernel_rfl) (by decide) (fun K hK => ?_)
 refine goes_ Try.func23 (by kernel_rfl) rfl #[.int .i64 u] (by rfl) rfl rfl (by (try simp only [List.map_toArray, List.map_cons, List.map_nil]); first | done | rfl) ?_
 refine (sum_Bytes.calls KF u b _ HS.out).mono ?_
 rintro e w5 ⟨rfl, hb5⟩
 have kA5 := kA4.below hb5
 have kB5 := kB4.below hb5
 have B5 := B4.trans (hb5.mono B4.size)
 clear kA4 kB4 B4 hb5
 refine ⟨_, rfl, ?_⟩
 refine hK.out _ _ kB5.c (fun hHeld => ?_)
 clear hK K
 refine norm_ (a' := ?_) ?_ ?_
 rotate_left
 ·show Act.put _ (some 64) _ = _
  simp only [Act.put, Hand.z1, Hand.z2, Hand.z3, i64_w, i32_w]
  rfl
 refine pure_ (i := 15) (N := some 70) (v := ?_) (a' := ?_) #[true, true, true, true, true, true, true, true, true, true, true, true, true, true, true, true, false] rfl rfl (by kernel_rfl) (fun _ _ _ h => h) (Or.inl ⟨by rfl, ?_⟩) ?_ ?_
 rotate_left
 ·intro w'
  go_simp
  with_reducible rfl
 rotate_left
 ·simp only [Act.put, Hand.z1, Hand.z2, Hand.z3, i64_w, i32_w]
  rfl
 refine pure_ (i := 16) (N := some 71) (v := ?_) (a' := ?_) #[true, true, true, true, true, true, true, true, true, true, true, true, true, true, true, true, true] rfl rfl (by kernel_rfl) (fun _ _ _ h => h) (Or.inl ⟨by rfl, ?_⟩) ?_ ?_
 rotate_left
 ·intro w'
  go_simp
  with_reducible rfl
 rotate_left
 ·simp only [Act.put, Hand.z1, Hand.z2, Hand.z3, i64_w, i32_w]
  rfl
 refine done_ (by kernel_rfl) ?_
 have q0a := kA5.c.c0
 have q1a := kA5.c.c1
 have q2a := kA5.c.c2
 have f0a := kA5.f0
 have f1a := kA5.f1
 have f2a := kA5.f2
 have za := kA5.lt
 have q0b := kB5.c.c0
 have q1b := kB5.c.c1
 have q2b := kB5.c.c2
 have f0b := kB5.f0
 have f1b := kB5.f1
 have f2b := kB5.f2
 have zb := kB5.lt
 have hne : w2.heap.size ≠ w.heap.size := by have := B2.size; have := k2.lt; omega
 go_wp2
 refine bodyPost_ret (v := .tuple #[.agg #[.int .i64 kd, .int .i64 fl, .string (s.extract a (a + m))], .int .i64 0, .int .i64 11]) ?_ rfl ⟨rfl, ?_⟩
 ·exact res28 _ _ _ _ _ _ _ _ ((((kA5.set0 _).set1 _).set2 _)).c rfl rfl rfl
 ·repeat (first | exact B5 | (refine Below.setCell ?_ (by simp) _))
set_option maxHeartbeats 8000000 in
set_option maxRecDepth 100000 in
theorem take_one_ok (s : ByteArray) (hs : 0 < s.size) (c : Int) (hc : bt s 0 = c) (hbe : ∀ w : World, Calls Try.prog 31 #[.iface 55 (.agg #[]), .int .u8 c] w fun e w' => e = .returned (.int .i64 0) ∧ Below w.heap.size w w') (kd fl : Int) (a m : Nat) (ha : a ≤ 200) (hm : m ≤ 4000) (hrd : ∀ w : World, Calls Try.prog 52 #[.agg #[], .string s] w fun e w' => e = .returned (.tuple #[.agg #[.int .i64 kd, .int .i64 fl, .string ⟨#[]⟩], .int .i64 (a : Int), .int .i64 (m : Int), .bool true]) ∧ Below w.heap.size w w') (hsz : a + m + 4 ≤ s.size) (hR : frame_Right.f 1 kd fl (s.extract a (a + m)) = some true) (KF : Nat) (u : Int) (hu : sum_Of.f KF (s.extract 0 (a + m)) = some u) (b : ByteArray) (hb : sum_Bytes.f KF u = some b) (hbad : (b.toList == (s.extract (a + m) (a + m + 4)).toList) = true) (w : World) :
  Calls Try.prog 28 #[.int .i64 1, .string s] w fun e w' => e = .returned (.tuple #[.agg #[.int .i64 kd, .int .i64 fl, .string (s.extract a (a + m))], .int .i64 ((a : Int) + (m : Int) + 4), .int .i64 0]) ∧ Below w.heap.size w w' := by
 have p0 := eq_true (show (0 : Int) < (s.size : Int) by omega)
 have hx0 : ∀ h : 0 < s.size, ((s[0]'h).toNat : Int) = c := fun h => (bt_at s 0 h).trans hc
 have B0 := (Below.refl w.heap.size w).alloc (Nat.le_refl _) (.cells #[.int .i64 0, .int .i64 0, .string ⟨#[]⟩] 23)
 have k0 := K3.new w (.int .i64 0) (.int .i64 0) (.string ⟨#[]⟩)
 have hmr := m_read1
 have hl : ¬ (m : Int) > 4000 := by omega
 have hsz2 : ¬ (s.size : Int) < (a : Int) + (m : Int) + 4 := by omega
 have hsz3 : (a : Int) + (m : Int) ≤ (s.size : Int) := by omega
 have hst1 := fun W : World => str_mid s a (a + m) (a : Int) ((a : Int) + (m : Int)) rfl (by omega) (by omega) (by omega) W
 have hst2 := fun W : World => str_to s (a + m) ((a : Int) + (m : Int)) (by omega) (by omega) W
 have hst3 := fun W : World => str_mid s (a + m) (a + m + 4) ((a : Int) + (m : Int)) ((a : Int) + (m : Int) + 4) (by omega) (by omega) (by omega) (by omega) W
 have hw4 : IntKind.i64.wrap ((a : Int) + (m : Int) + 4) = (a : Int) + (m : Int) + 4 := by rw [IntKind.wrap_i64]; omega
 have HR := Aside0.mk hR
 have HU := Aside0.mk hu
 have HS := Aside0.mk hb
 clear hR hu hb
 have hbad2 : (b.toList != (s.extract (a + m) (a + m + 4)).toList) = false := by simp [bne, hbad]
 go_enter Try.func28, Try.ntmps28
 go_upto_region 14 with (first | (go_at_call 22; (refine (of_one _).mono ?_); rintro e w1 ⟨rfl, rfl⟩) | (go_at_call 31; (refine (hbe _).mono ?_); rintro e w1 ⟨rfl, hb1⟩; have k1 := k0.below hb1; have B1 := B0.trans (hb1.mono B0.size); clear hb1 k0 B0; have q0 := k1.c.c0; have q1 := k1.c.c1; have q2 := k1.c.c2; have f0 := k1.f0; have f1 := k1.f1; have f2 := k1.f2; have z := k1.lt) | (go_at_call 52; (refine (hrd _).mono ?_); rintro e w2 ⟨rfl, hb2⟩; have k2 := k1.below hb2; have B2 := B1.trans (hb2.mono B1.size); clear hb2 k1 B1 q0 q1 q2 f0 f1 f2 z; have q0 := k2.c.c0; have q1 := k2.c.c1; have q2 := k2.c.c2; have f0 := k2.f0; have f1 := k2.f1; have f2 := k2.f2; have z := k2.lt))
 have kA := k2.alloc (.cells #[.int .i64 kd, .int .i64 fl, .string (s.extract a (a + m))] 23)
 have kB := K3.new w2 (.int .i64 kd) (.int .i64 fl) (.string (s.extract a (a + m)))
 have BA := B2.alloc B2.size (.cells #[.int .i64 kd, .int .i64 fl, .string (s.extract a (a + m))] 23)
 clear q0 q1 q2 f0 f1 f2 z
 refine start_ (n := 17) (S := fun w' => C3 w' w2.heap.size (.int .i64 kd) (.int .i64 fl) (.string (s.extract a (a + m)))) (ds := []) #[false, false, false, false, false, false, false, false, false, false, false, false, false, false, false, false, false] (by kernel_rfl) rfl rfl kB.drew.c (fun hHeld => ?_)
 refine pure_ (i := 0) (N := some 55) (v := ?_) (a' := ?_) #[true, false, false, false, false, false, false, false, false, false, false, false, false, false, false, false, false] rfl rfl (by kernel_rfl) (fun _ _ _ h => h) (Or.inl ⟨by rfl, ?_⟩) ?_ ?_
 rotate_left
 ·intro w'
  go_simp
  with_reducible rfl
 rotate_left
 ·simp only [Act.put, Hand.z1, Hand.z2, Hand.z3, i64_w, i32_w]
  rfl
 refine take_ (i := 1) (N := some 56) (v := ?_) (a' := ?_) #[true, true, false, false, false, false, false, false, false, false, false, false, false, false, false, false, false] rfl rfl (by kernel_rfl) (fun _ _ _ h => h) (Or.inl ⟨by rfl, ?_⟩) hHeld ?_ ?_
 rotate_left
 ·rintro w' ⟨s0, s1, s2⟩
  go_simp
  with_reducible rfl
 rotate_left
 ·simp only [Act.put, Hand.z1, Hand.z2, Hand.z3, i64_w, i32_w]
  rfl
 refine one_ (i := 2) (N := some 57) #[true, true, true, false, false, false, false, false, false, false, false, false, false, false, false, false, false] rfl rfl (by kernel_rfl) (by decide) (fun K hK => ?_)
 refine goes_ Try.func14 (by kernel_rfl) rfl #[.int .i64 1, .agg #[.int .i64 kd, .int .i64 fl, .string (s.extract a (a + m))]] (by rfl) rfl rfl (by (try simp only [List.map_toArray, List.map_cons, List.map_nil]); first | done | rfl) ?_
 refine (frame_Right.calls 1 kd fl (s.extract a (a + m)) true _ HR.out).mono ?_
 rintro e w3 ⟨rfl, hb3⟩
 have kA3 := kA.drew.below hb3
 have kB3 := kB.drew.below hb3
 have B3 := BA.drew.trans (hb3.mono (by show w.heap.size ≤ (w2.alloc _).heap.size; exact BA.size))
 clear hb3 kA kB BA
 refine ⟨_, rfl, ?_⟩
 refine hK.out _ _ kB3.c (fun hHeld => ?_)
 clear hK K
 refine norm_ (a' := ?_) ?_ ?_
 rotate_left
 ·show Act.put _ (some 57) _ = _
  simp only [Act.put, Hand.z1, Hand.z2, Hand.z3, i64_w, i32_w]
  rfl
 refine pure_ (i := 3) (N := some 58) (v := ?_) (a' := ?_) #[true, true, true, true, false, false, false, false, false, false, false, false, false, false, false, false, false] rfl rfl (by kernel_rfl) (fun _ _ _ h => h) (Or.inl ⟨by rfl, ?_⟩) ?_ ?_
 rotate_left
 ·intro w'
  go_simp
  with_reducible rfl
 rotate_left
 ·simp only [Act.put, Hand.z1, Hand.z2, Hand.z3, i64_w, i32_w]
  rfl
 refine pure_ (i := 4) (N := some 59) (v := ?_) (a' := ?_) #[true, true, true, true, true, false, false, false, false, false, false, false, false, false, false, false, false] rfl rfl (by kernel_rfl) (fun _ _ _ h => h) (Or.inl ⟨by rfl, ?_⟩) ?_ ?_
 rotate_left
 ·intro w'
  go_simp
  with_reducible rfl
 rotate_left
 ·simp only [Act.put, Hand.z1, Hand.z2, Hand.z3, i64_w, i32_w]
  rfl
 refine pure_ (i := 5) (N := some 60) (v := ?_) (a' := ?_) #[true, true, true, true, true, true, false, false, false, false, false, false, false, false, false, false, false] rfl rfl (by kernel_rfl) (fun _ _ _ h => h) (Or.inl ⟨by rfl, ?_⟩) ?_ ?_
 rotate_left
 ·intro w'
  go_simp
  with_reducible rfl
 rotate_left
 ·simp only [Act.put, Hand.z1, Hand.z2, Hand.z3, i64_w, i32_w]
  rfl
 refine pure_ (i := 6) (N := some 61) (v := ?_) (a' := ?_) #[true, true, true, true, true, true, true, false, false, false, false, false, false, false, false, false, false] rfl rfl (by kernel_rfl) (fun _ _ _ h => h) (Or.inl ⟨by rfl, ?_⟩) ?_ ?_
 rotate_left
 ·intro w'
  go_simp
  with_reducible rfl
 rotate_left
 ·simp only [Act.put, Hand.z1, Hand.z2, Hand.z3, i64_w, i32_w]
  rfl
 refine pure_ (i := 7) (N := some 62) (v := ?_) (a' := ?_) #[true, true, true, true, true, true, true, true, false, false, false, false, false, false, false, false, false] rfl rfl (by kernel_rfl) (fun _ _ _ h => h) (Or.inl ⟨by rfl, ?_⟩) ?_ ?_
 rotate_left
 ·intro w'
  go_simp
  with_reducible rfl
 rotate_left
 ·simp only [Act.put, Hand.z1, Hand.z2, Hand.z3, i64_w, i32_w]
  rfl
 refine pure_ (i := 10) (N := some 65) (v := ?_) (a' := ?_) #[true, true, true, true, true, true, true, true, false, false, true, false, false, false, false, false, false] rfl rfl (by kernel_rfl) (fun _ _ _ h => h) (Or.inl ⟨by rfl, ?_⟩) ?_ ?_
 rotate_left
 ·intro w'
  go_simp
  with_reducible rfl
 rotate_left
 ·simp only [Act.put, Hand.z1, Hand.z2, Hand.z3, i64_w, i32_w]
  rfl
 refine pure_ (i := 11) (N := some 66) (v := ?_) (a' := ?_) #[true, true, true, true, true, true, true, true, false, false, true, true, false, false, false, false, false] rfl rfl (by kernel_rfl) (fun _ _ _ h => h) (Or.inl ⟨by rfl, ?_⟩) ?_ ?_
 rotate_left
 ·intro w'
  go_simp
  with_reducible rfl
 rotate_left
 ·simp only [Act.put, Hand.z1, Hand.z2, Hand.z3, i64_w, i32_w]
  rfl
 refine pure_ (i := 12) (N := some 67) (v := ?_) (a' := ?_) #[true, true, true, true, true, true, true, true, false, false, true, true, true, false, false, false, false] rfl rfl (by kernel_rfl) (fun _ _ _ h => h) (Or.inl ⟨by rfl, ?_⟩) ?_ ?_
 rotate_left
 ·intro w'
  go_simp
  with_reducible rfl
 rotate_left
 ·simp only [Act.put, Hand.z1, Hand.z2, Hand.z3, i64_w, i32_w]
  rfl
 refine pure_ (i := 13) (N := some 68) (v := ?_) (a' := ?_) #[true, true, true, true, true, true, true, true, false, false, true, true, true, true, false, false, false] rfl rfl (by kernel_rfl) (fun _ _ _ h => h) (Or.inl ⟨by rfl, ?_⟩) ?_ ?_
 rotate_left
 ·intro w'
  go_simp
  with_reducible rfl
 rotate_left
 ·simp only [Act.put, Hand.z1, Hand.z2, Hand.z3, i64_w, i32_w]
  rfl
 refine pure_ (i := 14) (N := some 69) (v := ?_) (a' := ?_) #[true, true, true, true, true, true, true, true, false, false, true, true, true, true, true, false, false] rfl rfl (by kernel_rfl) (fun _ _ _ h => h) (Or.inl ⟨by rfl, ?_⟩) ?_ ?_
 rotate_left
 ·intro w'
  go_simp
  with_reducible rfl
 rotate_left
 ·simp only [Act.put, Hand.z1, Hand.z2, Hand.z3, i64_w, i32_w]
  rfl
 refine one_ (i := 8) (N := some 63) #[true, true, true, true, true, true, true, true, true, false, true, true, true, true, true, false, false] rfl rfl (by kernel_rfl) (by decide) (fun K hK => ?_)
 refine goes_ Try.func24 (by kernel_rfl) rfl #[.string (s.extract 0 (a + m))] (by rfl) rfl rfl (by (try simp only [List.map_toArray, List.map_cons, List.map_nil]); first | done | rfl) ?_
 refine (sum_Of.calls KF (s.extract 0 (a + m)) u _ HU.out).mono ?_
 rintro e w4 ⟨rfl, ⟨nd, rfl⟩⟩
 have kA4 := kA3.drewN nd
 have kB4 := kB3.drewN nd
 have B4 := pw_below_drewN B3 nd
 clear kA3 kB3 B3
 generalize w3.drewN nd = w4 at kA4 kB4 B4 ⊢
 refine ⟨_, rfl, ?_⟩
 refine hK.out _ _ kB4.c (fun hHeld => ?_)
 clear hK K
 refine norm_ (a' := ?_) ?_ ?_
 rotate_left
 ·show Act.put _ (some 63) _ = _
  simp only [Act.put, Hand.z1, Hand.z2, Hand.z3, i64_w, i32_w]
  rfl
 refine one_ (i := 9) (N := some 64) #[true, true, true, true, true, true, true, true, true, true, true, true, true, true, true, false, false] rfl rfl (by kernel_rfl) (by decide) (fun K hK => ?_)
 refine goes_ Try.func23 (by kernel_rfl) rfl #[.int .i64 u] (by rfl) rfl rfl (by (try simp only [List.map_toArray, List.map_cons, List.map_nil]); first | done | rfl) ?_
 refine (sum_Bytes.calls KF u b _ HS.out).mono ?_
 rintro e w5 ⟨rfl, hb5⟩
 have kA5 := kA4.below hb5
 have kB5 := kB4.below hb5
 have B5 := B4.trans (hb5.mono B4.size)
 clear kA4 kB4 B4 hb5
 refine ⟨_, rfl, ?_⟩
 refine hK.out _ _ kB5.c (fun hHeld => ?_)
 clear hK K
 refine norm_ (a' := ?_) ?_ ?_
 rotate_left
 ·show Act.put _ (some 64) _ = _
  simp only [Act.put, Hand.z1, Hand.z2, Hand.z3, i64_w, i32_w]
  rfl
 refine pure_ (i := 15) (N := some 70) (v := ?_) (a' := ?_) #[true, true, true, true, true, true, true, true, true, true, true, true, true, true, true, true, false] rfl rfl (by kernel_rfl) (fun _ _ _ h => h) (Or.inl ⟨by rfl, ?_⟩) ?_ ?_
 rotate_left
 ·intro w'
  go_simp
  with_reducible rfl
 rotate_left
 ·simp only [Act.put, Hand.z1, Hand.z2, Hand.z3, i64_w, i32_w]
  rfl
 refine pure_ (i := 16) (N := some 71) (v := ?_) (a' := ?_) #[true, true, true, true, true, true, true, true, true, true, true, true, true, true, true, true, true] rfl rfl (by kernel_rfl) (fun _ _ _ h => h) (Or.inl ⟨by rfl, ?_⟩) ?_ ?_
 rotate_left
 ·intro w'
  go_simp
  with_reducible rfl
 rotate_left
 ·simp only [Act.put, Hand.z1, Hand.z2, Hand.z3, i64_w, i32_w]
  rfl
 refine done_ (by kernel_rfl) ?_
 have q0a := kA5.c.c0
 have q1a := kA5.c.c1
 have q2a := kA5.c.c2
 have f0a := kA5.f0
 have f1a := kA5.f1
 have f2a := kA5.f2
 have za := kA5.lt
 have q0b := kB5.c.c0
 have q1b := kB5.c.c1
 have q2b := kB5.c.c2
 have f0b := kB5.f0
 have f1b := kB5.f1
 have f2b := kB5.f2
 have zb := kB5.lt
 have hne : w2.heap.size ≠ w.heap.size := by have := B2.size; have := k2.lt; omega
 go_wp2
 refine bodyPost_ret (v := .tuple #[.agg #[.int .i64 kd, .int .i64 fl, .string (s.extract a (a + m))], .int .i64 ((a : Int) + (m : Int) + 4), .int .i64 0]) ?_ rfl ⟨rfl, ?_⟩
 ·exact res28 _ _ _ _ _ _ _ _ ((((kA5.set0 _).set1 _).set2 _)).c rfl rfl rfl
 ·repeat (first | exact B5 | (refine Below.setCell ?_ (by simp) _))
set_option maxHeartbeats 8000000 in
set_option maxRecDepth 100000 in
theorem take_two_wrong (s : ByteArray) (hs : 0 < s.size) (c : Int) (hc : bt s 0 = c) (hbe : ∀ w : World, Calls Try.prog 31 #[.iface 60 (.agg #[]), .int .u8 c] w fun e w' => e = .returned (.int .i64 0) ∧ Below w.heap.size w w') (kd fl : Int) (a m : Nat) (ha : a ≤ 200) (hm : m ≤ 4000) (hrd : ∀ w : World, Calls Try.prog 54 #[.agg #[], .string s] w fun e w' => e = .returned (.tuple #[.agg #[.int .i64 kd, .int .i64 fl, .string ⟨#[]⟩], .int .i64 (a : Int), .int .i64 (m : Int), .bool true]) ∧ Below w.heap.size w w') (hsz : a + m + 4 ≤ s.size) (hR : frame_Right.f 2 kd fl (s.extract a (a + m)) = some false) (w : World) :
  Calls Try.prog 28 #[.int .i64 2, .string s] w fun e w' => e = .returned (.tuple #[.agg #[.int .i64 kd, .int .i64 fl, .string (s.extract a (a + m))], .int .i64 0, .int .i64 11]) ∧ Below w.heap.size w w' := by
 have p0 := eq_true (show (0 : Int) < (s.size : Int) by omega)
 have hx0 : ∀ h : 0 < s.size, ((s[0]'h).toNat : Int) = c := fun h => (bt_at s 0 h).trans hc
 have B0 := (Below.refl w.heap.size w).alloc (Nat.le_refl _) (.cells #[.int .i64 0, .int .i64 0, .string ⟨#[]⟩] 23)
 have k0 := K3.new w (.int .i64 0) (.int .i64 0) (.string ⟨#[]⟩)
 have hmr := m_read2
 have hl : ¬ (m : Int) > 4000 := by omega
 have hsz2 : ¬ (s.size : Int) < (a : Int) + (m : Int) + 4 := by omega
 have hsz3 : (a : Int) + (m : Int) ≤ (s.size : Int) := by omega
 have hst1 := fun W : World => str_mid s a (a + m) (a : Int) ((a : Int) + (m : Int)) rfl (by omega) (by omega) (by omega) W
 have hst2 := fun W : World => str_to s (a + m) ((a : Int) + (m : Int)) (by omega) (by omega) W
 have hst3 := fun W : World => str_mid s (a + m) (a + m + 4) ((a : Int) + (m : Int)) ((a : Int) + (m : Int) + 4) (by omega) (by omega) (by omega) (by omega) W
 have hw4 : IntKind.i64.wrap ((a : Int) + (m : Int) + 4) = (a : Int) + (m : Int) + 4 := by rw [IntKind.wrap_i64]; omega
 have HR := Aside0.mk hR
 clear hR
 go_enter Try.func28, Try.ntmps28
 go_upto_region 14 with (first | (go_at_call 22; (refine (of_two _).mono ?_); rintro e w1 ⟨rfl, rfl⟩) | (go_at_call 31; (refine (hbe _).mono ?_); rintro e w1 ⟨rfl, hb1⟩; have k1 := k0.below hb1; have B1 := B0.trans (hb1.mono B0.size); clear hb1 k0 B0; have q0 := k1.c.c0; have q1 := k1.c.c1; have q2 := k1.c.c2; have f0 := k1.f0; have f1 := k1.f1; have f2 := k1.f2; have z := k1.lt) | (go_at_call 54; (refine (hrd _).mono ?_); rintro e w2 ⟨rfl, hb2⟩; have k2 := k1.below hb2; have B2 := B1.trans (hb2.mono B1.size); clear hb2 k1 B1 q0 q1 q2 f0 f1 f2 z; have q0 := k2.c.c0; have q1 := k2.c.c1; have q2 := k2.c.c2; have f0 := k2.f0; have f1 := k2.f1; have f2 := k2.f2; have z := k2.lt))
 have kA := k2.alloc (.cells #[.int .i64 kd, .int .i64 fl, .string (s.extract a (a + m))] 23)
 have kB := K3.new w2 (.int .i64 kd) (.int .i64 fl) (.string (s.extract a (a + m)))
 have BA := B2.alloc B2.size (.cells #[.int .i64 kd, .int .i64 fl, .string (s.extract a (a + m))] 23)
 clear q0 q1 q2 f0 f1 f2 z
 refine start_ (n := 17) (S := fun w' => C3 w' w2.heap.size (.int .i64 kd) (.int .i64 fl) (.string (s.extract a (a + m)))) (ds := []) #[false, false, false, false, false, false, false, false, false, false, false, false, false, false, false, false, false] (by kernel_rfl) rfl rfl kB.drew.c (fun hHeld => ?_)
 refine pure_ (i := 0) (N := some 55) (v := ?_) (a' := ?_) #[true, false, false, false, false, false, false, false, false, false, false, false, false, false, false, false, false] rfl rfl (by kernel_rfl) (fun _ _ _ h => h) (Or.inl ⟨by rfl, ?_⟩) ?_ ?_
 rotate_left
 ·intro w'
  go_simp
  with_reducible rfl
 rotate_left
 ·simp only [Act.put, Hand.z1, Hand.z2, Hand.z3, i64_w, i32_w]
  rfl
 refine take_ (i := 1) (N := some 56) (v := ?_) (a' := ?_) #[true, true, false, false, false, false, false, false, false, false, false, false, false, false, false, false, false] rfl rfl (by kernel_rfl) (fun _ _ _ h => h) (Or.inl ⟨by rfl, ?_⟩) hHeld ?_ ?_
 rotate_left
 ·rintro w' ⟨s0, s1, s2⟩
  go_simp
  with_reducible rfl
 rotate_left
 ·simp only [Act.put, Hand.z1, Hand.z2, Hand.z3, i64_w, i32_w]
  rfl
 refine one_ (i := 2) (N := some 57) #[true, true, true, false, false, false, false, false, false, false, false, false, false, false, false, false, false] rfl rfl (by kernel_rfl) (by decide) (fun K hK => ?_)
 refine goes_ Try.func14 (by kernel_rfl) rfl #[.int .i64 2, .agg #[.int .i64 kd, .int .i64 fl, .string (s.extract a (a + m))]] (by rfl) rfl rfl (by (try simp only [List.map_toArray, List.map_cons, List.map_nil]); first | done | rfl) ?_
 refine (frame_Right.calls 2 kd fl (s.extract a (a + m)) false _ HR.out).mono ?_
 rintro e w3 ⟨rfl, hb3⟩
 have kA3 := kA.drew.below hb3
 have kB3 := kB.drew.below hb3
 have B3 := BA.drew.trans (hb3.mono (by show w.heap.size ≤ (w2.alloc _).heap.size; exact BA.size))
 clear hb3 kA kB BA
 refine ⟨_, rfl, ?_⟩
 refine hK.out _ _ kB3.c (fun hHeld => ?_)
 clear hK K
 refine norm_ (a' := ?_) ?_ ?_
 rotate_left
 ·show Act.put _ (some 57) _ = _
  simp only [Act.put, Hand.z1, Hand.z2, Hand.z3, i64_w, i32_w]
  rfl
 refine pure_ (i := 3) (N := some 58) (v := ?_) (a' := ?_) #[true, true, true, true, false, false, false, false, false, false, false, false, false, false, false, false, false] rfl rfl (by kernel_rfl) (fun _ _ _ h => h) (Or.inl ⟨by rfl, ?_⟩) ?_ ?_
 rotate_left
 ·intro w'
  go_simp
  with_reducible rfl
 rotate_left
 ·simp only [Act.put, Hand.z1, Hand.z2, Hand.z3, i64_w, i32_w]
  rfl
 refine pure_ (i := 4) (N := some 59) (v := ?_) (a' := ?_) #[true, true, true, true, true, false, false, false, false, false, false, false, false, false, false, false, false] rfl rfl (by kernel_rfl) (fun _ _ _ h => h) (Or.inl ⟨by rfl, ?_⟩) ?_ ?_
 rotate_left
 ·intro w'
  go_simp
  with_reducible rfl
 rotate_left
 ·simp only [Act.put, Hand.z1, Hand.z2, Hand.z3, i64_w, i32_w]
  rfl
 refine pure_ (i := 5) (N := some 60) (v := undef) (a' := ?_) #[true, true, true, true, true, true, false, false, false, false, false, false, false, false, false, false, false] rfl rfl (by kernel_rfl) (fun _ _ _ h => h) (Or.inr ⟨by rfl, rfl⟩) ?_ ?_
 rotate_left
 ·simp only [Act.put, Hand.z1, Hand.z2, Hand.z3, i64_w, i32_w]
  rfl
 refine pure_ (i := 6) (N := some 61) (v := undef) (a' := ?_) #[true, true, true, true, true, true, true, false, false, false, false, false, false, false, false, false, false] rfl rfl (by kernel_rfl) (fun _ _ _ h => h) (Or.inr ⟨by rfl, rfl⟩) ?_ ?_
 rotate_left
 ·simp only [Act.put, Hand.z1, Hand.z2, Hand.z3, i64_w, i32_w]
  rfl
 refine pure_ (i := 7) (N := some 62) (v := undef) (a' := ?_) #[true, true, true, true, true, true, true, true, false, false, false, false, false, false, false, false, false] rfl rfl (by kernel_rfl) (fun _ _ _ h => h) (Or.inr ⟨by rfl, rfl⟩) ?_ ?_
 rotate_left
 ·simp only [Act.put, Hand.z1, Hand.z2, Hand.z3, i64_w, i32_w]
  rfl
 refine pure_ (i := 8) (N := some 63) (v := undef) (a' := ?_) #[true, true, true, true, true, true, true, true, true, false, false, false, false, false, false, false, false] rfl rfl (by kernel_rfl) (fun _ _ _ h => h) (Or.inr ⟨by rfl, rfl⟩) ?_ ?_
 rotate_left
 ·simp only [Act.put, Hand.z1, Hand.z2, Hand.z3, i64_w, i32_w]
  rfl
 refine pure_ (i := 9) (N := some 64) (v := undef) (a' := ?_) #[true, true, true, true, true, true, true, true, true, true, false, false, false, false, false, false, false] rfl rfl (by kernel_rfl) (fun _ _ _ h => h) (Or.inr ⟨by rfl, rfl⟩) ?_ ?_
 rotate_left
 ·simp only [Act.put, Hand.z1, Hand.z2, Hand.z3, i64_w, i32_w]
  rfl
 refine pure_ (i := 10) (N := some 65) (v := undef) (a' := ?_) #[true, true, true, true, true, true, true, true, true, true, true, false, false, false, false, false, false] rfl rfl (by kernel_rfl) (fun _ _ _ h => h) (Or.inr ⟨by rfl, rfl⟩) ?_ ?_
 rotate_left
 ·simp only [Act.put, Hand.z1, Hand.z2, Hand.z3, i64_w, i32_w]
  rfl
 refine pure_ (i := 11) (N := some 66) (v := undef) (a' := ?_) #[true, true, true, true, true, true, true, true, true, true, true, true, false, false, false, false, false] rfl rfl (by kernel_rfl) (fun _ _ _ h => h) (Or.inr ⟨by rfl, rfl⟩) ?_ ?_
 rotate_left
 ·simp only [Act.put, Hand.z1, Hand.z2, Hand.z3, i64_w, i32_w]
  rfl
 refine pure_ (i := 12) (N := some 67) (v := undef) (a' := ?_) #[true, true, true, true, true, true, true, true, true, true, true, true, true, false, false, false, false] rfl rfl (by kernel_rfl) (fun _ _ _ h => h) (Or.inr ⟨by rfl, rfl⟩) ?_ ?_
 rotate_left
 ·simp only [Act.put, Hand.z1, Hand.z2, Hand.z3, i64_w, i32_w]
  rfl
 refine pure_ (i := 13) (N := some 68) (v := undef) (a' := ?_) #[true, true, true, true, true, true, true, true, true, true, true, true, true, true, false, false, false] rfl rfl (by kernel_rfl) (fun _ _ _ h => h) (Or.inr ⟨by rfl, rfl⟩) ?_ ?_
 rotate_left
 ·simp only [Act.put, Hand.z1, Hand.z2, Hand.z3, i64_w, i32_w]
  rfl
 refine pure_ (i := 14) (N := some 69) (v := undef) (a' := ?_) #[true, true, true, true, true, true, true, true, true, true, true, true, true, true, true, false, false] rfl rfl (by kernel_rfl) (fun _ _ _ h => h) (Or.inr ⟨by rfl, rfl⟩) ?_ ?_
 rotate_left
 ·simp only [Act.put, Hand.z1, Hand.z2, Hand.z3, i64_w, i32_w]
  rfl
 refine pure_ (i := 15) (N := some 70) (v := undef) (a' := ?_) #[true, true, true, true, true, true, true, true, true, true, true, true, true, true, true, true, false] rfl rfl (by kernel_rfl) (fun _ _ _ h => h) (Or.inr ⟨by rfl, rfl⟩) ?_ ?_
 rotate_left
 ·simp only [Act.put, Hand.z1, Hand.z2, Hand.z3, i64_w, i32_w]
  rfl
 refine pure_ (i := 16) (N := some 71) (v := ?_) (a' := ?_) #[true, true, true, true, true, true, true, true, true, true, true, true, true, true, true, true, true] rfl rfl (by kernel_rfl) (fun _ _ _ h => h) (Or.inl ⟨by rfl, ?_⟩) ?_ ?_
 rotate_left
 ·intro w'
  go_simp
  with_reducible rfl
 rotate_left
 ·simp only [Act.put, Hand.z1, Hand.z2, Hand.z3, i64_w, i32_w]
  rfl
 refine done_ (by kernel_rfl) ?_
 have q0a := kA3.c.c0
 have q1a := kA3.c.c1
 have q2a := kA3.c.c2
 have f0a := kA3.f0
 have f1a := kA3.f1
 have f2a := kA3.f2
 have za := kA3.lt
 have q0b := kB3.c.c0
 have q1b := kB3.c.c1
 have q2b := kB3.c.c2
 have f0b := kB3.f0
 have f1b := kB3.f1
 have f2b := kB3.f2
 have zb := kB3.lt
 have hne : w2.heap.size ≠ w.heap.size := by have := B2.size; have := k2.lt; omega
 go_wp2
 refine bodyPost_ret (v := .tuple #[.agg #[.int .i64 kd, .int .i64 fl, .string (s.extract a (a + m))], .int .i64 0, .int .i64 11]) ?_ rfl ⟨rfl, ?_⟩
 ·exact res28 _ _ _ _ _ _ _ _ ((((kA3.set0 _).set1 _).set2 _)).c rfl rfl rfl
 ·repeat (first | exact B3 | (refine Below.setCell ?_ (by simp) _))
set_option maxHeartbeats 8000000 in
set_option maxRecDepth 100000 in
theorem take_two_sum (s : ByteArray) (hs : 0 < s.size) (c : Int) (hc : bt s 0 = c) (hbe : ∀ w : World, Calls Try.prog 31 #[.iface 60 (.agg #[]), .int .u8 c] w fun e w' => e = .returned (.int .i64 0) ∧ Below w.heap.size w w') (kd fl : Int) (a m : Nat) (ha : a ≤ 200) (hm : m ≤ 4000) (hrd : ∀ w : World, Calls Try.prog 54 #[.agg #[], .string s] w fun e w' => e = .returned (.tuple #[.agg #[.int .i64 kd, .int .i64 fl, .string ⟨#[]⟩], .int .i64 (a : Int), .int .i64 (m : Int), .bool true]) ∧ Below w.heap.size w w') (hsz : a + m + 4 ≤ s.size) (hR : frame_Right.f 2 kd fl (s.extract a (a + m)) = some true) (KF : Nat) (u : Int) (hu : sum_Of.f KF (s.extract 0 (a + m)) = some u) (b : ByteArray) (hb : sum_Bytes.f KF u = some b) (hbad : (b.toList == (s.extract (a + m) (a + m + 4)).toList) = false) (w : World) :
  Calls Try.prog 28 #[.int .i64 2, .string s] w fun e w' => e = .returned (.tuple #[.agg #[.int .i64 kd, .int .i64 fl, .string (s.extract a (a + m))], .int .i64 0, .int .i64 11]) ∧ Below w.heap.size w w' := by
 have p0 := eq_true (show (0 : Int) < (s.size : Int) by omega)
 have hx0 : ∀ h : 0 < s.size, ((s[0]'h).toNat : Int) = c := fun h => (bt_at s 0 h).trans hc
 have B0 := (Below.refl w.heap.size w).alloc (Nat.le_refl _) (.cells #[.int .i64 0, .int .i64 0, .string ⟨#[]⟩] 23)
 have k0 := K3.new w (.int .i64 0) (.int .i64 0) (.string ⟨#[]⟩)
 have hmr := m_read2
 have hl : ¬ (m : Int) > 4000 := by omega
 have hsz2 : ¬ (s.size : Int) < (a : Int) + (m : Int) + 4 := by omega
 have hsz3 : (a : Int) + (m : Int) ≤ (s.size : Int) := by omega
 have hst1 := fun W : World => str_mid s a (a + m) (a : Int) ((a : Int) + (m : Int)) rfl (by omega) (by omega) (by omega) W
 have hst2 := fun W : World => str_to s (a + m) ((a : Int) + (m : Int)) (by omega) (by omega) W
 have hst3 := fun W : World => str_mid s (a + m) (a + m + 4) ((a : Int) + (m : Int)) ((a : Int) + (m : Int) + 4) (by omega) (by omega) (by omega) (by omega) W
 have hw4 : IntKind.i64.wrap ((a : Int) + (m : Int) + 4) = (a : Int) + (m : Int) + 4 := by rw [IntKind.wrap_i64]; omega
 have HR := Aside0.mk hR
 have HU := Aside0.mk hu
 have HS := Aside0.mk hb
 clear hR hu hb
 have hbad2 : (b.toList != (s.extract (a + m) (a + m + 4)).toList) = true := by simp [bne, hbad]
 go_enter Try.func28, Try.ntmps28
 go_upto_region 14 with (first | (go_at_call 22; (refine (of_two _).mono ?_); rintro e w1 ⟨rfl, rfl⟩) | (go_at_call 31; (refine (hbe _).mono ?_); rintro e w1 ⟨rfl, hb1⟩; have k1 := k0.below hb1; have B1 := B0.trans (hb1.mono B0.size); clear hb1 k0 B0; have q0 := k1.c.c0; have q1 := k1.c.c1; have q2 := k1.c.c2; have f0 := k1.f0; have f1 := k1.f1; have f2 := k1.f2; have z := k1.lt) | (go_at_call 54; (refine (hrd _).mono ?_); rintro e w2 ⟨rfl, hb2⟩; have k2 := k1.below hb2; have B2 := B1.trans (hb2.mono B1.size); clear hb2 k1 B1 q0 q1 q2 f0 f1 f2 z; have q0 := k2.c.c0; have q1 := k2.c.c1; have q2 := k2.c.c2; have f0 := k2.f0; have f1 := k2.f1; have f2 := k2.f2; have z := k2.lt))
 have kA := k2.alloc (.cells #[.int .i64 kd, .int .i64 fl, .string (s.extract a (a + m))] 23)
 have kB := K3.new w2 (.int .i64 kd) (.int .i64 fl) (.string (s.extract a (a + m)))
 have BA := B2.alloc B2.size (.cells #[.int .i64 kd, .int .i64 fl, .string (s.extract a (a + m))] 23)
 clear q0 q1 q2 f0 f1 f2 z
 refine start_ (n := 17) (S := fun w' => C3 w' w2.heap.size (.int .i64 kd) (.int .i64 fl) (.string (s.extract a (a + m)))) (ds := []) #[false, false, false, false, false, false, false, false, false, false, false, false, false, false, false, false, false] (by kernel_rfl) rfl rfl kB.drew.c (fun hHeld => ?_)
 refine pure_ (i := 0) (N := some 55) (v := ?_) (a' := ?_) #[true, false, false, false, false, false, false, false, false, false, false, false, false, false, false, false, false] rfl rfl (by kernel_rfl) (fun _ _ _ h => h) (Or.inl ⟨by rfl, ?_⟩) ?_ ?_
 rotate_left
 ·intro w'
  go_simp
  with_reducible rfl
 rotate_left
 ·simp only [Act.put, Hand.z1, Hand.z2, Hand.z3, i64_w, i32_w]
  rfl
 refine take_ (i := 1) (N := some 56) (v := ?_) (a' := ?_) #[true, true, false, false, false, false, false, false, false, false, false, false, false, false, false, false, false] rfl rfl (by kernel_rfl) (fun _ _ _ h => h) (Or.inl ⟨by rfl, ?_⟩) hHeld ?_ ?_
 rotate_left
 ·rintro w' ⟨s0, s1, s2⟩
  go_simp
  with_reducible rfl
 rotate_left
 ·simp only [Act.put, Hand.z1, Hand.z2, Hand.z3, i64_w, i32_w]
  rfl
 refine one_ (i := 2) (N := some 57) #[true, true, true, false, false, false, false, false, false, false, false, false, false, false, false, false, false] rfl rfl (by kernel_rfl) (by decide) (fun K hK => ?_)
 refine goes_ Try.func14 (by kernel_rfl) rfl #[.int .i64 2, .agg #[.int .i64 kd, .int .i64 fl, .string (s.extract a (a + m))]] (by rfl) rfl rfl (by (try simp only [List.map_toArray, List.map_cons, List.map_nil]); first | done | rfl) ?_
 refine (frame_Right.calls 2 kd fl (s.extract a (a + m)) true _ HR.out).mono ?_
 rintro e w3 ⟨rfl, hb3⟩
 have kA3 := kA.drew.below hb3
 have kB3 := kB.drew.below hb3
 have B3 := BA.drew.trans (hb3.mono (by show w.heap.size ≤ (w2.alloc _).heap.size; exact BA.size))
 clear hb3 kA kB BA
 refine ⟨_, rfl, ?_⟩
 refine hK.out _ _ kB3.c (fun hHeld => ?_)
 clear hK K
 refine norm_ (a' := ?_) ?_ ?_
 rotate_left
 ·show Act.put _ (some 57) _ = _
  simp only [Act.put, Hand.z1, Hand.z2, Hand.z3, i64_w, i32_w]
  rfl
 refine pure_ (i := 3) (N := some 58) (v := ?_) (a' := ?_) #[true, true, true, true, false, false, false, false, false, false, false, false, false, false, false, false, false] rfl rfl (by kernel_rfl) (fun _ _ _ h => h) (Or.inl ⟨by rfl, ?_⟩) ?_ ?_
 rotate_left
 ·intro w'
  go_simp
  with_reducible rfl
 rotate_left
 ·simp only [Act.put, Hand.z1, Hand.z2, Hand.z3, i64_w, i32_w]
  rfl
 refine pure_ (i := 4) (N := some 59) (v := ?_) (a' := ?_) #[true, true, true, true, true, false, false, false, false, false, false, false, false, false, false, false, false] rfl rfl (by kernel_rfl) (fun _ _ _ h => h) (Or.inl ⟨by rfl, ?_⟩) ?_ ?_
 rotate_left
 ·intro w'
  go_simp
  with_reducible rfl
 rotate_left
 ·simp only [Act.put, Hand.z1, Hand.z2, Hand.z3, i64_w, i32_w]
  rfl
 refine pure_ (i := 5) (N := some 60) (v := ?_) (a' := ?_) #[true, true, true, true, true, true, false, false, false, false, false, false, false, false, false, false, false] rfl rfl (by kernel_rfl) (fun _ _ _ h => h) (Or.inl ⟨by rfl, ?_⟩) ?_ ?_
 rotate_left
 ·intro w'
  go_simp
  with_reducible rfl
 rotate_left
 ·simp only [Act.put, Hand.z1, Hand.z2, Hand.z3, i64_w, i32_w]
  rfl
 refine pure_ (i := 6) (N := some 61) (v := ?_) (a' := ?_) #[true, true, true, true, true, true, true, false, false, false, false, false, false, false, false, false, false] rfl rfl (by kernel_rfl) (fun _ _ _ h => h) (Or.inl ⟨by rfl, ?_⟩) ?_ ?_
 rotate_left
 ·intro w'
  go_simp
  with_reducible rfl
 rotate_left
 ·simp only [Act.put, Hand.z1, Hand.z2, Hand.z3, i64_w, i32_w]
  rfl
 refine pure_ (i := 7) (N := some 62) (v := ?_) (a' := ?_) #[true, true, true, true, true, true, true, true, false, false, false, false, false, false, false, false, false] rfl rfl (by kernel_rfl) (fun _ _ _ h => h) (Or.inl ⟨by rfl, ?_⟩) ?_ ?_
 rotate_left
 ·intro w'
  go_simp
  with_reducible rfl
 rotate_left
 ·simp only [Act.put, Hand.z1, Hand.z2, Hand.z3, i64_w, i32_w]
  rfl
 refine pure_ (i := 10) (N := some 65) (v := ?_) (a' := ?_) #[true, true, true, true, true, true, true, true, false, false, true, false, false, false, false, false, false] rfl rfl (by kernel_rfl) (fun _ _ _ h => h) (Or.inl ⟨by rfl, ?_⟩) ?_ ?_
 rotate_left
 ·intro w'
  go_simp
  with_reducible rfl
 rotate_left
 ·simp only [Act.put, Hand.z1, Hand.z2, Hand.z3, i64_w, i32_w]
  rfl
 refine pure_ (i := 11) (N := some 66) (v := ?_) (a' := ?_) #[true, true, true, true, true, true, true, true, false, false, true, true, false, false, false, false, false] rfl rfl (by kernel_rfl) (fun _ _ _ h => h) (Or.inl ⟨by rfl, ?_⟩) ?_ ?_
 rotate_left
 ·intro w'
  go_simp
  with_reducible rfl
 rotate_left
 ·simp only [Act.put, Hand.z1, Hand.z2, Hand.z3, i64_w, i32_w]
  rfl
 refine pure_ (i := 12) (N := some 67) (v := ?_) (a' := ?_) #[true, true, true, true, true, true, true, true, false, false, true, true, true, false, false, false, false] rfl rfl (by kernel_rfl) (fun _ _ _ h => h) (Or.inl ⟨by rfl, ?_⟩) ?_ ?_
 rotate_left
 ·intro w'
  go_simp
  with_reducible rfl
 rotate_left
 ·simp only [Act.put, Hand.z1, Hand.z2, Hand.z3, i64_w, i32_w]
  rfl
 refine pure_ (i := 13) (N := some 68) (v := ?_) (a' := ?_) #[true, true, true, true, true, true, true, true, false, false, true, true, true, true, false, false, false] rfl rfl (by kernel_rfl) (fun _ _ _ h => h) (Or.inl ⟨by rfl, ?_⟩) ?_ ?_
 rotate_left
 ·intro w'
  go_simp
  with_reducible rfl
 rotate_left
 ·simp only [Act.put, Hand.z1, Hand.z2, Hand.z3, i64_w, i32_w]
  rfl
 refine pure_ (i := 14) (N := some 69) (v := ?_) (a' := ?_) #[true, true, true, true, true, true, true, true, false, false, true, true, true, true, true, false, false] rfl rfl (by kernel_rfl) (fun _ _ _ h => h) (Or.inl ⟨by rfl, ?_⟩) ?_ ?_
 rotate_left
 ·intro w'
  go_simp
  with_reducible rfl
 rotate_left
 ·simp only [Act.put, Hand.z1, Hand.z2, Hand.z3, i64_w, i32_w]
  rfl
 refine one_ (i := 8) (N := some 63) #[true, true, true, true, true, true, true, true, true, false, true, true, true, true, true, false, false] rfl rfl (by kernel_rfl) (by decide) (fun K hK => ?_)
 refine goes_ Try.func24 (by kernel_rfl) rfl #[.string (s.extract 0 (a + m))] (by rfl) rfl rfl (by (try simp only [List.map_toArray, List.map_cons, List.map_nil]); first | done | rfl) ?_
 refine (sum_Of.calls KF (s.extract 0 (a + m)) u _ HU.out).mono ?_
 rintro e w4 ⟨rfl, ⟨nd, rfl⟩⟩
 have kA4 := kA3.drewN nd
 have kB4 := kB3.drewN nd
 have B4 := pw_below_drewN B3 nd
 clear kA3 kB3 B3
 generalize w3.drewN nd = w4 at kA4 kB4 B4 ⊢
 refine ⟨_, rfl, ?_⟩
 refine hK.out _ _ kB4.c (fun hHeld => ?_)
 clear hK K
 refine norm_ (a' := ?_) ?_ ?_
 rotate_left
 ·show Act.put _ (some 63) _ = _
  simp only [Act.put, Hand.z1, Hand.z2, Hand.z3, i64_w, i32_w]
  rfl
 refine one_ (i := 9) (N := some 64) #[true, true, true, true, true, true, true, true, true, true, true, true, true, true, true, false, false] rfl rfl (by kernel_rfl) (by decide) (fun K hK => ?_)
 refine goes_ Try.func23 (by kernel_rfl) rfl #[.int .i64 u] (by rfl) rfl rfl (by (try simp only [List.map_toArray, List.map_cons, List.map_nil]); first | done | rfl) ?_
 refine (sum_Bytes.calls KF u b _ HS.out).mono ?_
 rintro e w5 ⟨rfl, hb5⟩
 have kA5 := kA4.below hb5
 have kB5 := kB4.below hb5
 have B5 := B4.trans (hb5.mono B4.size)
 clear kA4 kB4 B4 hb5
 refine ⟨_, rfl, ?_⟩
 refine hK.out _ _ kB5.c (fun hHeld => ?_)
 clear hK K
 refine norm_ (a' := ?_) ?_ ?_
 rotate_left
 ·show Act.put _ (some 64) _ = _
  simp only [Act.put, Hand.z1, Hand.z2, Hand.z3, i64_w, i32_w]
  rfl
 refine pure_ (i := 15) (N := some 70) (v := ?_) (a' := ?_) #[true, true, true, true, true, true, true, true, true, true, true, true, true, true, true, true, false] rfl rfl (by kernel_rfl) (fun _ _ _ h => h) (Or.inl ⟨by rfl, ?_⟩) ?_ ?_
 rotate_left
 ·intro w'
  go_simp
  with_reducible rfl
 rotate_left
 ·simp only [Act.put, Hand.z1, Hand.z2, Hand.z3, i64_w, i32_w]
  rfl
 refine pure_ (i := 16) (N := some 71) (v := ?_) (a' := ?_) #[true, true, true, true, true, true, true, true, true, true, true, true, true, true, true, true, true] rfl rfl (by kernel_rfl) (fun _ _ _ h => h) (Or.inl ⟨by rfl, ?_⟩) ?_ ?_
 rotate_left
 ·intro w'
  go_simp
  with_reducible rfl
 rotate_left
 ·simp only [Act.put, Hand.z1, Hand.z2, Hand.z3, i64_w, i32_w]
  rfl
 refine done_ (by kernel_rfl) ?_
 have q0a := kA5.c.c0
 have q1a := kA5.c.c1
 have q2a := kA5.c.c2
 have f0a := kA5.f0
 have f1a := kA5.f1
 have f2a := kA5.f2
 have za := kA5.lt
 have q0b := kB5.c.c0
 have q1b := kB5.c.c1
 have q2b := kB5.c.c2
 have f0b := kB5.f0
 have f1b := kB5.f1
 have f2b := kB5.f2
 have zb := kB5.lt
 have hne : w2.heap.size ≠ w.heap.size := by have := B2.size; have := k2.lt; omega
 go_wp2
 refine bodyPost_ret (v := .tuple #[.agg #[.int .i64 kd, .int .i64 fl, .string (s.extract a (a + m))], .int .i64 0, .int .i64 11]) ?_ rfl ⟨rfl, ?_⟩
 ·exact res28 _ _ _ _ _ _ _ _ ((((kA5.set0 _).set1 _).set2 _)).c rfl rfl rfl
 ·repeat (first | exact B5 | (refine Below.setCell ?_ (by simp) _))
set_option maxHeartbeats 8000000 in
set_option maxRecDepth 100000 in
theorem take_two_ok (s : ByteArray) (hs : 0 < s.size) (c : Int) (hc : bt s 0 = c) (hbe : ∀ w : World, Calls Try.prog 31 #[.iface 60 (.agg #[]), .int .u8 c] w fun e w' => e = .returned (.int .i64 0) ∧ Below w.heap.size w w') (kd fl : Int) (a m : Nat) (ha : a ≤ 200) (hm : m ≤ 4000) (hrd : ∀ w : World, Calls Try.prog 54 #[.agg #[], .string s] w fun e w' => e = .returned (.tuple #[.agg #[.int .i64 kd, .int .i64 fl, .string ⟨#[]⟩], .int .i64 (a : Int), .int .i64 (m : Int), .bool true]) ∧ Below w.heap.size w w') (hsz : a + m + 4 ≤ s.size) (hR : frame_Right.f 2 kd fl (s.extract a (a + m)) = some true) (KF : Nat) (u : Int) (hu : sum_Of.f KF (s.extract 0 (a + m)) = some u) (b : ByteArray) (hb : sum_Bytes.f KF u = some b) (hbad : (b.toList == (s.extract (a + m) (a + m + 4)).toList) = true) (w : World) :
  Calls Try.prog 28 #[.int .i64 2, .string s] w fun e w' => e = .returned (.tuple #[.agg #[.int .i64 kd, .int .i64 fl, .string (s.extract a (a + m))], .int .i64 ((a : Int) + (m : Int) + 4), .int .i64 0]) ∧ Below w.heap.size w w' := by
 have p0 := eq_true (show (0 : Int) < (s.size : Int) by omega)
 have hx0 : ∀ h : 0 < s.size, ((s[0]'h).toNat : Int) = c := fun h => (bt_at s 0 h).trans hc
 have B0 := (Below.refl w.heap.size w).alloc (Nat.le_refl _) (.cells #[.int .i64 0, .int .i64 0, .string ⟨#[]⟩] 23)
 have k0 := K3.new w (.int .i64 0) (.int .i64 0) (.string ⟨#[]⟩)
 have hmr := m_read2
 have hl : ¬ (m : Int) > 4000 := by omega
 have hsz2 : ¬ (s.size : Int) < (a : Int) + (m : Int) + 4 := by omega
 have hsz3 : (a : Int) + (m : Int) ≤ (s.size : Int) := by omega
 have hst1 := fun W : World => str_mid s a (a + m) (a : Int) ((a : Int) + (m : Int)) rfl (by omega) (by omega) (by omega) W
 have hst2 := fun W : World => str_to s (a + m) ((a : Int) + (m : Int)) (by omega) (by omega) W
 have hst3 := fun W : World => str_mid s (a + m) (a + m + 4) ((a : Int) + (m : Int)) ((a : Int) + (m : Int) + 4) (by omega) (by omega) (by omega) (by omega) W
 have hw4 : IntKind.i64.wrap ((a : Int) + (m : Int) + 4) = (a : Int) + (m : Int) + 4 := by rw [IntKind.wrap_i64]; omega
 have HR := Aside0.mk hR
 have HU := Aside0.mk hu
 have HS := Aside0.mk hb
 clear hR hu hb
 have hbad2 : (b.toList != (s.extract (a + m) (a + m + 4)).toList) = false := by simp [bne, hbad]
 go_enter Try.func28, Try.ntmps28
 go_upto_region 14 with (first | (go_at_call 22; (refine (of_two _).mono ?_); rintro e w1 ⟨rfl, rfl⟩) | (go_at_call 31; (refine (hbe _).mono ?_); rintro e w1 ⟨rfl, hb1⟩; have k1 := k0.below hb1; have B1 := B0.trans (hb1.mono B0.size); clear hb1 k0 B0; have q0 := k1.c.c0; have q1 := k1.c.c1; have q2 := k1.c.c2; have f0 := k1.f0; have f1 := k1.f1; have f2 := k1.f2; have z := k1.lt) | (go_at_call 54; (refine (hrd _).mono ?_); rintro e w2 ⟨rfl, hb2⟩; have k2 := k1.below hb2; have B2 := B1.trans (hb2.mono B1.size); clear hb2 k1 B1 q0 q1 q2 f0 f1 f2 z; have q0 := k2.c.c0; have q1 := k2.c.c1; have q2 := k2.c.c2; have f0 := k2.f0; have f1 := k2.f1; have f2 := k2.f2; have z := k2.lt))
 have kA := k2.alloc (.cells #[.int .i64 kd, .int .i64 fl, .string (s.extract a (a + m))] 23)
 have kB := K3.new w2 (.int .i64 kd) (.int .i64 fl) (.string (s.extract a (a + m)))
 have BA := B2.alloc B2.size (.cells #[.int .i64 kd, .int .i64 fl, .string (s.extract a (a + m))] 23)
 clear q0 q1 q2 f0 f1 f2 z
 refine start_ (n := 17) (S := fun w' => C3 w' w2.heap.size (.int .i64 kd) (.int .i64 fl) (.string (s.extract a (a + m)))) (ds := []) #[false, false, false, false, false, false, false, false, false, false, false, false, false, false, false, false, false] (by kernel_rfl) rfl rfl kB.drew.c (fun hHeld => ?_)
 refine pure_ (i := 0) (N := some 55) (v := ?_) (a' := ?_) #[true, false, false, false, false, false, false, false, false, false, false, false, false, false, false, false, false] rfl rfl (by kernel_rfl) (fun _ _ _ h => h) (Or.inl ⟨by rfl, ?_⟩) ?_ ?_
 rotate_left
 ·intro w'
  go_simp
  with_reducible rfl
 rotate_left
 ·simp only [Act.put, Hand.z1, Hand.z2, Hand.z3, i64_w, i32_w]
  rfl
 refine take_ (i := 1) (N := some 56) (v := ?_) (a' := ?_) #[true, true, false, false, false, false, false, false, false, false, false, false, false, false, false, false, false] rfl rfl (by kernel_rfl) (fun _ _ _ h => h) (Or.inl ⟨by rfl, ?_⟩) hHeld ?_ ?_
 rotate_left
 ·rintro w' ⟨s0, s1, s2⟩
  go_simp
  with_reducible rfl
 rotate_left
 ·simp only [Act.put, Hand.z1, Hand.z2, Hand.z3, i64_w, i32_w]
  rfl
 refine one_ (i := 2) (N := some 57) #[true, true, true, false, false, false, false, false, false, false, false, false, false, false, false, false, false] rfl rfl (by kernel_rfl) (by decide) (fun K hK => ?_)
 refine goes_ Try.func14 (by kernel_rfl) rfl #[.int .i64 2, .agg #[.int .i64 kd, .int .i64 fl, .string (s.extract a (a + m))]] (by rfl) rfl rfl (by (try simp only [List.map_toArray, List.map_cons, List.map_nil]); first | done | rfl) ?_
 refine (frame_Right.calls 2 kd fl (s.extract a (a + m)) true _ HR.out).mono ?_
 rintro e w3 ⟨rfl, hb3⟩
 have kA3 := kA.drew.below hb3
 have kB3 := kB.drew.below hb3
 have B3 := BA.drew.trans (hb3.mono (by show w.heap.size ≤ (w2.alloc _).heap.size; exact BA.size))
 clear hb3 kA kB BA
 refine ⟨_, rfl, ?_⟩
 refine hK.out _ _ kB3.c (fun hHeld => ?_)
 clear hK K
 refine norm_ (a' := ?_) ?_ ?_
 rotate_left
 ·show Act.put _ (some 57) _ = _
  simp only [Act.put, Hand.z1, Hand.z2, Hand.z3, i64_w, i32_w]
  rfl
 refine pure_ (i := 3) (N := some 58) (v := ?_) (a' := ?_) #[true, true, true, true, false, false, false, false, false, false, false, false, false, false, false, false, false] rfl rfl (by kernel_rfl) (fun _ _ _ h => h) (Or.inl ⟨by rfl, ?_⟩) ?_ ?_
 rotate_left
 ·intro w'
  go_simp
  with_reducible rfl
 rotate_left
 ·simp only [Act.put, Hand.z1, Hand.z2, Hand.z3, i64_w, i32_w]
  rfl
 refine pure_ (i := 4) (N := some 59) (v := ?_) (a' := ?_) #[true, true, true, true, true, false, false, false, false, false, false, false, false, false, false, false, false] rfl rfl (by kernel_rfl) (fun _ _ _ h => h) (Or.inl ⟨by rfl, ?_⟩) ?_ ?_
 rotate_left
 ·intro w'
  go_simp
  with_reducible rfl
 rotate_left
 ·simp only [Act.put, Hand.z1, Hand.z2, Hand.z3, i64_w, i32_w]
  rfl
 refine pure_ (i := 5) (N := some 60) (v := ?_) (a' := ?_) #[true, true, true, true, true, true, false, false, false, false, false, false, false, false, false, false, false] rfl rfl (by kernel_rfl) (fun _ _ _ h => h) (Or.inl ⟨by rfl, ?_⟩) ?_ ?_
 rotate_left
 ·intro w'
  go_simp
  with_reducible rfl
 rotate_left
 ·simp only [Act.put, Hand.z1, Hand.z2, Hand.z3, i64_w, i32_w]
  rfl
 refine pure_ (i := 6) (N := some 61) (v := ?_) (a' := ?_) #[true, true, true, true, true, true, true, false, false, false, false, false, false, false, false, false, false] rfl rfl (by kernel_rfl) (fun _ _ _ h => h) (Or.inl ⟨by rfl, ?_⟩) ?_ ?_
 rotate_left
 ·intro w'
  go_simp
  with_reducible rfl
 rotate_left
 ·simp only [Act.put, Hand.z1, Hand.z2, Hand.z3, i64_w, i32_w]
  rfl
 refine pure_ (i := 7) (N := some 62) (v := ?_) (a' := ?_) #[true, true, true, true, true, true, true, true, false, false, false, false, false, false, false, false, false] rfl rfl (by kernel_rfl) (fun _ _ _ h => h) (Or.inl ⟨by rfl, ?_⟩) ?_ ?_
 rotate_left
 ·intro w'
  go_simp
  with_reducible rfl
 rotate_left
 ·simp only [Act.put, Hand.z1, Hand.z2, Hand.z3, i64_w, i32_w]
  rfl
 refine pure_ (i := 10) (N := some 65) (v := ?_) (a' := ?_) #[true, true, true, true, true, true, true, true, false, false, true, false, false, false, false, false, false] rfl rfl (by kernel_rfl) (fun _ _ _ h => h) (Or.inl ⟨by rfl, ?_⟩) ?_ ?_
 rotate_left
 ·intro w'
  go_simp
  with_reducible rfl
 rotate_left
 ·simp only [Act.put, Hand.z1, Hand.z2, Hand.z3, i64_w, i32_w]
  rfl
 refine pure_ (i := 11) (N := some 66) (v := ?_) (a' := ?_) #[true, true, true, true, true, true, true, true, false, false, true, true, false, false, false, false, false] rfl rfl (by kernel_rfl) (fun _ _ _ h => h) (Or.inl ⟨by rfl, ?_⟩) ?_ ?_
 rotate_left
 ·intro w'
  go_simp
  with_reducible rfl
 rotate_left
 ·simp only [Act.put, Hand.z1, Hand.z2, Hand.z3, i64_w, i32_w]
  rfl
 refine pure_ (i := 12) (N := some 67) (v := ?_) (a' := ?_) #[true, true, true, true, true, true, true, true, false, false, true, true, true, false, false, false, false] rfl rfl (by kernel_rfl) (fun _ _ _ h => h) (Or.inl ⟨by rfl, ?_⟩) ?_ ?_
 rotate_left
 ·intro w'
  go_simp
  with_reducible rfl
 rotate_left
 ·simp only [Act.put, Hand.z1, Hand.z2, Hand.z3, i64_w, i32_w]
  rfl
 refine pure_ (i := 13) (N := some 68) (v := ?_) (a' := ?_) #[true, true, true, true, true, true, true, true, false, false, true, true, true, true, false, false, false] rfl rfl (by kernel_rfl) (fun _ _ _ h => h) (Or.inl ⟨by rfl, ?_⟩) ?_ ?_
 rotate_left
 ·intro w'
  go_simp
  with_reducible rfl
 rotate_left
 ·simp only [Act.put, Hand.z1, Hand.z2, Hand.z3, i64_w, i32_w]
  rfl
 refine pure_ (i := 14) (N := some 69) (v := ?_) (a' := ?_) #[true, true, true, true, true, true, true, true, false, false, true, true, true, true, true, false, false] rfl rfl (by kernel_rfl) (fun _ _ _ h => h) (Or.inl ⟨by rfl, ?_⟩) ?_ ?_
 rotate_left
 ·intro w'
  go_simp
  with_reducible rfl
 rotate_left
 ·simp only [Act.put, Hand.z1, Hand.z2, Hand.z3, i64_w, i32_w]
  rfl
 refine one_ (i := 8) (N := some 63) #[true, true, true, true, true, true, true, true, true, false, true, true, true, true, true, false, false] rfl rfl (by kernel_rfl) (by decide) (fun K hK => ?_)
 refine goes_ Try.func24 (by kernel_rfl) rfl #[.string (s.extract 0 (a + m))] (by rfl) rfl rfl (by (try simp only [List.map_toArray, List.map_cons, List.map_nil]); first | done | rfl) ?_
 refine (sum_Of.calls KF (s.extract 0 (a + m)) u _ HU.out).mono ?_
 rintro e w4 ⟨rfl, ⟨nd, rfl⟩⟩
 have kA4 := kA3.drewN nd
 have kB4 := kB3.drewN nd
 have B4 := pw_below_drewN B3 nd
 clear kA3 kB3 B3
 generalize w3.drewN nd = w4 at kA4 kB4 B4 ⊢
 refine ⟨_, rfl, ?_⟩
 refine hK.out _ _ kB4.c (fun hHeld => ?_)
 clear hK K
 refine norm_ (a' := ?_) ?_ ?_
 rotate_left
 ·show Act.put _ (some 63) _ = _
  simp only [Act.put, Hand.z1, Hand.z2, Hand.z3, i64_w, i32_w]
  rfl
 refine one_ (i := 9) (N := some 64) #[true, true, true, true, true, true, true, true, true, true, true, true, true, true, true, false, false] rfl rfl (by kernel_rfl) (by decide) (fun K hK => ?_)
 refine goes_ Try.func23 (by kernel_rfl) rfl #[.int .i64 u] (by rfl) rfl rfl (by (try simp only [List.map_toArray, List.map_cons, List.map_nil]); first | done | rfl) ?_
 refine (sum_Bytes.calls KF u b _ HS.out).mono ?_
 rintro e w5 ⟨rfl, hb5⟩
 have kA5 := kA4.below hb5
 have kB5 := kB4.below hb5
 have B5 := B4.trans (hb5.mono B4.size)
 clear kA4 kB4 B4 hb5
 refine ⟨_, rfl, ?_⟩
 refine hK.out _ _ kB5.c (fun hHeld => ?_)
 clear hK K
 refine norm_ (a' := ?_) ?_ ?_
 rotate_left
 ·show Act.put _ (some 64) _ = _
  simp only [Act.put, Hand.z1, Hand.z2, Hand.z3, i64_w, i32_w]
  rfl
 refine pure_ (i := 15) (N := some 70) (v := ?_) (a' := ?_) #[true, true, true, true, true, true, true, true, true, true, true, true, true, true, true, true, false] rfl rfl (by kernel_rfl) (fun _ _ _ h => h) (Or.inl ⟨by rfl, ?_⟩) ?_ ?_
 rotate_left
 ·intro w'
  go_simp
  with_reducible rfl
 rotate_left
 ·simp only [Act.put, Hand.z1, Hand.z2, Hand.z3, i64_w, i32_w]
  rfl
 refine pure_ (i := 16) (N := some 71) (v := ?_) (a' := ?_) #[true, true, true, true, true, true, true, true, true, true, true, true, true, true, true, true, true] rfl rfl (by kernel_rfl) (fun _ _ _ h => h) (Or.inl ⟨by rfl, ?_⟩) ?_ ?_
 rotate_left
 ·intro w'
  go_simp
  with_reducible rfl
 rotate_left
 ·simp only [Act.put, Hand.z1, Hand.z2, Hand.z3, i64_w, i32_w]
  rfl
 refine done_ (by kernel_rfl) ?_
 have q0a := kA5.c.c0
 have q1a := kA5.c.c1
 have q2a := kA5.c.c2
 have f0a := kA5.f0
 have f1a := kA5.f1
 have f2a := kA5.f2
 have za := kA5.lt
 have q0b := kB5.c.c0
 have q1b := kB5.c.c1
 have q2b := kB5.c.c2
 have f0b := kB5.f0
 have f1b := kB5.f1
 have f2b := kB5.f2
 have zb := kB5.lt
 have hne : w2.heap.size ≠ w.heap.size := by have := B2.size; have := k2.lt; omega
 go_wp2
 refine bodyPost_ret (v := .tuple #[.agg #[.int .i64 kd, .int .i64 fl, .string (s.extract a (a + m))], .int .i64 ((a : Int) + (m : Int) + 4), .int .i64 0]) ?_ rfl ⟨rfl, ?_⟩
 ·exact res28 _ _ _ _ _ _ _ _ ((((kA5.set0 _).set1 _).set2 _)).c rfl rfl rfl
 ·repeat (first | exact B5 | (refine Below.setCell ?_ (by simp) _))
/-- What a version reads ahead of a frame's data: kind, flags, how many bytes, how many of data, whether it is whole. -/
def readF (v : Int) (s : ByteArray) : Option (Int × Int × Int × Int × Bool) :=
 if v = 1 then (if (s.size : Int) < 4 then some (0, 0, 0, 0, false) else some (bt s 1, 0, 4, bt s 2 * 256 + bt s 3, true))
 else (if (s.size : Int) < 3 then some (0, 0, 0, 0, false) else (varint_Take.f 200 (s.extract 3 s.size)).bind fun t =>
  if t.2.2 = 10 then some (0, 0, 0, 0, false) else if 0 ≤ t.2.1 ∧ t.2.1 ≤ 100 ∧ 0 ≤ t.1 ∧ t.1 ≤ 9007199254740992 then (if t.2.2 = 0 then some (bt s 2, bt s 1, 3 + t.2.1, t.1, true) else some (bt s 2, bt s 1, 3 + t.2.1, 4001, true)) else none)
/-- The frame that a text begins with, whose letter is right. -/
def goF (v : Int) (s : ByteArray) : Option (Int × Int × ByteArray × Int × Int) :=
 (readF v s).bind fun t => if t.2.2.2.2 = false then some (t.1, t.2.1, ⟨#[]⟩, 0, 0) else if t.2.2.2.1 > 4000 then some (t.1, t.2.1, ⟨#[]⟩, 0, 11)
  else if (s.size : Int) < t.2.2.1 + t.2.2.2.1 + 4 then some (t.1, t.2.1, ⟨#[]⟩, 0, 0)
  else (frame_Right.f v t.1 t.2.1 (s.extract t.2.2.1.toNat (t.2.2.1.toNat + t.2.2.2.1.toNat))).bind fun r => if r = false then some (t.1, t.2.1, s.extract t.2.2.1.toNat (t.2.2.1.toNat + t.2.2.2.1.toNat), 0, 11)
  else (sum_Of.f 50000 (s.extract 0 (t.2.2.1.toNat + t.2.2.2.1.toNat))).bind fun u => (sum_Bytes.f 50000 u).bind fun b =>
   if (b.toList == (s.extract (t.2.2.1.toNat + t.2.2.2.1.toNat) (t.2.2.1.toNat + t.2.2.2.1.toNat + 4)).toList) = true then some (t.1, t.2.1, s.extract t.2.2.1.toNat (t.2.2.1.toNat + t.2.2.2.1.toNat), t.2.2.1 + t.2.2.2.1 + 4, 0)
   else some (t.1, t.2.1, s.extract t.2.2.1.toNat (t.2.2.1.toNat + t.2.2.2.1.toNat), 0, 11)
def frame_take.f (a0 : Int) (a1 : ByteArray) : Option (Int × Int × ByteArray × Int × Int) :=
 if a1.size = 0 then none else if a0 = 1 then (if bt a1 0 = 97 then goF 1 a1 else if bt a1 0 = 98 then some (0, 0, ⟨#[]⟩, 0, 22) else some (0, 0, ⟨#[]⟩, 0, 11))
 else if a0 = 2 then (if bt a1 0 = 98 then goF 2 a1 else if bt a1 0 = 97 then some (0, 0, ⟨#[]⟩, 0, 22) else some (0, 0, ⟨#[]⟩, 0, 11)) else none
theorem read_one_calls (s : ByteArray) (kd fl ah n : Int) (wh : Bool) (h : readF 1 s = some (kd, fl, ah, n, wh)) : (0 ≤ ah ∧ ah ≤ 200) ∧ (0 ≤ n ∧ n ≤ 9007199254740992) ∧ ∀ w : World, Calls Try.prog 52 #[.agg #[], .string s] w fun e w' => e = .returned (.tuple #[.agg #[.int .i64 kd, .int .i64 fl, .string ⟨#[]⟩], .int .i64 ah, .int .i64 n, .bool wh]) ∧ Below w.heap.size w w' := by
 unfold readF at h
 rw [if_pos rfl] at h
 by_cases c : (s.size : Int) < 4
 ·rw [if_pos c] at h
  cases h
  exact ⟨by omega, by omega, fun w => read_one_cut s c w⟩
 ·rw [if_neg c] at h
  cases h
  obtain ⟨n2, e2, l2⟩ := bt_nat s 2
  obtain ⟨n3, e3, l3⟩ := bt_nat s 3
  exact ⟨by omega, by rw [e2, e3]; omega, fun w => read_one_ok s c w⟩
theorem read_two_calls (s : ByteArray) (kd fl ah n : Int) (wh : Bool) (h : readF 2 s = some (kd, fl, ah, n, wh)) : (0 ≤ ah ∧ ah ≤ 200) ∧ (0 ≤ n ∧ n ≤ 9007199254740992) ∧ ∀ w : World, Calls Try.prog 54 #[.agg #[], .string s] w fun e w' => e = .returned (.tuple #[.agg #[.int .i64 kd, .int .i64 fl, .string ⟨#[]⟩], .int .i64 ah, .int .i64 n, .bool wh]) ∧ Below w.heap.size w w' := by
 unfold readF at h
 rw [if_neg (by decide)] at h
 by_cases c : (s.size : Int) < 3
 ·rw [if_pos c] at h
  cases h
  exact ⟨by omega, by omega, fun w => read_two_cut s c w⟩
 ·rw [if_neg c] at h
  obtain ⟨⟨t1, t2, t3⟩, ht, h⟩ := Option.bind_eq_some_iff.mp h
  by_cases c10 : t3 = 10
  ·subst c10
   rw [if_pos rfl] at h
   cases h
   exact ⟨by omega, by omega, fun w => read_two_cut2 s c 200 t1 t2 ht w⟩
  ·rw [if_neg c10] at h
   by_cases cb : 0 ≤ t2 ∧ t2 ≤ 100 ∧ 0 ≤ t1 ∧ t1 ≤ 9007199254740992
   ·rw [if_pos cb] at h
    by_cases c0 : t3 = 0
    ·subst c0
     rw [if_pos rfl] at h
     cases h
     exact ⟨by show 0 ≤ 3 + t2 ∧ 3 + t2 ≤ 200; omega, by show 0 ≤ t1 ∧ t1 ≤ _; omega, fun w => read_two_ok s c 200 t1 t2 cb.1 cb.2.1 ht w⟩
    ·rw [if_neg c0] at h
     cases h
     exact ⟨by show 0 ≤ 3 + t2 ∧ 3 + t2 ≤ 200; omega, by omega, fun w => read_two_bad s c 200 t1 t2 cb.1 cb.2.1 t3 (by simpa using c10) (by simpa using c0) ht w⟩
   ·rw [if_neg cb] at h; cases h
theorem go_one_calls (s : ByteArray) (hs : 0 < s.size) (hL : bt s 0 = 97) (kd fl : Int) (d : ByteArray) (n e : Int) (h : goF 1 s = some (kd, fl, d, n, e)) (w : World) :
  Calls Try.prog 28 #[.int .i64 1, .string s] w fun e' w' => e' = .returned (.tuple #[.agg #[.int .i64 kd, .int .i64 fl, .string d], .int .i64 n, .int .i64 e]) ∧ Below w.heap.size w w' := by
 unfold goF at h
 obtain ⟨⟨k1, f1, ah, nn, wh⟩, hr, h⟩ := Option.bind_eq_some_iff.mp h
 obtain ⟨ha, hn, hrd⟩ := read_one_calls s k1 f1 ah nn wh hr
 have hbe : ∀ w : World, Calls Try.prog 31 #[.iface 55 (.agg #[]), .int .u8 97] w fun e w' => e = .returned (.int .i64 0) ∧ Below w.heap.size w w' := fun w => begins_one_ok 97 (by decide) w
 dsimp only at h
 by_cases c1 : wh = false
 ·rw [if_pos c1] at h
  cases h
  exact take_one_cut s hs 97 hL 0 hbe kd fl ah nn wh ha hn hrd rfl c1 w
 rw [if_neg c1] at h
 have c1' : wh = true := by simpa using c1
 by_cases c2 : nn > 4000
 ·rw [if_pos c2] at h
  cases h
  exact take_one_long s hs 97 hL 0 hbe kd fl ah nn wh ha hn hrd rfl c1' c2 w
 rw [if_neg c2] at h
 by_cases c3 : (s.size : Int) < ah + nn + 4
 ·rw [if_pos c3] at h
  cases h
  exact take_one_short s hs 97 hL 0 hbe kd fl ah nn wh ha hn hrd rfl c1' c2 c3 w
 rw [if_neg c3] at h
 subst c1'
 obtain ⟨a, rfl⟩ := Int.eq_ofNat_of_zero_le ha.1
 obtain ⟨m, rfl⟩ := Int.eq_ofNat_of_zero_le hn.1
 rw [Int.toNat_natCast, Int.toNat_natCast] at h
 obtain ⟨r, hR, h⟩ := Option.bind_eq_some_iff.mp h
 by_cases c4 : r = false
 ·subst c4
  rw [if_pos rfl] at h
  cases h
  exact take_one_wrong s hs 97 hL hbe kd fl a m (by omega) (by omega) hrd (by omega) hR w
 rw [if_neg c4] at h
 have c4' : r = true := by simpa using c4
 subst c4'
 obtain ⟨u, hu, h⟩ := Option.bind_eq_some_iff.mp h
 obtain ⟨b, hb, h⟩ := Option.bind_eq_some_iff.mp h
 by_cases c5 : (b.toList == (s.extract (a + m) (a + m + 4)).toList) = true
 ·rw [if_pos c5] at h
  cases h
  exact take_one_ok s hs 97 hL hbe kd fl a m (by omega) (by omega) hrd (by omega) hR 50000 u hu b hb c5 w
 ·rw [if_neg c5] at h
  cases h
  exact take_one_sum s hs 97 hL hbe kd fl a m (by omega) (by omega) hrd (by omega) hR 50000 u hu b hb (by simpa using c5) w
theorem go_two_calls (s : ByteArray) (hs : 0 < s.size) (hL : bt s 0 = 98) (kd fl : Int) (d : ByteArray) (n e : Int) (h : goF 2 s = some (kd, fl, d, n, e)) (w : World) :
  Calls Try.prog 28 #[.int .i64 2, .string s] w fun e' w' => e' = .returned (.tuple #[.agg #[.int .i64 kd, .int .i64 fl, .string d], .int .i64 n, .int .i64 e]) ∧ Below w.heap.size w w' := by
 unfold goF at h
 obtain ⟨⟨k1, f1, ah, nn, wh⟩, hr, h⟩ := Option.bind_eq_some_iff.mp h
 obtain ⟨ha, hn, hrd⟩ := read_two_calls s k1 f1 ah nn wh hr
 have hbe : ∀ w : World, Calls Try.prog 31 #[.iface 60 (.agg #[]), .int .u8 98] w fun e w' => e = .returned (.int .i64 0) ∧ Below w.heap.size w w' := fun w => begins_two_ok 98 (by decide) w
 dsimp only at h
 by_cases c1 : wh = false
 ·rw [if_pos c1] at h
  cases h
  exact take_two_cut s hs 98 hL 0 hbe kd fl ah nn wh ha hn hrd rfl c1 w
 rw [if_neg c1] at h
 have c1' : wh = true := by simpa using c1
 by_cases c2 : nn > 4000
 ·rw [if_pos c2] at h
  cases h
  exact take_two_long s hs 98 hL 0 hbe kd fl ah nn wh ha hn hrd rfl c1' c2 w
 rw [if_neg c2] at h
 by_cases c3 : (s.size : Int) < ah + nn + 4
 ·rw [if_pos c3] at h
  cases h
  exact take_two_short s hs 98 hL 0 hbe kd fl ah nn wh ha hn hrd rfl c1' c2 c3 w
 rw [if_neg c3] at h
 subst c1'
 obtain ⟨a, rfl⟩ := Int.eq_ofNat_of_zero_le ha.1
 obtain ⟨m, rfl⟩ := Int.eq_ofNat_of_zero_le hn.1
 rw [Int.toNat_natCast, Int.toNat_natCast] at h
 obtain ⟨r, hR, h⟩ := Option.bind_eq_some_iff.mp h
 by_cases c4 : r = false
 ·subst c4
  rw [if_pos rfl] at h
  cases h
  exact take_two_wrong s hs 98 hL hbe kd fl a m (by omega) (by omega) hrd (by omega) hR w
 rw [if_neg c4] at h
 have c4' : r = true := by simpa using c4
 subst c4'
 obtain ⟨u, hu, h⟩ := Option.bind_eq_some_iff.mp h
 obtain ⟨b, hb, h⟩ := Option.bind_eq_some_iff.mp h
 by_cases c5 : (b.toList == (s.extract (a + m) (a + m + 4)).toList) = true
 ·rw [if_pos c5] at h
  cases h
  exact take_two_ok s hs 98 hL hbe kd fl a m (by omega) (by omega) hrd (by omega) hR 50000 u hu b hb c5 w
 ·rw [if_neg c5] at h
  cases h
  exact take_two_sum s hs 98 hL hbe kd fl a m (by omega) (by omega) hrd (by omega) hR 50000 u hu b hb (by simpa using c5) w
theorem frame_take.calls (a0 : Int) (a1 : ByteArray) (r1 : Int) (r2 : Int) (r3 : ByteArray) (r4 : Int) (r5 : Int) (w : World) (h : frame_take.f a0 a1 = some (r1, r2, r3, r4, r5)) :
  Calls Try.prog 28 #[.int .i64 a0, .string a1] w fun e w' => e = .returned (.tuple #[.agg #[.int .i64 r1, .int .i64 r2, .string r3], .int .i64 r4, .int .i64 r5]) ∧ Below w.heap.size w w' := by
 unfold frame_take.f at h
 by_cases c : a1.size = 0
 ·rw [if_pos c] at h; cases h
 rw [if_neg c] at h
 have hs : 0 < a1.size := by omega
 by_cases e1 : a0 = 1
 ·subst e1
  rw [if_pos rfl] at h
  by_cases l1 : bt a1 0 = 97
  ·rw [if_pos l1] at h
   exact go_one_calls a1 hs l1 r1 r2 r3 r4 r5 h w
  rw [if_neg l1] at h
  by_cases l2 : bt a1 0 = 98
  ·rw [if_pos l2] at h
   cases h
   exact take_one_begins a1 hs 98 l2 22 (fun w => begins_one_two 98 (by decide) (by decide) w) (by decide) w
  ·rw [if_neg l2] at h
   cases h
   exact take_one_begins a1 hs _ rfl 11 (fun w => begins_one_no _ (by simpa using l1) (by simpa using l2) w) (by decide) w
 rw [if_neg e1] at h
 by_cases e2 : a0 = 2
 ·subst e2
  rw [if_pos rfl] at h
  by_cases l1 : bt a1 0 = 98
  ·rw [if_pos l1] at h
   exact go_two_calls a1 hs l1 r1 r2 r3 r4 r5 h w
  rw [if_neg l1] at h
  by_cases l2 : bt a1 0 = 97
  ·rw [if_pos l2] at h
   cases h
   exact take_two_begins a1 hs 97 l2 22 (fun w => begins_two_one 97 (by decide) (by decide) w) (by decide) w
  ·rw [if_neg l2] at h
   cases h
   exact take_two_begins a1 hs _ rfl 11 (fun w => begins_two_no _ (by simpa using l2) (by simpa using l1) w) (by decide) w
 ·rw [if_neg e2] at h; cases h

end Go.Proofs.Ytmicfaeloanffaa.PAll
