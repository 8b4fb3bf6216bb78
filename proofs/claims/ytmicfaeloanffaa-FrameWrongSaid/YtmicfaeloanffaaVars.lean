/- What the printed functions of varint and of its reference answer, in plain words. -/
import Derived.Test.YtmicfaeloanffaaBase
import Derived.Test.YtmicfaeloanffaaVari
import Derived.Test.YtmicfaeloanffaaPAllx2
import Derived.Test.YtmicfaeloanffaaPAllx6
namespace Go.Proofs.Ytmicfaeloanffaa.Vars
open Go.RowKit Go.Proofs.YtmicfaeloanffaaW.PrintWords Go.Proofs.YtmicfaeloanffaaW.PrintLast Go.Proofs.YtmicfaeloanffaaW.PrintMore Go.Proofs.Ytmicfaeloanffaa.PAll Go.Proofs.Ytmicfaeloanffaa.Base Go.Proofs.Ytmicfaeloanffaa.Vari Go.Proofs.Ytmicfaeloanffaa.HandPut

/-- A text's bytes as numbers. -/
def bl (s : ByteArray) : List Nat := s.toList.map UInt8.toNat
theorem bl_len (s : ByteArray) : (bl s).length = s.size := by rw [bl, List.length_map, tl_size]
theorem bl_lt (s : ByteArray) : ∀ x ∈ bl s, x < 256 := by
  intro x hx
  obtain ⟨u, _, rfl⟩ := List.mem_map.1 hx
  exact u.toNat_lt
theorem bl_append (a b : ByteArray) : bl (a ++ b) = bl a ++ bl b := by rw [bl, tl_append, List.map_append]; rfl
theorem bl_take (s : ByteArray) (j : Nat) : bl (s.extract 0 j) = (bl s).take j := by rw [bl, tl_extract, bl, List.drop_zero, List.map_take]
theorem bl_drop (s : ByteArray) (j : Nat) : bl (s.extract j s.size) = (bl s).drop j := by
  rw [bl, tl_extract, bl, List.take_of_length_le (by rw [tl_size]; omega), List.map_drop]
theorem bl_inj {a b : ByteArray} (h : bl a = bl b) : a = b := by
  apply tl_inj
  have hi : Function.Injective UInt8.toNat := fun x y h => UInt8.toNat_inj.1 h
  exact (List.map_inj_right (fun x y h => hi h)).1 h
theorem bl_nums (L : List Nat) (h : ∀ x ∈ L, x < 256) : bl (strOfNums (L.map fun x : Nat => (x : Int))) = L := by
  rw [bl, tl_nums, List.map_map, List.map_map]
  conv => rhs; rw [← List.map_id L]
  apply List.map_congr_left
  intro x hx
  have := h x hx
  simp
  omega
theorem bt_bl (s : ByteArray) (i : Nat) : bt s (i : Int) = (((bl s).getD i 0 : Nat) : Int) := by
  rw [bt_getD, bl, List.getD_eq_getElem?_getD, List.getD_eq_getElem?_getD, List.getElem?_map]
  cases s.toList[i]? <;> rfl
/-- A number's bytes, as a text. -/
def num (n : Nat) : ByteArray := strOfNums ((dg n).map fun x : Nat => (x : Int))
theorem bl_num (n : Nat) : bl (num n) = dg n := bl_nums _ (dg_lt n)
theorem num_size (n : Nat) : (num n).size = (dg n).length := by rw [← bl_len, bl_num]
theorem put_ok (n : Nat) (h : n ≤ 9007199254740992) : HandPut.Put.f (n : Int) = some (num n, 0) := by
  show Put.f (n : Int) = _
  unfold Put.f
  rw [if_neg (by omega), if_neg (by omega)]
  rfl
theorem put_no (n : Int) (h : ¬ (0 ≤ n ∧ n ≤ 9007199254740992)) : HandPut.Put.f n = some (⟨#[]⟩, 1) := by
  show Put.f n = _
  unfold Put.f
  by_cases g : n < 0
  · rw [if_pos g]
  · rw [if_neg g, if_pos (by omega)]
theorem put_put (n : Int) : HandPut.Put.f n = some (if 0 ≤ n ∧ n ≤ 9007199254740992 then (num n.toNat, 0) else (⟨#[]⟩, 1)) := by
  by_cases h : 0 ≤ n ∧ n ≤ 9007199254740992
  · rw [if_pos h]
    obtain ⟨m, rfl⟩ := Int.eq_ofNat_of_zero_le h.1
    exact put_ok m (by omega)
  · rw [if_neg h]; exact put_no n h
theorem nums_one (x : Int) : (strOfNums [x]).size = 1 := by rw [tl_size, tl_nums]; rfl
theorem ref_put_loop : ∀ (n : Nat) (acc : ByteArray) (k : Nat), n ≤ 9007199254740992 → acc.size + (dg n).length ≤ 100 →
    careenref01_Put.l0 (k + (dg n).length) (n : Int) acc = some (acc ++ num n, 0) := by
  intro n
  induction n using dg.induct with
  | case1 n h =>
    intro acc k hn hz
    have e1 : ((n : Int)) % 256 = (n : Int) := by omega
    have hz' := hz
    rw [dg_small h] at hz' ⊢
    simp only [List.length_cons, List.length_nil] at hz' ⊢
    rw [careenref01_Put.l0, if_neg (by omega), Option.bind_some, if_pos (by rw [nums_one]; omega), e1]
    unfold num
    rw [dg_small h]
    rfl
  | case2 n h ih =>
    intro acc k hn hz
    have hl : (dg n).length = (dg (n / 128)).length + 1 := by rw [dg_big h]; rfl
    have e0 : Int.tmod (n : Int) 128 = ((n % 128 : Nat) : Int) := by rw [Int.tmod_eq_emod_of_nonneg (by omega)]; omega
    have e1 : (wrap64 (Int.tmod (n : Int) 128 + 128)) % 256 = ((n % 128 + 128 : Nat) : Int) := by rw [e0, wrap64_id (by omega) (by omega)]; omega
    have e2 : wrap64 (Int.tdiv (n : Int) 128) = ((n / 128 : Nat) : Int) := by rw [Int.tdiv_eq_ediv_of_nonneg (by omega), wrap64_id (by omega) (by omega)]; omega
    rw [hl, ← Nat.add_assoc, careenref01_Put.l0, if_pos (by omega), Option.bind_some, if_pos (by rw [nums_one]; omega), e1, e2, ih _ k (by omega) (by rw [ByteArray.size_append, nums_one]; omega)]
    congr 2
    apply tl_inj
    unfold num
    rw [dg_big h, tl_append, tl_append, tl_append, tl_nums, tl_nums, tl_nums]
    simp
theorem ref_put (n : Int) (k : Nat) : careenref01_Put.f (k + 12) n = HandPut.Put.f n := by
  unfold careenref01_Put.f
  by_cases h1 : n < 0
  · rw [if_pos h1, careenref01_Put.j0, if_pos rfl, put_no n (by omega)]
  · rw [if_neg h1, careenref01_Put.j0]
    by_cases h2 : n > 9007199254740992
    · rw [if_pos (decide_eq_true h2), put_no n (by omega)]
    · rw [if_neg (by simpa using h2)]
      obtain ⟨m, rfl⟩ := Int.eq_ofNat_of_zero_le (show 0 ≤ n by omega)
      have hl : (dg m).length ≤ 8 := dg_len 7 m (by omega)
      have hz : (⟨#[]⟩ : ByteArray).size = 0 := rfl
      have := ref_put_loop m ⟨#[]⟩ (k + 11 - (dg m).length) (by omega) (by omega)
      rw [show k + 11 - (dg m).length + (dg m).length = k + 11 from by omega] at this
      rw [this, put_ok m (by omega)]
      congr 2
      all_goals (apply tl_inj; rw [tl_append, tl_nil]; rfl)
/-! ### Take -/
theorem drop_cons (S : List Nat) (i : Nat) (h : i < S.length) : S.drop i = S.getD i 0 :: S.drop (i + 1) := by
  rw [List.drop_eq_getElem_cons h, List.getD_eq_getElem?_getD, List.getElem?_eq_getElem h]; rfl
theorem size_loop (s : ByteArray) : ∀ (d i : Nat) (k : Nat), i + d = min s.size 8 →
    varint_size.l0 (k + d + 1) s (mn (s.size : Int) 8) (i : Int) = some (if scan (8 - i) ((bl s).drop i) = 0 then 0 else ((i + scan (8 - i) ((bl s).drop i) : Nat) : Int)) := by
  intro d
  induction d with
  | zero =>
    intro i k hi
    rw [varint_size.l0, if_neg (by rw [mn_eq]; omega)]
    have e : scan (8 - i) ((bl s).drop i) = 0 := by
      by_cases g : i = 8
      · subst g; rfl
      · rw [List.drop_of_length_le (by rw [bl_len]; omega)]
        cases 8 - i <;> rfl
    rw [if_pos e]
  | succ d ih =>
    intro i k hi
    have hlt : i < (bl s).length := by rw [bl_len]; omega
    have e8 : 8 - i = (8 - (i + 1)) + 1 := by omega
    rw [varint_size.l0, if_pos (by rw [mn_eq]; omega), if_pos (by omega), if_pos (by omega), bt_bl, drop_cons (bl s) i hlt, e8, scan]
    by_cases g : (bl s).getD i 0 < 128
    · rw [if_pos (by omega), if_pos g, if_neg (by decide), wrap64_id (by omega) (by omega)]; rfl
    · rw [if_neg (by omega), if_neg g, wrap64_id (by omega) (by omega)]
      have := ih (i + 1) k (by omega)
      rw [show k + (d + 1) = k + d + 1 from by omega, show (i : Int) + 1 = ((i + 1 : Nat) : Int) from by omega, this]
      by_cases q : scan (8 - (i + 1)) ((bl s).drop (i + 1)) = 0
      · rw [if_pos q, if_pos q, if_pos rfl]
      · rw [if_neg q, if_neg q, if_neg (by omega)]
        congr 1; omega
theorem size_eq (s : ByteArray) (k : Nat) : varint_size.f (k + 9) s = some ((scan 8 (bl s) : Nat) : Int) := by
  unfold varint_size.f
  have := size_loop s (min s.size 8) 0 (k + 8 - min s.size 8) (by omega)
  rw [show k + 8 - min s.size 8 + min s.size 8 + 1 = k + 9 from by omega] at this
  have this2 : varint_size.l0 (k + 9) s (mn (s.size : Int) 8) 0 = _ := this
  rw [this2, List.drop_zero, Nat.sub_zero, Nat.zero_add]
  by_cases g : scan 8 (bl s) = 0
  · rw [if_pos g, g]; rfl
  · rw [if_neg g]
theorem clear7 : ∀ x : Fin 256, Go.bits .andNot .u8 (x.val : Int) 128 = ((x.val % 128 : Nat) : Int) := by decide +kernel
theorem or7 (v c : Nat) (hv : v < 2 ^ 50) (hc : c < 128) : Go.bits .or .i64 ((v : Int) * 128) (c : Int) = ((c + 128 * v : Nat) : Int) := by
  have e := (bits_nat .i64 63 (by decide) (fun n h0 h1 => by rw [IntKind.wrap_i64]; omega) (v * 128) c (by omega) (by omega)).2
  rw [show ((v * 128 : Nat) : Int) = (v : Int) * 128 from by omega] at e
  rw [e]
  have h := Nat.shiftLeft_add_eq_or_of_lt (i := 7) (b := c) (by omega) v
  rw [Nat.shiftLeft_eq] at h
  rw [show v * 128 = v * 2 ^ 7 from rfl, ← h]
  congr 1; omega
theorem take_loop (s : ByteArray) (n : Nat) (hn : n ≤ s.size) (hn8 : n ≤ 8) : ∀ (j : Nat) (k : Nat), j ≤ n →
    varint_Take.l0 (k + j + 1) s (n : Int) ((val (((bl s).take n).drop j) : Nat) : Int) ((j : Int) - 1) = some (if 9007199254740992 < val ((bl s).take n) then (0, 0, 11) else ((val ((bl s).take n) : Int), (n : Int), 0)) := by
  intro j
  induction j with
  | zero =>
    intro k hj
    rw [varint_Take.l0, if_neg (by omega), List.drop_zero]
    by_cases g : 9007199254740992 < val ((bl s).take n)
    · rw [if_pos g, if_pos (by omega)]
    · rw [if_neg g, if_neg (by omega)]
  | succ j ih =>
    intro k hj
    have hlen : ((bl s).take n).length = n := by rw [List.length_take, bl_len]; omega
    have hlt : j < ((bl s).take n).length := by omega
    have e1 : ((j + 1 : Nat) : Int) - 1 = (j : Int) := by omega
    have hv := val_lt (((bl s).take n).drop (j + 1))
    rw [List.length_drop, hlen] at hv
    have hv2 : val (((bl s).take n).drop (j + 1)) < 128 ^ 7 := Nat.lt_of_lt_of_le hv (Nat.pow_le_pow_right (by decide) (by omega))
    have hb : ((bl s).take n).getD j 0 = (bl s).getD j 0 := by
      rw [List.getD_eq_getElem?_getD, List.getD_eq_getElem?_getD, List.getElem?_take, if_pos (by omega)]
    have hbl : (bl s).getD j 0 < 256 := by
      rw [List.getD_eq_getElem?_getD]
      cases h : (bl s)[j]? with
      | none => simp
      | some u => exact bl_lt s u (List.mem_of_getElem? h)
    have ec := clear7 ⟨(bl s).getD j 0, hbl⟩
    simp only at ec
    rw [varint_Take.l0, e1, if_pos (by omega), if_pos (by omega), if_pos (by omega), bt_bl, ec, wrap64_id (n := (((bl s).getD j 0 % 128 : Nat) : Int)) (by omega) (by omega), wrap64_id (n := ((val (((bl s).take n).drop (j + 1)) : Nat) : Int) * 128) (by omega) (by omega), or7 _ _ (by omega) (by omega), wrap64_id (by omega) (by omega)]
    have e2 : (bl s).getD j 0 % 128 + 128 * val (((bl s).take n).drop (j + 1)) = val (((bl s).take n).drop j) := by
      rw [drop_cons _ j hlt, val, hb]
    rw [e2, show k + (j + 1) = k + j + 1 from by omega]
    exact ih k (by omega)
theorem take_eq (s : ByteArray) (k : Nat) : varint_Take.f (k + 20) s = some (takeP (bl s)) := by
  unfold varint_Take.f takeP takeN
  have hle := scan_le 8 (bl s)
  rw [bl_len] at hle
  rw [show k + 20 = (k + 11) + 9 from by omega, size_eq, Option.bind_some, show k + 11 + 9 = k + 18 + 1 + 1 from by omega]
  generalize scan 8 (bl s) = n at *
  by_cases h0 : n = 0
  · rw [if_pos (by omega), varint_Take.j0, if_pos h0, bl_len]
    by_cases h1 : s.size < 8
    · rw [if_pos (decide_eq_true (by omega)), if_pos h1]
    · rw [if_neg (by simp; omega), if_neg h1, if_pos (by omega)]
  · rw [if_neg (by omega), varint_Take.j0, if_neg (by decide), if_neg (by omega), if_neg h0]
    have fin : varint_Take.j1 (k + 18 + 1) s (n : Int) 0 = some (if 9007199254740992 < val ((bl s).take n) then (0, 0, 11) else ((val ((bl s).take n) : Int), (n : Int), 0)) := by
      rw [varint_Take.j1, wrap64_id (by omega) (by omega)]
      have := take_loop s n hle.2 hle.1 n (k + 17 - n) (by omega)
      rw [List.drop_of_length_le (by rw [List.length_take]; omega), show k + 17 - n + n + 1 = k + 18 from by omega] at this
      exact this
    by_cases h1 : n > 1
    · rw [if_pos (by omega), wrap64_id (by omega) (by omega), if_pos (by omega), if_pos (by omega), show (n : Int) - 1 = ((n - 1 : Nat) : Int) from by omega, bt_bl]
      by_cases h2 : (bl s).getD (n - 1) 0 = 0
      · rw [if_pos (by omega), if_pos ⟨h1, h2⟩]
      · rw [if_neg (by omega), if_neg (fun h => h2 h.2)]
        exact fin
    · rw [if_neg (by omega), if_neg (fun h => h1 h.1)]
      exact fin
end Go.Proofs.Ytmicfaeloanffaa.Vars
