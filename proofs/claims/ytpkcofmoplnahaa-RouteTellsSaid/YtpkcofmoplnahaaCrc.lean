/- The plain law of the sums: a linear step that is undone, four bytes as one number. -/
namespace Go.Proofs.Ytpkcofmoplnahaa.Crc
def way : BitVec 32 := 0xedb88320#32
/-- one bit of the sum's step -/
def T (v : BitVec 32) : BitVec 32 := if v.getLsbD 0 then (v >>> 1) ^^^ way else v >>> 1
def U (v : BitVec 32) : BitVec 32 := if v.getLsbD 31 then ((v ^^^ way) <<< 1) ||| 1#32 else v <<< 1
theorem UT (v : BitVec 32) : U (T v) = v := by
  unfold U T
  cases h : v.getLsbD 0 with
  | true =>
    simp only [if_true]
    have h31 : ((v >>> 1) ^^^ way).getLsbD 31 = true := by simp [way]
    rw [if_pos h31, BitVec.xor_assoc, BitVec.xor_self, BitVec.xor_zero]
    apply BitVec.eq_of_getLsbD_eq
    intro i hi
    rcases i with _ | i
    · simp [h]
    · simp [hi, Nat.add_comm 1 i]
  | false =>
    simp only [Bool.false_eq_true, if_false]
    have h31 : (v >>> 1).getLsbD 31 = false := by simp
    rw [h31]
    simp only [Bool.false_eq_true, if_false]
    apply BitVec.eq_of_getLsbD_eq
    intro i hi
    rcases i with _ | i
    · rw [h]; simp
    · simp [hi, Nat.add_comm 1 i]
theorem T_inj {v u : BitVec 32} (h : T v = T u) : v = u := by rw [← UT v, h, UT]
/-- what stands in the upper bits moves down by one -/
theorem T_up (v c : BitVec 32) (hc : c.getLsbD 31 = false) : T (v ^^^ (c <<< 1)) = T v ^^^ c := by
  have e : (c <<< 1) >>> 1 = c := by
    apply BitVec.eq_of_getLsbD_eq
    intro i hi
    by_cases h : i = 31
    · subst h; rw [hc]; simp
    · have : 1 + i < 32 := by omega
      simp [this, hi]
  have h0 : (v ^^^ (c <<< 1)).getLsbD 0 = v.getLsbD 0 := by simp
  have hs : (v ^^^ (c <<< 1)) >>> 1 = (v >>> 1) ^^^ c := by rw [BitVec.ushiftRight_xor_distrib, e]
  unfold T
  rw [h0, hs]
  split
  · rw [BitVec.xor_assoc, BitVec.xor_comm c, BitVec.xor_assoc]
  · rfl
def T8 (v : BitVec 32) : BitVec 32 := T (T (T (T (T (T (T (T v)))))))
theorem T8_inj {v u : BitVec 32} (h : T8 v = T8 u) : v = u := T_inj (T_inj (T_inj (T_inj (T_inj (T_inj (T_inj (T_inj h)))))))
theorem T8_up (v c : BitVec 32) (hc : c.toNat < 2 ^ 24) : T8 (v ^^^ (c <<< 8)) = T8 v ^^^ c := by
  have bit : ∀ j, j < 8 → (c <<< j).getLsbD 31 = false := by
    intro j hj
    simp only [BitVec.getLsbD_shiftLeft]
    have : c.getLsbD (31 - j) = false := by
      simp only [BitVec.getLsbD]
      exact Nat.testBit_lt_two_pow (Nat.lt_of_lt_of_le hc (Nat.pow_le_pow_right (by decide) (by omega)))
    simp [this]
  have st : ∀ j, c <<< (j + 1) = (c <<< j) <<< 1 := by intro j; rw [BitVec.shiftLeft_add]
  unfold T8
  rw [st 7, T_up _ _ (bit 7 (by decide)), st 6, T_up _ _ (bit 6 (by decide)), st 5, T_up _ _ (bit 5 (by decide)), st 4, T_up _ _ (bit 4 (by decide)), st 3, T_up _ _ (bit 3 (by decide)), st 2, T_up _ _ (bit 2 (by decide)), st 1, T_up _ _ (bit 1 (by decide)), st 0, T_up _ _ (bit 0 (by decide))]
  simp
/-- the step of one byte -/
def stp (v : BitVec 32) (b : UInt8) : BitVec 32 := T8 (v ^^^ BitVec.ofNat 32 b.toNat)
/-- the sum's inner number behind a text -/
def run (v : BitVec 32) (l : List UInt8) : BitVec 32 := l.foldl stp v
theorem run_append (v : BitVec 32) (a b : List UInt8) : run v (a ++ b) = run (run v a) b := List.foldl_append ..
theorem stp_inj {v u : BitVec 32} {b : UInt8} (h : stp v b = stp u b) : v = u := by
  have := T8_inj h
  have e : (v ^^^ BitVec.ofNat 32 b.toNat) ^^^ BitVec.ofNat 32 b.toNat = (u ^^^ BitVec.ofNat 32 b.toNat) ^^^ BitVec.ofNat 32 b.toNat := by rw [this]
  rwa [BitVec.xor_assoc, BitVec.xor_self, BitVec.xor_zero, BitVec.xor_assoc, BitVec.xor_self, BitVec.xor_zero] at e
theorem run_inj {v u : BitVec 32} {l : List UInt8} (h : run v l = run u l) : v = u := by
  induction l generalizing v u with
  | nil => exact h
  | cons b l ih => exact stp_inj (ih h)
/-- four bytes as one number -/
def word (b0 b1 b2 b3 : UInt8) : BitVec 32 := BitVec.ofNat 32 b0.toNat ^^^ (BitVec.ofNat 32 b1.toNat <<< 8) ^^^ (BitVec.ofNat 32 b2.toNat <<< 16) ^^^ (BitVec.ofNat 32 b3.toNat <<< 24)
theorem run4 (v : BitVec 32) (b0 b1 b2 b3 : UInt8) : run v [b0, b1, b2, b3] = T8 (T8 (T8 (T8 (v ^^^ word b0 b1 b2 b3)))) := by
  have lt : ∀ b : UInt8, (BitVec.ofNat 32 b.toNat).toNat < 2 ^ 8 := by
    intro b; have := b.toNat_lt; simp; omega
  have sh : ∀ (b : UInt8) (j : Nat), j ≤ 16 → (BitVec.ofNat 32 b.toNat <<< j).toNat < 2 ^ 24 := by
    intro b j hj
    rw [BitVec.toNat_shiftLeft, Nat.shiftLeft_eq]
    have h1 := lt b
    have h2 : 2 ^ j ≤ 2 ^ 16 := Nat.pow_le_pow_right (by decide) hj
    calc _ ≤ (BitVec.ofNat 32 b.toNat).toNat * 2 ^ j := Nat.mod_le _ _
      _ < 2 ^ 8 * 2 ^ j := Nat.mul_lt_mul_of_pos_right h1 (Nat.two_pow_pos j)
      _ ≤ 2 ^ 8 * 2 ^ 16 := Nat.mul_le_mul_left _ h2
  have e8 : ∀ (c : BitVec 32) (j : Nat), c <<< (j + 8) = (c <<< j) <<< 8 := by intro c j; rw [BitVec.shiftLeft_add]
  have x : ∀ a b c d e : BitVec 32, a ^^^ (b ^^^ c ^^^ d ^^^ e) = (((a ^^^ b) ^^^ c) ^^^ d) ^^^ e := by intro a b c d e; simp only [BitVec.xor_assoc]
  simp only [run, List.foldl, stp, word]
  rw [x]
  rw [e8 _ 16, T8_up _ _ (sh _ _ (by decide)), e8 _ 8, T8_up _ _ (sh _ _ (by decide))]
  rw [show BitVec.ofNat 32 b1.toNat <<< 8 = (BitVec.ofNat 32 b1.toNat <<< 0) <<< 8 from by simp, T8_up _ _ (sh _ _ (by decide)), show BitVec.ofNat 32 b1.toNat <<< 0 = BitVec.ofNat 32 b1.toNat from by simp]
  rw [e8 _ 8, T8_up _ _ (sh _ _ (by decide))]
  rw [show BitVec.ofNat 32 b2.toNat <<< 8 = (BitVec.ofNat 32 b2.toNat <<< 0) <<< 8 from by simp, T8_up _ _ (sh _ _ (by decide)), show BitVec.ofNat 32 b2.toNat <<< 0 = BitVec.ofNat 32 b2.toNat from by simp]
  rw [show BitVec.ofNat 32 b3.toNat <<< 8 = (BitVec.ofNat 32 b3.toNat <<< 0) <<< 8 from by simp, T8_up _ _ (sh _ _ (by decide)), show BitVec.ofNat 32 b3.toNat <<< 0 = BitVec.ofNat 32 b3.toNat from by simp]

def byte (x i : Nat) : UInt8 := UInt8.ofNat (x / 256 ^ i)
theorem word_bytes (x : Nat) : word (byte x 0) (byte x 1) (byte x 2) (byte x 3) = BitVec.ofNat 32 x := by
  have g : ∀ j, (byte x j).toNat = x / 256 ^ j % 256 := by intro j; simp [byte]
  have lt : ∀ j k, (BitVec.ofNat 32 (x / 256 ^ j % 256) <<< k).getLsbD = fun i => decide (i < 32) && (!decide (i < k) && Nat.testBit (x / 256 ^ j % 256) (i - k)) := by
    intro j k; funext i
    simp only [BitVec.getLsbD_shiftLeft, BitVec.getLsbD_ofNat]
    by_cases h : i < 32
    · have : i - k < 32 := by omega
      simp [h, this]
    · simp [h]
  apply BitVec.eq_of_getLsbD_eq
  intro i hi
  unfold word
  simp only [g, BitVec.getLsbD_xor, lt]
  have p : ∀ j, x / 256 ^ j % 256 = (x >>> (8 * j)) % 2 ^ 8 := by
    intro j; rw [Nat.shiftRight_eq_div_pow, Nat.pow_mul]
  simp only [p, BitVec.getLsbD_ofNat, Nat.testBit_mod_two_pow, Nat.testBit_shiftRight, hi, decide_true, Bool.true_and]
  by_cases h1 : i < 8
  · have : i < 16 := by omega
    have : i < 24 := by omega
    simp [*]
  · by_cases h2 : i < 16
    · have : i < 24 := by omega
      have : i - 8 < 8 := by omega
      have e : 8 + (i - 8) = i := by omega
      simp [*]
    · by_cases h3 : i < 24
      · have : i - 16 < 8 := by omega
        have : ¬ i - 8 < 8 := by omega
        have e : 16 + (i - 16) = i := by omega
        simp [*]
      · have : i - 24 < 8 := by omega
        have : ¬ i - 8 < 8 := by omega
        have : ¬ i - 16 < 8 := by omega
        have e : 24 + (i - 24) = i := by omega
        simp [*]
theorem word_xor (a0 a1 a2 a3 b0 b1 b2 b3 : UInt8) : word (a0 ^^^ b0) (a1 ^^^ b1) (a2 ^^^ b2) (a3 ^^^ b3) = word a0 a1 a2 a3 ^^^ word b0 b1 b2 b3 := by
  have e : ∀ a b : UInt8, BitVec.ofNat 32 (a ^^^ b).toNat = BitVec.ofNat 32 a.toNat ^^^ BitVec.ofNat 32 b.toNat := by
    intro a b
    rw [UInt8.toNat_xor]
    apply BitVec.eq_of_getLsbD_eq
    intro i hi
    simp [hi]
  unfold word
  simp only [e, BitVec.shiftLeft_xor_distrib]
  have ac : ∀ p q r s t u v w : BitVec 32, (p ^^^ q) ^^^ (r ^^^ s) ^^^ (t ^^^ u) ^^^ (v ^^^ w) = (p ^^^ r ^^^ t ^^^ v) ^^^ (q ^^^ s ^^^ u ^^^ w) := by
    intro p q r s t u v w; ac_rfl
  exact ac _ _ _ _ _ _ _ _
theorem run4_iff (v u : BitVec 32) (a0 a1 a2 a3 b0 b1 b2 b3 : UInt8) : run v [a0, a1, a2, a3] = run u [b0, b1, b2, b3] ↔ v ^^^ word a0 a1 a2 a3 = u ^^^ word b0 b1 b2 b3 := by
  rw [run4, run4]
  exact ⟨fun h => T8_inj (T8_inj (T8_inj (T8_inj h))), fun h => by rw [h]⟩
def ones : BitVec 32 := 4294967295#32
/-- the sum of a text, as a number -/
def sum (l : List UInt8) : Nat := (~~~ (run ones l)).toNat
theorem sum_lt (l : List UInt8) : sum l < 4294967296 := (~~~ (run ones l)).isLt
theorem sum_iff (a b : List UInt8) : sum a = sum b ↔ run ones a = run ones b := by
  unfold sum
  rw [BitVec.toNat_inj]
  exact ⟨fun h => by simpa using congrArg (~~~ ·) h, fun h => by rw [h]⟩
theorem sum_behind (a b c : List UInt8) : sum (a ++ c) = sum (b ++ c) ↔ sum a = sum b := by
  rw [sum_iff, sum_iff, run_append, run_append]
  exact ⟨run_inj, fun h => by rw [h]⟩
def bytes4 (x : Nat) : List UInt8 := [byte x 0, byte x 1, byte x 2, byte x 3]
theorem run_sum (a : List UInt8) : run ones (a ++ bytes4 (sum a)) = T8 (T8 (T8 (T8 (BitVec.allOnes 32)))) := by
  rw [run_append]
  unfold bytes4
  rw [run4, word_bytes _]
  have : BitVec.ofNat 32 (sum a) = ~~~ (run ones a) := by unfold sum; exact BitVec.eq_of_toNat_eq (by rw [BitVec.toNat_ofNat]; exact Nat.mod_eq_of_lt (BitVec.isLt _))
  rw [this]
  have e : run ones a ^^^ ~~~ (run ones a) = BitVec.allOnes 32 := by
    apply BitVec.eq_of_getLsbD_eq; intro i hi; rw [BitVec.getLsbD_xor, BitVec.getLsbD_not, BitVec.getLsbD_allOnes]; simp only [hi, decide_true, Bool.true_and]; cases (run ones a).getLsbD i <;> rfl
  rw [e]
theorem sum_bytes (x y : Nat) (hx : x < 4294967296) (hy : y < 4294967296) (a b : List UInt8) (hv : sum a = sum b) : sum (a ++ bytes4 x) = sum (b ++ bytes4 y) ↔ x = y := by
  rw [sum_iff] at hv
  rw [sum_iff, run_append, run_append]
  unfold bytes4
  rw [run4_iff, word_bytes x, word_bytes y, hv]
  constructor
  · intro h
    have := congrArg (run ones b ^^^ ·) h
    simp only [← BitVec.xor_assoc, BitVec.xor_self, BitVec.zero_xor] at this
    have := congrArg BitVec.toNat this
    simpa [Nat.mod_eq_of_lt hx, Nat.mod_eq_of_lt hy] using this
  · rintro rfl; rfl
/-- four bytes that stand side by side, each turned by a number's byte -/
theorem sum_changed (p q : List UInt8) (b0 b1 b2 b3 : UInt8) (x : Nat) (hx : x < 4294967296) :
    sum (p ++ [b0 ^^^ byte x 0, b1 ^^^ byte x 1, b2 ^^^ byte x 2, b3 ^^^ byte x 3] ++ q) = sum (p ++ [b0, b1, b2, b3] ++ q) ↔ x = 0 := by
  rw [sum_behind, sum_iff, run_append, run_append, run4_iff, word_xor, word_bytes x]
  constructor
  · intro h
    have h2 := congrArg ((run ones p ^^^ word b0 b1 b2 b3) ^^^ ·) h
    simp only [← BitVec.xor_assoc] at h2
    have h3 : BitVec.ofNat 32 x = 0#32 := by
      have a1 : (run ones p ^^^ word b0 b1 b2 b3) ^^^ (run ones p ^^^ word b0 b1 b2 b3 ^^^ BitVec.ofNat 32 x) = (run ones p ^^^ word b0 b1 b2 b3) ^^^ (run ones p ^^^ word b0 b1 b2 b3) := by
        have h' : run ones p ^^^ word b0 b1 b2 b3 ^^^ BitVec.ofNat 32 x = run ones p ^^^ word b0 b1 b2 b3 := by rw [BitVec.xor_assoc]; exact h
        rw [h']
      rwa [← BitVec.xor_assoc, BitVec.xor_self, BitVec.zero_xor] at a1
    have := congrArg BitVec.toNat h3
    simpa [Nat.mod_eq_of_lt hx] using this
  · rintro rfl; simp
end Go.Proofs.Ytpkcofmoplnahaa.Crc
