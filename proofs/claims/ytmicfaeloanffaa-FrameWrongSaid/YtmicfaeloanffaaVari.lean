/- The plain law of a number's bytes: as lists of natural numbers. -/
import Derived.Test.YtmicfaeloanffaaHandPut
namespace Go.Proofs.Ytmicfaeloanffaa.Vari
open Go.Proofs.Ytmicfaeloanffaa.HandPut

/-- The number that bytes stand for, seven bits each, the least first. -/
def val : List Nat → Nat
  | [] => 0
  | b :: r => b % 128 + 128 * val r
/-- All but the last are 128 or more. -/
def Shape : List Nat → Prop
  | [] => False
  | [b] => b < 128
  | b :: c :: r => 128 ≤ b ∧ b < 256 ∧ Shape (c :: r)
/-- The last is not 0, but for the one byte of 0. -/
def Tidy (L : List Nat) : Prop := 1 < L.length → L.getD (L.length - 1) 0 ≠ 0
theorem shape_cons {b : Nat} {r : List Nat} (h : Shape r) (h1 : 128 ≤ b) (h2 : b < 256) : Shape (b :: r) := by
  cases r with
  | nil => exact h.elim
  | cons c r => exact ⟨h1, h2, h⟩
theorem shape_ne {L : List Nat} (h : Shape L) : L ≠ [] := by rintro rfl; exact h
theorem shape_pos {L : List Nat} (h : Shape L) : 1 ≤ L.length := by
  cases L with
  | nil => exact h.elim
  | cons b r => simp
theorem dg_shape (n : Nat) : Shape (dg n) := by
  induction n using dg.induct with
  | case1 n h => rw [dg_small h]; exact h
  | case2 n h ih => rw [dg_big h]; exact shape_cons ih (by omega) (by omega)
theorem dg_val (n : Nat) : val (dg n) = n := by
  induction n using dg.induct with
  | case1 n h => rw [dg_small h]; simp only [val]; omega
  | case2 n h ih => rw [dg_big h]; simp only [val]; rw [ih]; omega
theorem last_cons (b : Nat) {r : List Nat} (h : r ≠ []) : (b :: r).getD ((b :: r).length - 1) 0 = r.getD (r.length - 1) 0 := by
  cases r with
  | nil => exact (h rfl).elim
  | cons c r => simp
theorem dg_last (n : Nat) (h : 1 ≤ n) : (dg n).getD ((dg n).length - 1) 0 ≠ 0 := by
  induction n using dg.induct with
  | case1 n g => rw [dg_small g]; simp; omega
  | case2 n g ih => rw [dg_big g, last_cons _ (shape_ne (dg_shape _))]; exact ih (by omega)
theorem dg_tidy (n : Nat) : Tidy (dg n) := by
  intro h
  by_cases g : n = 0
  · subst g; rw [dg_small (by decide)] at h; simp at h
  · exact dg_last n (by omega)
theorem val_pos {L : List Nat} (h : Shape L) (hl : L.getD (L.length - 1) 0 ≠ 0) : 1 ≤ val L := by
  induction L with
  | nil => exact h.elim
  | cons b r ih =>
    cases r with
    | nil => have h' : b < 128 := h; simp only [val]; simp at hl; omega
    | cons c r =>
      obtain ⟨_, _, h3⟩ := h
      rw [last_cons _ (by simp)] at hl
      have := ih h3 hl
      rw [val]; omega
theorem dg_of {L : List Nat} (h : Shape L) (ht : Tidy L) : dg (val L) = L := by
  induction L with
  | nil => exact h.elim
  | cons b r ih =>
    cases r with
    | nil =>
      have h' : b < 128 := h
      have e : val [b] = b := by simp only [val]; omega
      rw [e, dg_small h']
    | cons c r =>
      obtain ⟨h1, h2, h3⟩ := h
      have hl := ht (by simp)
      rw [last_cons _ (by simp)] at hl
      have hp := val_pos h3 hl
      have e := ih h3 (fun _ => hl)
      have ev : val (b :: c :: r) = b % 128 + 128 * val (c :: r) := rfl
      rw [dg_big (by omega), ev, show (b % 128 + 128 * val (c :: r)) / 128 = val (c :: r) by omega, e, show (b % 128 + 128 * val (c :: r)) % 128 + 128 = b by omega]
theorem dg_lt (n : Nat) : ∀ x ∈ dg n, x < 256 := by
  induction n using dg.induct with
  | case1 n h => rw [dg_small h]; simp; omega
  | case2 n h ih =>
    rw [dg_big h]
    intro x hx
    rcases List.mem_cons.1 hx with rfl | hx
    · omega
    · exact ih x hx
theorem dg_inj {a b : Nat} (h : dg a = dg b) : a = b := by rw [← dg_val a, ← dg_val b, h]
theorem dg_len_mono : ∀ (a b : Nat), a ≤ b → (dg a).length ≤ (dg b).length := by
  intro a
  induction a using dg.induct with
  | case1 a h => intro b _; rw [dg_small h]; exact shape_pos (dg_shape b)
  | case2 a h ih =>
    intro b hb
    rw [dg_big h, dg_big (n := b) (by omega)]
    have := ih (b / 128) (Nat.div_le_div_right hb)
    simp; exact this
theorem val_append (A : List Nat) (b : Nat) : val (A ++ [b]) = val A + (b % 128) * 128 ^ A.length := by
  induction A with
  | nil => simp [val]
  | cons a A ih => rw [List.cons_append, val, val, ih, List.length_cons, Nat.pow_succ, Nat.mul_add, ← Nat.mul_assoc, Nat.mul_comm 128 (b % 128), Nat.mul_assoc (b % 128), Nat.mul_comm 128 (128 ^ A.length), Nat.add_assoc]
theorem val_lt (L : List Nat) : val L < 128 ^ L.length := by
  induction L with
  | nil => simp [val]
  | cons a A ih => rw [val, List.length_cons, Nat.pow_succ]; omega
/-- Of how many bytes a number is that stands ahead: 0, if it does not end within m bytes. -/
def scan : Nat → List Nat → Nat
  | 0, _ => 0
  | _ + 1, [] => 0
  | m + 1, b :: r => if b < 128 then 1 else (if scan m r = 0 then 0 else scan m r + 1)
theorem scan_le : ∀ (m : Nat) (S : List Nat), scan m S ≤ m ∧ scan m S ≤ S.length
  | 0, _ => by simp [scan]
  | _ + 1, [] => by simp [scan]
  | m + 1, b :: r => by
    have ih := scan_le m r
    rw [scan]
    split
    · simp
    · split
      · simp
      · simp; omega
theorem scan_shape : ∀ (m : Nat) (S : List Nat), (∀ x ∈ S, x < 256) → scan m S ≠ 0 → Shape (S.take (scan m S))
  | 0, _, _, h => (h rfl).elim
  | _ + 1, [], _, h => (h rfl).elim
  | m + 1, b :: r, hS, h => by
    rw [scan] at h ⊢
    by_cases g : b < 128
    · rw [if_pos g]; exact g
    · rw [if_neg g] at h ⊢
      by_cases k : scan m r = 0
      · rw [if_pos k] at h; exact (h rfl).elim
      · rw [if_neg k, List.take_succ_cons]
        exact shape_cons (scan_shape m r (fun x hx => hS x (List.mem_cons_of_mem _ hx)) k) (by omega) (hS b (by simp))
theorem scan_app : ∀ (m : Nat) (L R : List Nat), Shape L → L.length ≤ m → scan m (L ++ R) = L.length
  | _, [], _, h, _ => h.elim
  | 0, b :: r, _, _, h => by simp at h
  | m + 1, [b], R, h, _ => by
    have h' : b < 128 := h
    simp [scan, h']
  | m + 1, b :: c :: r, R, h, hl => by
    obtain ⟨h1, _, h3⟩ := h
    have ih := scan_app m (c :: r) R h3 (by simpa using hl)
    rw [List.cons_append, scan, if_neg (by omega), ih, if_neg (by simp)]
    rfl
theorem scan_cut : ∀ (m : Nat) (L : List Nat) (j : Nat), Shape L → j < L.length → scan m (L.take j) = 0
  | 0, _, _, _, _ => rfl
  | m + 1, L, 0, _, _ => by simp [scan]
  | m + 1, [], _ + 1, h, _ => h.elim
  | m + 1, [b], j + 1, _, hj => by simp at hj
  | m + 1, b :: c :: r, j + 1, h, hj => by
    obtain ⟨h1, _, h3⟩ := h
    rw [List.take_succ_cons, scan, if_neg (by omega), scan_cut m (c :: r) j h3 (by simpa using hj), if_pos rfl]
/-- What Take answers, once it is known of how many bytes the number is. -/
def takeN (S : List Nat) (n : Nat) : Int × Int × Int :=
  if n = 0 then (0, 0, if S.length < 8 then 10 else 11) else if 1 < n ∧ S.getD (n - 1) 0 = 0 then (0, 0, 11) else if 9007199254740992 < val (S.take n) then (0, 0, 11) else ((val (S.take n) : Int), (n : Int), 0)
def takeP (S : List Nat) : Int × Int × Int := takeN S (scan 8 S)
/-- What was put is taken. -/
theorem take_put (n : Nat) (h : n ≤ 9007199254740992) (R : List Nat) : takeP (dg n ++ R) = ((n : Int), ((dg n).length : Int), 0) := by
  have hl : (dg n).length ≤ 8 := dg_len 7 n (by omega)
  have hp := shape_pos (dg_shape n)
  unfold takeP
  rw [scan_app 8 _ R (dg_shape n) hl]
  unfold takeN
  rw [if_neg (by omega), if_neg, List.take_left', dg_val, if_neg (by omega)]
  · rfl
  · rintro ⟨h1, h2⟩
    rw [List.getD_eq_getElem?_getD, List.getElem?_append_left (by omega), ← List.getD_eq_getElem?_getD] at h2
    exact dg_tidy n h1 h2
/-- Cut off, it is not. -/
theorem take_cut (n : Nat) (h : n ≤ 9007199254740992) (j : Nat) (hj : j < (dg n).length) : takeP ((dg n).take j) = (0, 0, 10) := by
  have hl : (dg n).length ≤ 8 := dg_len 7 n (by omega)
  unfold takeP
  rw [scan_cut 8 _ j (dg_shape n) hj]
  unfold takeN
  rw [if_pos rfl, if_pos (by rw [List.length_take]; omega)]
/-- What is taken, put again, is what stood there. -/
theorem put_take (S : List Nat) (hS : ∀ x ∈ S, x < 256) : (∃ n k : Nat, takeP S = ((n : Int), (k : Int), 0) ∧ n ≤ 9007199254740992 ∧ 1 ≤ k ∧ k ≤ S.length ∧ dg n = S.take k) ∨ (takeP S = (0, 0, 10) ∧ S.length < 8) ∨ takeP S = (0, 0, 11) := by
  unfold takeP takeN
  by_cases h0 : scan 8 S = 0
  · rw [if_pos h0]
    by_cases h1 : S.length < 8
    · rw [if_pos h1]; exact .inr (.inl ⟨rfl, h1⟩)
    · rw [if_neg h1]; exact .inr (.inr rfl)
  · rw [if_neg h0]
    by_cases h1 : 1 < scan 8 S ∧ S.getD (scan 8 S - 1) 0 = 0
    · rw [if_pos h1]; exact .inr (.inr rfl)
    · rw [if_neg h1]
      by_cases h2 : 9007199254740992 < val (S.take (scan 8 S))
      · rw [if_pos h2]; exact .inr (.inr rfl)
      · rw [if_neg h2]
        have hle := scan_le 8 S
        refine .inl ⟨_, _, rfl, by omega, by omega, hle.2, dg_of (scan_shape 8 S hS h0) ?_⟩
        intro hl
        have e : (S.take (scan 8 S)).length = scan 8 S := by rw [List.length_take]; omega
        rw [e] at hl ⊢
        rw [List.getD_eq_getElem?_getD, List.getElem?_take, if_pos (by omega), ← List.getD_eq_getElem?_getD]
        exact fun h => h1 ⟨hl, h⟩
/-- None begins with another. -/
theorem dg_prefix (a b : Nat) (ha : a ≤ 9007199254740992) (hb : b ≤ 9007199254740992) (h : (dg b).take (dg a).length = dg a) : a = b := by
  have hla : (dg a).length ≤ 8 := dg_len 7 a (by omega)
  have hlb : (dg b).length ≤ 8 := dg_len 7 b (by omega)
  have e1 := scan_app 8 (dg a) ((dg b).drop (dg a).length) (dg_shape a) hla
  have e2 := scan_app 8 (dg b) [] (dg_shape b) hlb
  rw [List.append_nil] at e2
  have e3 : dg a ++ (dg b).drop (dg a).length = dg b := by
    have := List.take_append_drop (dg a).length (dg b)
    rw [h] at this; exact this
  rw [e3, e2] at e1
  have e4 : (dg b).take (dg a).length = dg b := List.take_of_length_le (by omega)
  exact dg_inj (h.symm.trans e4)
end Go.Proofs.Ytmicfaeloanffaa.Vari
