/- What is known behind learning, of each shard: the latest epoch. Plain. -/
import Derived.Test.YtpkcofmoplnahaaLearns
namespace Go.Proofs.Ytpkcofmoplnahaa.Latest
open Go.RowKit Go.Proofs.Ytpkcofmoplnahaa.PAll Go.Proofs.Ytpkcofmoplnahaa.Routes Go.Proofs.Ytpkcofmoplnahaa.Learns

/-- What is known of a shard whose latest epoch is m. -/
def said (m s : Nat) : Int × Int × Bool := if m = 0 then (0, 0, false) else (10 * (m : Int) + (s : Int), (m : Int), true)
/-- A row knows, of each shard, the epoch f and its owner; of epoch 0 nothing. -/
def Knows (l : List S32) (f : Nat → Nat) : Prop := ∀ s, s < 8 → lookV (way l s) = said (f s) s
theorem knows_nil : Knows [] (fun _ => 0) := by
  intro s _
  rw [way_out [] s (by simp)]
  rfl
theorem knows_learn {l : List S32} {f : Nat → Nat} (h : Knows l f) (s e : Nat) (hs : s < 8) (he : 1 ≤ e) : Knows (learn l s (10 * (e : Int) + (s : Int)) (e : Int)) (fun t => if t = s then max (f t) e else f t) := by
  intro t ht
  dsimp only
  have hk := h s hs
  have e1 : (lookV (way l s)).2.1 = (f s : Int) := by
    rw [hk]
    unfold said
    split
    · rename_i g; rw [g]; rfl
    · rfl
  unfold learn
  rw [e1]
  by_cases g : t = s
  · subst g
    rw [if_pos rfl]
    by_cases q : (f t : Int) ≥ (e : Int)
    · rw [if_pos q, Nat.max_eq_left (by omega)]; exact h t ht
    · rw [if_neg q, Nat.max_eq_right (by omega), way_put, if_pos rfl]
      unfold lookV said
      rw [if_neg (show ¬ (e : Int) < 1 by omega), if_neg (show ¬ e = 0 by omega)]
  · rw [if_neg g]
    split
    · exact h t ht
    · rw [way_put, if_neg g]; exact h t ht
/-- The latest of n items in an order. -/
def top (v : Nat → Nat → Nat) (idx : Nat → Nat) : Nat → Nat → Nat
  | 0, _ => 0
  | n + 1, s => max (top v idx n s) (v (idx n) s)
theorem top_le (v : Nat → Nat → Nat) (idx : Nat → Nat) (s M : Nat) : ∀ n, (∀ j, j < n → v (idx j) s ≤ M) → top v idx n s ≤ M
  | 0, _ => Nat.zero_le _
  | n + 1, h => Nat.max_le.2 ⟨top_le v idx s M n (fun j hj => h j (by omega)), h n (by omega)⟩
theorem le_top (v : Nat → Nat → Nat) (idx : Nat → Nat) (s : Nat) : ∀ n j, j < n → v (idx j) s ≤ top v idx n s
  | 0, _, h => absurd h (by omega)
  | n + 1, j, h => by
    rw [top]
    by_cases g : j = n
    · subst g; exact Nat.le_max_right _ _
    · exact Nat.le_trans (le_top v idx s n j (by omega)) (Nat.le_max_left _ _)
/-- A row that is turned holds the same items. -/
theorem top_turned (v : Nat → Nat → Nat) (n k s : Nat) (hk : k ≤ n) : top v (fun j => (k + j) % n) n s = top v (fun j => j) n s := by
  by_cases h0 : n = 0
  · subst h0; rfl
  · apply Nat.le_antisymm
    · exact top_le _ _ _ _ n (fun j _ => le_top v (fun j => j) s n ((k + j) % n) (Nat.mod_lt _ (by omega)))
    · refine top_le _ _ _ _ n (fun i hi => ?_)
      have e : (fun j => (k + j) % n) ((i + (n - k)) % n) = i := by
        show (k + (i + (n - k)) % n) % n = i
        rw [Nat.add_mod_mod, show k + (i + (n - k)) = i + n by omega, Nat.add_mod_right, Nat.mod_eq_of_lt hi]
      have := le_top v (fun j => (k + j) % n) s n ((i + (n - k)) % n) (Nat.mod_lt _ (by omega))
      dsimp only at e this
      rw [e] at this
      exact this
end Go.Proofs.Ytpkcofmoplnahaa.Latest
