/- The walk of mail.For: the iterator reads the letters between the rounds, lays a variable of its own in each, and hands on the places of those that are one's; the loop's body collects them. -/
import Derived.Test.YtmgfkpeadkfioaaProg
import Derived.Below
import Derived.OwnWalk
import Derived.Laws.MakeOwn
import Derived.Laws.OwnMore
import Derived.Tactics
import Derived.KernelRfl
import Derived.RowKit3
import Derived.WideLaws
import Derived.Laws.Rows
import Derived.RowKit
import Derived.RangeFuncBox
import Derived.RangeFuncLeaves
import Derived.RangeFuncKeeps
import Derived.RangeFuncWrites
import Derived.WalkKit
import Derived.Shelf.Abstract
import Derived.OwnWalkIn
import Derived.TacticsInMore
import Derived.LoopNIn
import Derived.LoopIn
import Derived.Maps.AppendAt
namespace Go.Proofs.Ytmgfkpeadkfioaa.HandFor
open Go.RowKit Go.Shelf
set_option linter.unusedVariables false
attribute [local go_sem] Oper.semAt_some
/-- The places ahead of k that are one's. -/
def pl (fb : Nat → Int) (to : Int) (k : Nat) : List Nat := (List.range k).filter fun j => fb j == to
theorem pl_succ (fb : Nat → Int) (to : Int) (k : Nat) : pl fb to (k + 1) = pl fb to k ++ (if fb k == to then [k] else []) := by
  unfold pl
  rw [List.range_succ, List.filter_append]
  by_cases h : (fb k == to) = true
  · rw [if_pos h]; simp [h]
  · rw [if_neg h]; simp [h]
theorem pl_len (fb : Nat → Int) (to : Int) (k : Nat) : (pl fb to k).length ≤ k := by
  have := List.length_filter_le (fun j => fb j == to) (List.range k)
  rw [List.length_range] at this
  exact this
/-- What a round leaves as it was: whatever lay below n₀, but for the box ob. -/
def KeepO (n₀ ob : Nat) (A B : World) : Prop := ∀ k, k < n₀ → k ≠ ob → B.heap[k]? = A.heap[k]?
theorem KeepO.refl (n₀ ob : Nat) (A : World) : KeepO n₀ ob A A := fun _ _ _ => rfl
theorem KeepO.trans {n₀ ob : Nat} {A B C : World} (h : KeepO n₀ ob A B) (k : KeepO n₀ ob B C) : KeepO n₀ ob A C := fun i hi ho => (k i hi ho).trans (h i hi ho)
theorem KeepO.cell {n₀ ob : Nat} {A B : World} (h : KeepO n₀ ob A B) (p : Addr) (hp : p.block < n₀) (ho : p.block ≠ ob) : B.cell? p = A.cell? p := World.cell?_of_block (h p.block hp ho)
theorem KeepO.grown {n₀ ob : Nat} {A B C : World} (h : KeepO n₀ ob A B) (hs : n₀ ≤ B.heap.size) (hg : B.grownBy C none) : KeepO n₀ ob A C := fun i hi ho => (hg.block i (by omega) (by simp)).trans (h i hi ho)
/-- What the iterator reads. -/
structure Reads (n₀ ob Bl Bt : Nat) (ad : Addr) (len cap : Nat) (to : Int) (fa fb : Nat → Int) (fc : Nat → ByteArray) (W : World) : Prop where
  size : n₀ ≤ W.heap.size
  bl : W.cell? ⟨Bl, 0, none⟩ = some (.slice (some ad) len cap)
  bt : W.cell? ⟨Bt, 0, none⟩ = some (.int .i64 to)
  c0 : ∀ j, j < len → W.cell? (ad.add (j * 3)) = some (.int .i64 (fa j))
  c1 : ∀ j, j < len → W.cell? ⟨(ad.add (j * 3)).block, (ad.add (j * 3)).off + 1, none⟩ = some (.int .i64 (fb j))
  c2 : ∀ j, j < len → W.cell? ⟨(ad.add (j * 3)).block, (ad.add (j * 3)).off + 2, none⟩ = some (.string (fc j))
theorem add_block (ad : Addr) (n : Nat) : (ad.add n).block = ad.block := by unfold Addr.add; split <;> simp
theorem Reads.keep {n₀ ob Bl Bt : Nat} {ad : Addr} {len cap : Nat} {to : Int} {fa fb : Nat → Int} {fc : Nat → ByteArray} {A B : World} (h : Reads n₀ ob Bl Bt ad len cap to fa fb fc A) (hBl : Bl < n₀ ∧ Bl ≠ ob) (hBt : Bt < n₀ ∧ Bt ≠ ob) (had : ad.block < n₀ ∧ ad.block ≠ ob) (hs : n₀ ≤ B.heap.size) (hk : KeepO n₀ ob A B) : Reads n₀ ob Bl Bt ad len cap to fa fb fc B :=
  ⟨hs, (hk.cell ⟨Bl, 0, none⟩ hBl.1 hBl.2).trans h.bl, (hk.cell ⟨Bt, 0, none⟩ hBt.1 hBt.2).trans h.bt,
   fun j hj => (hk.cell _ (by show (ad.add (j * 3)).block < n₀; rw [add_block]; exact had.1) (by show (ad.add (j * 3)).block ≠ ob; rw [add_block]; exact had.2)).trans (h.c0 j hj),
   fun j hj => (hk.cell _ (by show (ad.add (j * 3)).block < n₀; rw [add_block]; exact had.1) (by show (ad.add (j * 3)).block ≠ ob; rw [add_block]; exact had.2)).trans (h.c1 j hj),
   fun j hj => (hk.cell _ (by show (ad.add (j * 3)).block < n₀; rw [add_block]; exact had.1) (by show (ad.add (j * 3)).block ≠ ob; rw [add_block]; exact had.2)).trans (h.c2 j hj)⟩
set_option maxRecDepth 100000 in
set_option maxHeartbeats 4000000 in
theorem places1_in (F : Fence) (n : Nat) (h21 : F.fn 21) (hro : F.round = none) (hn : 1 ≤ n) (l n₀ ob Bl Bt : Nat) (ad : Addr) (len cap : Nat) (to : Int) (fa fb : Nat → Int) (fc : Nat → ByteArray) (hlen : len < 1000000)
    (hBl : Bl < n₀ ∧ Bl ≠ ob) (hBt : Bt < n₀ ∧ Bt ≠ ob) (had : ad.block < n₀ ∧ ad.block ≠ ob) (J Jx : List Nat → World → Prop)
    (W : World) (hJ : ∀ s A B, W.heap.size ≤ A.heap.size → J s A → A.grownBy B none → J s B)
    (hY : ∀ pre x A, J pre A → pre.length < len → YieldAt F (n - 1) Try.prog l #[.int .i64 ((x : Nat) : Int)] A fun e B =>
      (e = .returned (.bool true) ∧ J (pre ++ [x]) B ∧ (KeepO n₀ ob A B ∧ A.heap.size ≤ B.heap.size)) ∨ (e = .returned (.bool false) ∧ Jx (pre ++ [x]) B))
    (hR : Reads n₀ ob Bl Bt ad len cap to fa fb fc W) (h0 : J [] W) :
    CallsIn F n Try.prog 21 #[.func (.yield l) #[] #[], .pointer (some ⟨Bl, 0, none⟩), .pointer (some ⟨Bt, 0, none⟩)] W fun e W' => (∃ v, e = .returned v) ∧
      ((∃ xs, xs = pl fb to len ∧ J xs W') ∨ (∃ pre, True ∧ Jx pre W')) := by
  have hb1 := hR.bl
  refine callsIn_of_wp Try.func21 rfl h21 ?_ hro
  simp only [Try.ntmps21, List.size_toArray, List.length_cons, List.length_nil, Nat.reduceAdd, Nat.reduceSub, Array.replicate_succ, Array.replicate_zero, List.push_toArray, List.append_toArray, List.nil_append, List.cons_append]
  gi_wp2
  gi_loopw [8] (fun i wr => ∃ k : Nat, k ≤ len ∧ i = .int .i64 k ∧ J (pl fb to k) wr ∧ KeepO n₀ ob W wr ∧ W.heap.size ≤ wr.heap.size)
    (fun i _ => len - (intOf i).toNat)
  case atStart => exact ⟨0, Nat.zero_le _, rfl, h0, KeepO.refl _ _ _, Nat.le_refl _⟩
  case round =>
    obtain ⟨k, hk, rfl, hJs, hnx, hsz⟩ := hrel
    have hRr := hR.keep hBl hBt had (Nat.le_trans hR.size hsz) hnx
    by_cases hlt : k < len
    · have x0 := hRr.c0 k hlt
      have x1 := hRr.c1 k hlt
      have x2 := hRr.c2 k hlt
      have xt := hRr.bt
      generalize hp : ad.add (k * 3) = pp at x0 x1 x2
      have hlk : (pl fb to k).length < len := Nat.lt_of_le_of_lt (pl_len fb to k) hlt
      have hgr : wr.grownBy (wr.alloc (.cells #[.int .i64 (fa k), .int .i64 (fb k), .string (fc k)] 23)) none := World.grownBy_alloc wr _ none
      have hJ1 := hJ _ _ _ hsz hJs hgr
      have hk1 := hnx.grown (Nat.le_trans hR.size hsz) hgr
      have hs1 : W.heap.size ≤ (wr.alloc (.cells #[.int .i64 (fa k), .int .i64 (fb k), .string (fc k)] 23)).heap.size := by simp; omega
      have xb : Bt < wr.heap.size := by have := hRr.size; omega
      have xt1 : (wr.alloc (.cells #[.int .i64 (fa k), .int .i64 (fb k), .string (fc k)] 23)).cell? ⟨Bt, 0, none⟩ = some (.int .i64 to) := hgr.cell xt (by simp)
      have hps := pl_succ fb to k
      by_cases g : fb k = to
      · rw [if_pos (by simpa using g)] at hps
        rw [g] at x1 hJ1 hk1 hs1 xt1
        clear g hgr
        obtain ⟨fn, tmps, assign, body, hy, hR3⟩ := hY _ k _ hJ1 hlk
        gi_wp2
        refine hR3.mono ?_
        rintro e W3 (⟨rfl, hJ3, hk3, hs3⟩ | ⟨rfl, hJx3⟩)
        · gi_wp2
          go_roundw
          case rel => exact ⟨k + 1, by omega, by simp, by rw [hps]; exact hJ3, hk1.trans hk3, Nat.le_trans hs1 hs3⟩
          case measure => simp [intOf]; omega
        · gi_wp2
          refine bodyPost_ret (results_none rfl _ _ _) rfl ?_
          exact ⟨⟨_, rfl⟩, .inr ⟨_, trivial, hJx3⟩⟩
      · rw [if_neg (by simpa using g)] at hps
        rw [List.append_nil] at hps
        have g' : (fb k == to) = false := by simpa using g
        gi_wp2
        refine ⟨by simp, ?_⟩
        gi_wp2
        go_roundw
        case rel => exact ⟨k + 1, by omega, by simp, by rw [hps]; exact hJ1, hk1, hs1⟩
        case measure => simp [intOf]; omega
    · obtain rfl : k = len := by omega
      gi_wp2
      go_end0
      exact ⟨⟨_, rfl⟩, .inl ⟨_, rfl, hJs⟩⟩
set_option maxRecDepth 100000 in
set_option maxHeartbeats 4000000 in
theorem places1_nil_in (F : Fence) (n : Nat) (h21 : F.fn 21) (hro : F.round = none) (l Bl Bt : Nat) (A : Option Addr) (cap : Nat) (J : List Nat → World → Prop) (W : World) (hb1 : W.cell? ⟨Bl, 0, none⟩ = some (.slice A 0 cap)) (h0 : J [] W) :
    CallsIn F n Try.prog 21 #[.func (.yield l) #[] #[], .pointer (some ⟨Bl, 0, none⟩), .pointer (some ⟨Bt, 0, none⟩)] W fun e W' => (∃ v, e = .returned v) ∧ J [] W' := by
  refine callsIn_of_wp Try.func21 rfl h21 ?_ hro
  simp only [Try.ntmps21, List.size_toArray, List.length_cons, List.length_nil, Nat.reduceAdd, Nat.reduceSub, Array.replicate_succ, Array.replicate_zero, List.push_toArray, List.append_toArray, List.nil_append, List.cons_append]
  gi_wp2
  gi_loopw [8] (fun i wr => i = .int .i64 0 ∧ J [] wr) (fun _ _ => 0)
  case atStart => exact ⟨rfl, h0⟩
  case round =>
    obtain ⟨rfl, hJs⟩ := hrel
    gi_wp2
    go_end0
    exact ⟨⟨_, rfl⟩, hJs⟩
set_option maxHeartbeats 1000000 in
theorem places_in (F : Fence) (n : Nat) (h19 : F.fn 19) (hro : F.round = none) (A : Option Addr) (len cap : Nat) (to : Int) (w : World) :
    CallsIn F n Try.prog 19 #[.slice A len cap, .int .i64 to] w fun e w' => e = .returned (.func (.func 21) #[] #[.pointer (some ⟨w.heap.size, 0, none⟩), .pointer (some ⟨w.heap.size + 1, 0, none⟩)]) ∧ w' = (w.alloc (.cells #[.slice A len cap] 26)).alloc (.cells #[.int .i64 to] 3) := by
  refine callsIn_of_wp Try.func19 rfl h19 ?_ hro
  simp only [Try.ntmps19, List.size_toArray, List.length_cons, List.length_nil, Nat.reduceAdd, Nat.reduceSub, Array.replicate_succ, Array.replicate_zero, List.push_toArray, List.append_toArray, List.nil_append, List.cons_append]
  gi_wp2
  go_ret
  exact ⟨rfl, rfl⟩
/-- The slice holds these letters, in a block below n₀ that is not ob; or there are none. -/
def Lets (n₀ ob : Nat) (A : Option Addr) (len cap : Nat) (fa fb : Nat → Int) (fc : Nat → ByteArray) (W : World) : Prop :=
  (len = 0) ∨ ∃ ad, A = some ad ∧ ad.block < n₀ ∧ ad.block ≠ ob ∧ (∀ j, j < len → W.cell? (ad.add (j * 3)) = some (.int .i64 (fa j))) ∧ (∀ j, j < len → W.cell? ⟨(ad.add (j * 3)).block, (ad.add (j * 3)).off + 1, none⟩ = some (.int .i64 (fb j))) ∧ (∀ j, j < len → W.cell? ⟨(ad.add (j * 3)).block, (ad.add (j * 3)).off + 2, none⟩ = some (.string (fc j)))
theorem places_stops (F : Fence) (n : Nat) (h21 : F.fn 21) (hro : F.round = none) (hn : 1 ≤ n) (n₀ ob Bl Bt : Nat) (A : Option Addr) (len cap : Nat) (to : Int) (fa fb : Nat → Int) (fc : Nat → ByteArray) (hlen : len < 1000000)
    (hBl : Bl < n₀ ∧ Bl ≠ ob) (hBt : Bt < n₀ ∧ Bt ≠ ob) (w : World) (hn₀ : n₀ ≤ w.heap.size) (hl : w.cell? ⟨Bl, 0, none⟩ = some (.slice A len cap)) (ht : w.cell? ⟨Bt, 0, none⟩ = some (.int .i64 to)) (hL : Lets n₀ ob A len cap fa fb fc w) :
    SeqStopsK F n Try.prog 21 #[.pointer (some ⟨Bl, 0, none⟩), .pointer (some ⟨Bt, 0, none⟩)] (fun x : Nat => #[Value.int .i64 (x : Int)]) (fun A B => KeepO n₀ ob A B ∧ A.heap.size ≤ B.heap.size) (fun ys => ys = pl fb to len) (fun _ => True) len w := fun l J Jx W hW hJ hJx hY h0 => by
  have hk : KeepO n₀ ob w W := fun k hk _ => hW.block k (by omega)
  rcases hL with rfl | ⟨ad, rfl, h1, h2, c0, c1, c2⟩
  · refine (places1_nil_in F n h21 hro l Bl Bt A cap J W ((hk.cell ⟨Bl, 0, none⟩ hBl.1 hBl.2).trans hl) h0).mono ?_
    rintro e W' ⟨he, hj⟩
    exact ⟨he, .inl ⟨_, rfl, hj⟩⟩
  · exact places1_in F n h21 hro hn l n₀ ob Bl Bt ad len cap to fa fb fc hlen hBl hBt ⟨h1, h2⟩ J Jx W (fun s A B hs hj hg => hJ s A B none hj hg (fun r e => by cases e)) hY
      (Reads.keep ⟨hn₀, hl, ht, c0, c1, c2⟩ hBl hBt ⟨h1, h2⟩ (Nat.le_trans hn₀ hW.size) hk) h0
theorem own_lower {W : World} {base base' : Nat} {e : TypeId} {size : Nat} {v : Value} {k : Nat} {xs : List Value} (h : W.ownsRow base' e size v k xs) (hb : base ≤ base') : W.ownsRow base e size v k xs := by
  refine ⟨h.1, ?_⟩
  rcases h.2 with h | ⟨g, cap, cur, e1, e2, e3⟩
  · exact .inl h
  · exact .inr ⟨g, cap, cur, e1, Nat.le_trans hb e2, e3⟩
theorem info3 : (Try.prog.info? 3).map (fun i => (i.zero, i.size, i.bytes)) = some (some (.int .i64 0), 1, 8) := by kernel_rfl
/-- What a round leaves: the collected places. -/
def forI (w : World) (pre : List Nat) (W : World) : Prop :=
  (∃ v, Boxed W w.heap.size 33 v ∧ W.ownsRow (w.heap.size + 3) 3 1 v pre.length (pre.map fun x : Nat => Value.int .i64 (x : Int)) ∧ True) ∧ Below w.heap.size w W ∧ w.heap.size + 3 ≤ W.heap.size
theorem ownFrom_size {β : Type} (m B : Nat) : OwnFrom B (fun (_ : β) W => m ≤ W.heap.size) := fun _ _ _ _ hs hg _ => Nat.le_trans hs hg.size
theorem forI_own (w : World) (B : Nat) (hB : w.heap.size ≤ B) : OwnFrom B (forI w) :=
  OwnFrom.and (Own.from (holdsRow_own (w.heap.size + 3) w.heap.size 33 3 1 (fun pre : List Nat => pre.length) (fun pre => pre.map fun x : Nat => Value.int .i64 (x : Int)) (fun _ _ => True)) _) (OwnFrom.and (ownFrom_below (Nat.le_refl _) hB) (ownFrom_size _ _))
set_option maxRecDepth 100000 in
set_option maxHeartbeats 4000000 in
theorem For_in (F : Fence) (n : Nat) (h15 : F.fn 15) (h19 : F.fn 19) (h21 : F.fn 21) (hro : F.round = none) (hn : 3 ≤ n) (A : Option Addr) (len cap : Nat) (to : Int) (fa fb : Nat → Int) (fc : Nat → ByteArray) (hlen : len < 1000000) (w : World)
    (hL : Lets w.heap.size w.heap.size A len cap fa fb fc w) :
    CallsIn F n Try.prog 15 #[.slice A len cap, .int .i64 to] w fun e W' => ∃ v, e = .returned v ∧ W'.ownsRow w.heap.size 3 1 v (pl fb to len).length ((pl fb to len).map fun x : Nat => Value.int .i64 (x : Int)) ∧ Below w.heap.size w W' := by
  have h1 : 1 ≤ n := by omega
  obtain ⟨i0, hi, hz0, hz1, hz2⟩ := info_parts info3
  refine callsIn_of_wp_marks Try.func15 rfl h15 ?_ hro
  simp only [Try.ntmps15, List.size_toArray, List.length_cons, List.length_nil, Nat.reduceAdd, Nat.reduceSub, Array.replicate_succ, Array.replicate_zero, List.push_toArray, List.append_toArray, List.nil_append, List.cons_append]
  gi_wp2_with (gi_at_call 19; refine (places_in F (n - 1) h19 hro _ _ _ _ _).mono ?_; rintro e w' ⟨rfl, rfl⟩)
  have bO := Boxed.new w 33 (.slice none 0 0)
  have bL := Boxed.new (w.alloc (.cells #[.slice none 0 0] 33)) 26 (.slice A len cap)
  have bT := Boxed.new ((w.alloc (.cells #[.slice none 0 0] 33)).alloc (.cells #[.slice A len cap] 26)) 3 (.int .i64 to)
  rw [World.size_alloc] at bL
  rw [World.size_alloc, World.size_alloc] at bT
  have bL2 := bL.alloc (.cells #[.int .i64 to] 3)
  have hB0 : Below w.heap.size w (((w.alloc (.cells #[.slice none 0 0] 33)).alloc (.cells #[.slice A len cap] 26)).alloc (.cells #[.int .i64 to] 3)) := (((Below.refl _ w).alloc (Nat.le_refl _) _).alloc (by simp) _).alloc (by simp; omega) _
  have hsz : (((w.alloc (.cells #[.slice none 0 0] 33)).alloc (.cells #[.slice A len cap] 26)).alloc (.cells #[.int .i64 to] 3)).heap.size = w.heap.size + 3 := by simp
  have hL2 : Lets (w.heap.size + 3) w.heap.size A len cap fa fb fc (((w.alloc (.cells #[.slice none 0 0] 33)).alloc (.cells #[.slice A len cap] 26)).alloc (.cells #[.int .i64 to] 3)) := by
    rcases hL with h | ⟨ad, rfl, h1, h2, c0, c1, c2⟩
    · exact .inl h
    · refine .inr ⟨ad, rfl, by omega, h2, fun j hj => ?_, fun j hj => ?_, fun j hj => ?_⟩
      · exact (hB0.cell (by rw [add_block]; exact h1)).trans (c0 j hj)
      · exact (hB0.cell (p := ⟨(ad.add (j * 3)).block, (ad.add (j * 3)).off + 1, none⟩) (by show (ad.add (j * 3)).block < _; rw [add_block]; exact h1)).trans (c1 j hj)
      · exact (hB0.cell (p := ⟨(ad.add (j * 3)).block, (ad.add (j * 3)).off + 2, none⟩) (by show (ad.add (j * 3)).block < _; rw [add_block]; exact h1)).trans (c2 j hj)
  refine wpIn_rangeFunc_ownG hro h1 (gf := 21) (lb := #[.pointer (some ⟨w.heap.size + 1, 0, none⟩), .pointer (some ⟨w.heap.size + 1 + 1, 0, none⟩)]) rfl h21 (enters_of Try.func21 (by kernel_rfl) rfl)
    (places_stops F (n - 1) h21 hro (by omega) (w.heap.size + 3) w.heap.size (w.heap.size + 1) (w.heap.size + 1 + 1) A len cap to fa fb fc hlen ⟨by omega, by omega⟩ ⟨by omega, by omega⟩ _ (by omega) bL2.cell bT.cell hL2)
    (fun h k => ⟨h.1.trans k.1, Nat.le_trans h.2 k.2⟩) (fun W l o o' hl h _ _ => ⟨fun k hk _ => World.putObj_heap_other (by omega), (grownBy_putObj' W l o').size⟩) (Below.refl _ _) (fun _ => rfl)
    (forI w) (fun _ _ _ => False) (forI_own w _ (by omega)) (fun _ _ _ _ _ hs _ _ => hs) ⟨⟨_, (bO.alloc _).alloc _, World.ownsRow_nil _ _ _ _, trivial⟩, hB0, by omega⟩
    (fun x => { tmps := #[.slice A len cap, .int .i64 to, undef, undef, .pointer (some ⟨w.heap.size, 0, none⟩), .int .i64 (x : Int), .slice A len cap, .int .i64 to, .func (.func 21) #[] #[.pointer (some ⟨w.heap.size + 1, 0, none⟩), .pointer (some ⟨w.heap.size + 1 + 1, 0, none⟩)], .int .i64 (x : Int), undef, undef, undef, undef, undef], defers := [] }) ?assign ?body ?done ?stop
  case assign =>
    intro l x W K hK
    gi_wp2
    exact hK
  case body =>
    rintro l pre x W ⟨⟨v, hv, hrow, -⟩, hB, hS⟩ hlt
    have hc := hv.cell
    have hmx : 1000001 ≤ maxLen := by decide
    gi_wp2_with (gi_at_builtin; refine wpListIn_append_own _ rfl _ _ 33 rfl (w.heap.size + 3) 3 i0 (.int .i64 0) 1 8 Try.underlying33 hi hz0 hz1 hz2 rfl (by decide) _ _ _ rfl (hrow.alloc _) ⟨W.heap.size, 0, none⟩ 1 1 [.int .i64 (x : Int)] rfl rfl (cell_one_new _ _ _) (by simp [Value.oneCell']) (by omega) (by omega) (by simp; omega) ?_; intro v' w1 hown' hgrow _; obtain ⟨g', cap', rfl⟩ := ownsRow_succ hown'; obtain ⟨hv1, hv2, hr2, hk2, hb2⟩ := hv.appended (by decide) (own_lower hrow (by omega)) hB.size (Nat.le_refl _) (own_lower hown' (by omega)) hgrow; have hc1 := hv1.cell; have hf1 := hv1.frozen; have hgrow2 : (W.alloc (.cells #[.int .i64 (x : Int)] 3)).grownBy w1 v.ownBlock := hgrow)
    have hr3 := hown'.kept (grownBy_setCell' w1 w.heap.size (Value.slice (some { block := g', off := 0 }) (pre.length + 1) cap')) (.inr (hv1.not_row (by decide) hown').symm)
    refine ⟨hk2.from _, ⟨fun k hk hne => ?_, hk2.size⟩, ⟨_, hv2, by simpa using hr3, trivial⟩, hB.trans hb2, Nat.le_trans hS hk2.size⟩
    have e1 : (w1.setCell ⟨w.heap.size, 0, none⟩ (Value.slice (some { block := g', off := 0 }) (pre.length + 1) cap')).heap[k]? = w1.heap[k]? := Below.heap_setCell _ _ _ _ hne
    have e2 : w1.heap[k]? = (W.alloc (.cells #[.int .i64 (x : Int)] 3)).heap[k]? := hgrow2.block k (by simp; omega) (fun e => by
      rcases hrow.2 with ⟨rfl, _⟩ | ⟨g, cap, cur, rfl, hb, _, _⟩
      · simp [Value.ownBlock] at e
      · obtain rfl : k = g := by simpa [Value.ownBlock] using e
        omega)
    exact e1.trans (e2.trans (Below.heap_alloc _ _ _ (by omega)))
  case done =>
    rintro D ys W hD rfl ⟨⟨v, hv, hrow, -⟩, hB, hS⟩ hK
    have hc := hv.cell
    have hf := hv.frozen
    have hD3 : w.heap.size + 3 ≤ D := by omega
    rcases hrow.2 with ⟨rfl, _⟩ | ⟨g, cap2, cur, rfl, hg0, _⟩
    · gi_wp2
      have e2 := fun v : Value => (Below.heap_setCell W ⟨w.heap.size, 0, none⟩ v D (by show D ≠ w.heap.size; omega)).trans hK
      refine ⟨by simp, .inl ⟨_, _, rfl, run_takeDeferred (e2 _), ?_⟩⟩
      have hv3 := (hv.set (.slice none 0 0)).kept (grownBy_putObj' _ D (.deferred none)) (by simp; omega)
      have c3 := hv3.cell
      refine ⟨(.slice none 0 0), by simp [results, Try.results15, go_sem, c3], _, rfl, own_lower (ownsRow_putObj (hrow.kept (grownBy_setCell' W w.heap.size (.slice none 0 0)) (.inr (hv.not_row (by decide) hrow).symm)) _ (e2 _) rfl) (by omega), ?_⟩
      exact (hB.setCell (p := ⟨w.heap.size, 0, none⟩) (Nat.le_refl _) _).trans (belowK_b (w := w) (Nat.le_refl _) _ D _ _ (by omega) (e2 _) rfl rfl)
    · gi_wp2
      have e2 := fun v : Value => (Below.heap_setCell W ⟨w.heap.size, 0, none⟩ v D (by show D ≠ w.heap.size; omega)).trans hK
      refine ⟨by simp, .inl ⟨_, _, rfl, run_takeDeferred (e2 _), ?_⟩⟩
      have hv3 := (hv.set (.slice (some { block := g, off := 0 }) (pl fb to len).length cap2)).kept (grownBy_putObj' _ D (.deferred none)) (by simp; omega)
      have c3 := hv3.cell
      refine ⟨(.slice (some { block := g, off := 0 }) (pl fb to len).length cap2), by simp [results, Try.results15, go_sem, c3], _, rfl, own_lower (ownsRow_putObj (hrow.kept (grownBy_setCell' W w.heap.size (.slice (some { block := g, off := 0 }) (pl fb to len).length cap2)) (.inr (hv.not_row (by decide) hrow).symm)) _ (e2 _) rfl) (by omega), ?_⟩
      exact (hB.setCell (p := ⟨w.heap.size, 0, none⟩) (Nat.le_refl _) _).trans (belowK_b (w := w) (Nat.le_refl _) _ D _ _ (by omega) (e2 _) rfl rfl)
  case stop =>
    intro D c pre W _ _ h _
    exact h.elim
end Go.Proofs.Ytmgfkpeadkfioaa.HandFor
