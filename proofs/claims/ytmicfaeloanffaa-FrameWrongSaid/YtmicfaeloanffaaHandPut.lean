/- The walk of varint.Put: the function that digits returns writes a box of its own between the rounds of the loop that ranges over it. The law 'wpIn_rangeFunc_box' is the kit's 'wpIn_rangeFunc' (L2) at such a function; its proof goes the road of the kit's own laws above L2. -/
import Derived.Test.YtmicfaeloanffaaProg
import Derived.Below
import Derived.OwnWalk
import Derived.Laws.BytesArg
import Derived.Laws.MakeOwn
import Derived.Laws.OwnMore
import Derived.Tactics
import Derived.KernelRfl
import Derived.RowKit3
import Derived.WideLaws
import Derived.Laws.Rows
import Derived.RowKit
import Derived.RangeFuncBox
import Derived.RangeFuncLeaves
import Derived.WalkKit
import Derived.Shelf.Abstract
import Derived.OwnWalkIn
import Derived.TacticsInMore
import Derived.LoopNIn
import Derived.LoopIn
import Derived.Maps.AppendAt
namespace Go.Proofs.Ytmicfaeloanffaa.HandPut
open Go.RowKit Go.Shelf
set_option linter.unusedVariables false
/-- A number's bytes. -/
def dg (n : Nat) : List Nat := if n < 128 then [n] else (n % 128 + 128) :: dg (n / 128)
decreasing_by omega
def Put.f (a0 : Int) : Option (ByteArray × Int) := if a0 < 0 then some (⟨#[]⟩, 1) else if a0 > 9007199254740992 then some (⟨#[]⟩, 1) else some (strOfNums ((dg a0.toNat).map fun x : Nat => (x : Int)), 0)
/-- What a function that is ranged over may ask, if it writes a box of its own between the rounds. -/
def SeqBox {α : Type} (F : Fence) (n : Nat) (P : Program) (g : Nat) (lb : Array Value) (encs : α → Array Value) (S : List α → Prop) (N : Nat) (box : Nat) (w : World) : Prop :=
 ∀ (l : Nat) (J : List α → World → Prop) (W : World), Below w.heap.size w W → (∀ s A v, J s A → J s (A.setCell ⟨box, 0, none⟩ v)) →
  (∀ pre x W1, J pre W1 → pre.length < N → YieldAt F (n - 1) P l (encs x) W1 fun e W' => e = .returned (.bool true) ∧ J (pre ++ [x]) W' ∧ W'.heap[box]? = W1.heap[box]?) →
  J [] W → CallsIn F n P g (#[.func (.yield l) #[] #[]] ++ lb) W fun e W' => (∃ v, e = .returned v) ∧ ∃ xs, S xs ∧ J xs W'
def boxPost {α : Type} (B box : Nat) (I : List α → World → Prop) (xs : List α) (W : World) : Exit → Act → World → Prop
 | .normal, _, W' => KeepsFrom B W W' ∧ W'.heap[box]? = W.heap[box]? ∧ I xs W'
 | _, _, _ => False
theorem wpIn_rangeFunc_box {F : Fence} {n : Nat} {P : Program} {α : Type} {g : Operand} {ps : Array Tmp} {assign body : Code} {Q : Exit → Act → World → Prop} {a : Act} {w : World}
  (hro : F.round = none) (h1 : 1 ≤ n) {gf : Nat} {lb : Array Value} (hg : a.eval g = .func (.func gf) #[] lb) (hFg : F.fn gf) (eg : ∀ args w, (callFunc gf args).run P w = .ok (.enter gf args) w)
  {encs : α → Array Value} {S : List α → Prop} {N box : Nat} {w0 : World} (hbox : box < w.heap.size) (hseq : SeqBox F (n - 1) P gf lb encs S N box w0) (hb0 : Below w0.heap.size w0 w) (hps : ∀ x, (encs x).size = ps.size)
  (I : List α → World → Prop) (hI : OwnFrom w.heap.size I) (hIb : ∀ s A v, I s A → I s (A.setCell ⟨box, 0, none⟩ v)) (h0 : I [] w) (a₁ : α → Act)
  (hassign : ∀ (l : Nat) (x : α) (W : World) (K : Act → World → Prop), K (a₁ x) W →
   assign.wpIn (F.inRound l) (n - 1 - 1) P (Exit.then K (fun _ _ _ => False)) { tmps := (ps.zip (encs x)).foldl (fun t (p, v) => t.setIfInBounds p v) a.tmps, defers := [] } W)
  (hbody : ∀ (l : Nat) (pre : List α) (x : α) (W : World), I pre W → pre.length < N → body.wpIn (F.inRound l) (n - 1 - 1) P (boxPost w.heap.size box I (pre ++ [x]) W) (a₁ x) W)
  (hdone : ∀ (D : Nat) (xs : List α) (W : World), w.heap.size ≤ D → S xs → I xs W → W.heap[D]? = some (.deferred (some [])) → Q .normal { a with defers := { target := .collected D, args := #[] } :: a.defers } W) :
  (Code.rangeFunc g ps assign body).wpIn F n P Q a w := by
 refine wpIn_rangeFunc ?_
 intro fn hfn
 rw [hro]
 obtain ⟨rec, hrec⟩ : ∃ rec : LoopState → Option Code → Loop, rec = fun st pe => { state := st, pending := pe, fn, tmps := a.tmps, params := ps, assign, body, defers := w.heap.size } := ⟨_, rfl⟩
 obtain ⟨W1, hW1⟩ : ∃ W1, (w.alloc (.deferred (some []))).alloc (.loop (rec .ready none)) = W1 := ⟨_, rfl⟩
 have hL1 : W1.heap[w.heap.size + 1]? = some (.loop (rec .ready none)) := by
  rw [← hW1]; have := World.alloc_heap_new (w.alloc (.deferred (some []))) (.loop (rec .ready none)); rwa [World.size_alloc] at this
 have hK1 : W1.heap[w.heap.size]? = some (.deferred (some [])) := by
  rw [← hW1]; exact (Below.heap_alloc _ _ _ (by simp)).trans (World.alloc_heap_new w _)
 have hI1 : I [] W1 := by rw [← hW1]; exact hI.alloc _ (hI.alloc _ h0)
 have hb1 : Below w0.heap.size w0 W1 := by
  rw [← hW1]; exact hb0.trans ((((Below.refl _ w).alloc (Nat.le_refl _) _).alloc (by simp) _).mono hb0.size)
 refine ⟨w.heap.size + 1, [{ target := .collected w.heap.size, args := #[] }], W1, { target := .fn (.func gf) lb, args := #[.func (.yield (w.heap.size + 1)) #[] #[]] }, W1, gf,
  #[.func (.yield (w.heap.size + 1)) #[] #[]] ++ lb, W1, ?_, ?_, ?_, ?_, fun _ => h1, ?_⟩
 ·rw [← hW1, hrec]; exact run_enterLoop_outer _ _ _ _ _
 ·simp only [resolve, hg]
  simp [go_sem]
 ·intro f' hf'; simp [Target.leads] at hf'; subst hf'; exact hFg
 ·simp [invoke, go_sem, eg]
 ·refine (hseq (w.heap.size + 1)
   (fun pre W => I pre W ∧ W.heap[w.heap.size + 1]? = some (.loop (rec .ready none)) ∧ W.heap[w.heap.size]? = some (.deferred (some [])))
   W1 hb1
   (fun s A v hs => ⟨hIb s A v hs.1, (Below.heap_setCell _ _ _ _ (by show w.heap.size + 1 ≠ box; omega)).trans hs.2.1, (Below.heap_setCell _ _ _ _ (by show w.heap.size ≠ box; omega)).trans hs.2.2⟩)
   ?_ ⟨hI1, hL1, hK1⟩).mono ?_
  ·rintro pre x W ⟨hi, hl, hk⟩ hlen
   have hlt : w.heap.size + 1 < W.heap.size := (Array.getElem?_eq_some_iff.1 hl).1
   have hy := run_yield (P := P) (args := encs x) hl (by rw [hrec]; exact hps x)
   rw [hrec] at hy
   refine ⟨fn, _, assign, body, hy, roundIn_of_wpIn hfn (hassign _ x W _ ⟨_, run_beginRound hl (by rw [hrec]), ?_⟩)⟩
   have hl2 : (W.putObj (w.heap.size + 1) (.loop { rec .ready none with state := .busy })).heap[w.heap.size + 1]? = some (.loop { rec .ready none with state := .busy }) := World.putObj_heap_same hlt
   have hk2 : (W.putObj (w.heap.size + 1) (.loop { rec .ready none with state := .busy })).heap[w.heap.size]? = some (.deferred (some [])) := (World.putObj_heap_other (by omega)).trans hk
   have hx2 : (W.putObj (w.heap.size + 1) (.loop { rec .ready none with state := .busy })).heap[box]? = W.heap[box]? := World.putObj_heap_other (by omega)
   refine wpIn_mono (hbody _ pre x _ (hI.putObj _ hi (by omega) hl rfl) hlen) ?_
   rintro e a3 W3 hp
   cases e with
   | normal =>
    obtain ⟨hk3, hx3, hi3⟩ := hp
    have hl3 := hk3.same _ _ (by omega) hl2 rfl
    have hr := run_endRound (P := P) none hl3
    rw [hrec] at hr hl3
    refine ⟨_, _, hr, rfl, ⟨hI.putObj _ hi3 (by omega) hl3 rfl, ?_, (World.putObj_heap_other (by omega)).trans (hk3.same _ _ (Nat.le_refl _) hk2 rfl)⟩, (World.putObj_heap_other (by omega)).trans (hx3.trans hx2)⟩
    rw [hrec]
    exact World.putObj_heap_same (Array.getElem?_eq_some_iff.1 hl3).1
   | ret => exact hp.elim
   | exit id => exact hp.elim
   | goto t => exact hp.elim
   | panic ch => exact hp.elim
   | outgrown => exact hp.elim
  ·rintro e W2 ⟨⟨v, rfl⟩, xs, hS, hi, hl, hk⟩
   exact ⟨none, _, by have := run_endLoop (P := P) hl (by rw [hrec]; simp); rw [hrec] at this; exact this, hdone _ xs _ (Nat.le_refl _) hS (hI.putObj _ hi (by omega) hl rfl) ((World.putObj_heap_other (by omega)).trans hk)⟩
theorem dg_small {n : Nat} (h : n < 128) : dg n = [n] := by rw [dg, if_pos h]
theorem dg_big {n : Nat} (h : ¬ n < 128) : dg n = (n % 128 + 128) :: dg (n / 128) := by rw [dg, if_neg h]
def numAt (W : World) (b : Nat) : Nat := match W.cell? ⟨b, 0, none⟩ with
 | some (.int _ v) => v.toNat
 | _ => 0
theorem numAt_eq {W : World} {b : Nat} {m : Nat} (h : Boxed W b 3 (.int .i64 (m : Int))) : numAt W b = m := by unfold numAt; rw [h.cell]; rfl
theorem or128 : ∀ x : Fin 256, Go.bits .or .u8 (x.val : Int) 128 = ((x.val % 128 + 128 : Nat) : Int) := by decide +kernel
set_option maxRecDepth 100000 in
set_option maxHeartbeats 4000000 in
theorem digits1_in (F : Fence) (n : Nat) (h17 : F.fn 59) (hro : F.round = none) (hn : 1 ≤ n) (l Bn : Nat) (m : Nat) (hm : m ≤ 9007199254740992) (J : List Nat → World → Prop)
  (hset : ∀ pre W v, J pre W → J pre (W.setCell ⟨Bn, 0, none⟩ v))
  (hY : ∀ pre x W, J pre W → pre.length < (dg m).length → YieldAt F (n - 1) Try.prog l #[.int .u8 ((x : Nat) : Int)] W fun e W' => e = .returned (.bool true) ∧ J (pre ++ [x]) W' ∧ W'.heap[Bn]? = W.heap[Bn]?)
  (W : World) (hB : Boxed W Bn 3 (.int .i64 (m : Int))) (h0 : J [] W) :
  CallsIn F n Try.prog 59 #[.func (.yield l) #[] #[], .pointer (some ⟨Bn, 0, none⟩)] W fun e W' => (∃ v, e = .returned v) ∧ ∃ xs, xs = dg m ∧ J xs W' := by
 refine callsIn_of_wp Try.func59 rfl h17 ?_ hro
 simp only [Try.ntmps59, List.size_toArray, List.length_cons, List.length_nil, Nat.reduceAdd, Nat.reduceSub, Array.replicate_succ, Array.replicate_zero, List.push_toArray, List.append_toArray, List.nil_append, List.cons_append]
 gi_wp2
 gi_loopw [3] (fun _ wr => ∃ (pre : List Nat) (m' : Nat), m' ≤ 9007199254740992 ∧ dg m = pre ++ dg m' ∧ Boxed wr Bn 3 (.int .i64 (m' : Int)) ∧ J pre wr)
  (fun _ wr => numAt wr Bn)
 case atStart =>
  exact ⟨[], m, hm, rfl, hB, h0⟩
 case round =>
  obtain ⟨pre, m', hm', hd, hb, hj⟩ := hrel
  have hc := hb.cell
  by_cases g : m' < 128
  ·have hg : ¬ (m' : Int) ≥ 128 := by omega
   obtain ⟨fn, tmps, assign, body, hy, hR⟩ := hY pre m' wr hj (by rw [hd, dg_small g]; simp)
   gi_wp2
   refine hR.mono ?_
   rintro e W3 ⟨rfl, hj3, hx3⟩
   gi_wp2
   go_end0
   exact ⟨⟨_, rfl⟩, _, by rw [hd, dg_small g], hj3⟩
  ·have hg : (m' : Int) ≥ 128 := by omega
   have hor : Go.bits .or .u8 ((m' : Int) % 256) 128 = ((m' % 128 + 128 : Nat) : Int) := by
    have h := or128 ⟨m' % 256, by omega⟩
    simp only at h
    rw [show ((m' % 256 : Nat) : Int) = (m' : Int) % 256 from by omega] at h
    rw [h]; congr 1; omega
   obtain ⟨fn, tmps, assign, body, hy, hR⟩ := hY pre (m' % 128 + 128) wr hj (by rw [hd, dg_big g]; simp)
   rw [← hor] at hy
   clear hor
   gi_wp2
   refine hR.mono ?_
   rintro e W3 ⟨rfl, hj3, hx3⟩
   have hb3 : Boxed W3 Bn 3 (.int .i64 (m' : Int)) := hx3.trans hb
   have hc3 := hb3.cell
   have hf3 := hb3.frozen
   gi_wp2
   have e7 : (m' : Int) / 128 = ((m' / 128 : Nat) : Int) := by omega
   rw [e7]
   have hb4 := hb3.set (.int .i64 ((m' / 128 : Nat) : Int))
   refine ⟨⟨pre ++ [m' % 128 + 128], m' / 128, by omega, ?_, hb4, hset _ _ _ hj3⟩, ?_⟩
   ·rw [hd, dg_big g]; simp
   ·rw [numAt_eq hb4, numAt_eq hb]; omega
theorem dg_len : ∀ (k n : Nat), n < 128 ^ (k + 1) → (dg n).length ≤ k + 1
 | 0, n, h => by rw [dg_small (by simpa using h)]; simp
 | k + 1, n, h => by
  by_cases g : n < 128
  ·rw [dg_small g]; simp
  ·rw [dg_big g]
   have h' : n / 128 < 128 ^ (k + 1) := Nat.div_lt_of_lt_mul (by rw [Nat.pow_succ] at h; omega)
   have := dg_len k (n / 128) h'
   simp; omega
set_option maxHeartbeats 1000000 in
theorem digits_in (F : Fence) (n : Nat) (h15 : F.fn 57) (hro : F.round = none) (m : Int) (w : World) :
  CallsIn F n Try.prog 57 #[.int .i64 m] w fun e w' => e = .returned (.func (.func 59) #[] #[.pointer (some ⟨w.heap.size, 0, none⟩)]) ∧ w' = w.alloc (.cells #[.int .i64 m] 3) := by
 refine callsIn_of_wp Try.func57 rfl h15 ?_ hro
 simp only [Try.ntmps57, List.size_toArray, List.length_cons, List.length_nil, Nat.reduceAdd, Nat.reduceSub, Array.replicate_succ, Array.replicate_zero, List.push_toArray, List.append_toArray, List.nil_append, List.cons_append]
 gi_wp2
 go_ret
 exact ⟨rfl, rfl⟩
theorem digits_seq (F : Fence) (n : Nat) (h17 : F.fn 59) (hro : F.round = none) (hn : 1 ≤ n) (Bn : Nat) (m : Nat) (hm : m ≤ 9007199254740992) (w : World) (hB : Boxed w Bn 3 (.int .i64 (m : Int))) :
  SeqBox F n Try.prog 59 #[.pointer (some ⟨Bn, 0, none⟩)] (fun x : Nat => #[Value.int .u8 (x : Int)]) (fun ys => ys = dg m) (dg m).length Bn w := fun l J W hW hset hY h0 =>
 digits1_in F n h17 hro hn l Bn m hm J hset hY W ((hW.block Bn hB.lt).trans hB) h0
theorem put_info5 : (Try.prog.info? 5).map (fun i => (i.zero, i.size, i.bytes)) = some (some (.int .u8 0), 1, 1) := by kernel_rfl
theorem dg_ne (n : Nat) : dg n ≠ [] := by rw [dg]; split <;> simp
attribute [local go_sem] Oper.semAt_some
/-- What a round leaves: the collected bytes; the number's own box, whatever it holds. -/
def putI (w : World) (pre : List Nat) (W : World) : Prop :=
 (∃ v, Boxed W w.heap.size 43 v ∧ W.ownsRow w.heap.size 5 1 v pre.length (pre.map fun x : Nat => Value.int .u8 (x : Int)) ∧ True) ∧ (∃ u, Boxed W (w.heap.size + 1) 3 u) ∧ Below w.heap.size w W
theorem boxed_own {β : Type} (B : Nat) (t : TypeId) : Own (fun (_ : β) W => ∃ u, Boxed W B t u) := by
 rintro s X Y row ⟨u, hu⟩ hg hrow
 refine ⟨u, hu.kept hg (fun e' => ?_)⟩
 obtain ⟨o, ho, hc⟩ := hrow B e'.symm
 rw [show X.heap[B]? = _ from hu] at ho; cases ho; cases hc
theorem putI_own (w : World) (B : Nat) (hB : w.heap.size ≤ B) : OwnFrom B (putI w) :=
 OwnFrom.and (Own.from (holdsRow_own w.heap.size w.heap.size 43 5 1 (fun pre : List Nat => pre.length) (fun pre => pre.map fun x : Nat => Value.int .u8 (x : Int)) (fun _ _ => True)) _) (OwnFrom.and (Own.from (boxed_own (w.heap.size + 1) 3) _) (ownFrom_below (Nat.le_refl _) hB))
theorem putI_set (w : World) (s : List Nat) (A : World) (v : Value) (h : putI w s A) : putI w s (A.setCell ⟨w.heap.size + 1, 0, none⟩ v) := by
 obtain ⟨⟨v0, hv, hr, ht⟩, ⟨u, hu⟩, hB⟩ := h
 exact ⟨⟨v0, hv.kept (grownBy_setCell' A _ v) (by simp), hr.kept (grownBy_setCell' A _ v) (.inr (hu.not_row (by decide) hr).symm), ht⟩, ⟨v, hu.set v⟩, hB.setCell (by simp) v⟩
set_option maxRecDepth 100000 in
set_option maxHeartbeats 4000000 in
theorem Put_in (F : Fence) (n : Nat) (h11 : F.fn 55) (h15 : F.fn 57) (h17 : F.fn 59) (hro : F.round = none) (hn : 3 ≤ n) (m : Nat) (hm : m ≤ 9007199254740992) (w : World) :
  CallsIn F n Try.prog 55 #[.int .i64 (m : Int)] w fun e W' => e = .returned (.tuple #[.string (strOfNums ((dg m).map fun x : Nat => (x : Int))), .int .i64 0]) ∧ Below w.heap.size w W' := by
 have h1 : 1 ≤ n := by omega
 obtain ⟨i0, hi, hz0, hz1, hz2⟩ := info_parts put_info5
 refine callsIn_of_wp_marks Try.func55 rfl h11 ?_ hro
 simp only [Try.ntmps55, List.size_toArray, List.length_cons, List.length_nil, Nat.reduceAdd, Nat.reduceSub, Array.replicate_succ, Array.replicate_zero, List.push_toArray, List.append_toArray, List.nil_append, List.cons_append]
 have g1 : ¬ (m : Int) < 0 := by omega
 have g2 : ¬ (m : Int) > 9007199254740992 := by omega
 gi_wp2_with (gi_at_call 57; refine (digits_in F (n - 1) h15 hro _ _).mono ?_; rintro e w' ⟨rfl, rfl⟩)
 have bO := Boxed.new w 43 (.slice none 0 0)
 have bN := Boxed.new (w.alloc (.cells #[.slice none 0 0] 43)) 3 (.int .i64 (m : Int))
 rw [World.size_alloc] at bN
 have hB0 : Below w.heap.size w ((w.alloc (.cells #[.slice none 0 0] 43)).alloc (.cells #[.int .i64 (m : Int)] 3)) := ((Below.refl _ w).alloc (Nat.le_refl _) _).alloc (by simp) _
 refine wpIn_rangeFunc_box hro h1 (gf := 59) (lb := #[.pointer (some ⟨w.heap.size + 1, 0, none⟩)]) (box := w.heap.size + 1) rfl h17 (enters_of Try.func59 (by kernel_rfl) rfl) (by simp)
  (digits_seq F (n - 1) h17 hro (by omega) (w.heap.size + 1) m hm _ bN) (Below.refl _ _) (fun _ => rfl)
  (putI w) (putI_own w _ (by simp; omega)) (putI_set w) ⟨⟨_, bO.alloc _, World.ownsRow_nil _ _ _ _, trivial⟩, ⟨_, bN⟩, hB0⟩
  (fun x => { tmps := #[.int .i64 (m : Int), undef, .string ⟨#[]⟩, .int .i64 0, .pointer (some ⟨w.heap.size, 0, none⟩), .int .u8 (x : Int), .int .i64 (m : Int), .bool false, .bool false, .int .i64 (m : Int), .bool false, .bool false, .int .i64 (m : Int), .func (.func 59) #[] #[.pointer (some ⟨w.heap.size + 1, 0, none⟩)], .int .u8 (x : Int), undef, undef, undef, undef, undef, undef], defers := [] }) ?assign ?body ?done
 case assign =>
  intro l x W K hK
  gi_wp2
  exact hK
 case body =>
  rintro l pre x W ⟨⟨v, hv, hrow, -⟩, ⟨u, hu⟩, hB⟩ hlt
  have hc := hv.cell
  have hlen : (dg m).length ≤ 8 + 1 := dg_len 8 m (by omega)
  have hmx : 10 ≤ maxLen := by decide
  gi_wp2_with (gi_at_builtin; refine wpListIn_append_own _ rfl _ _ 43 rfl w.heap.size 5 i0 (.int .u8 0) 1 1 Try.underlying43 hi hz0 hz1 hz2 rfl (by decide) _ _ _ rfl (hrow.alloc _) ⟨W.heap.size, 0, none⟩ 1 1 [.int .u8 (x : Int)] rfl rfl (cell_one_new _ _ _) (by simp [Value.oneCell']) (by omega) (by omega) (by have := hB.size; simp; omega) ?_; intro v' w1 hown' hgrow _; obtain ⟨g', cap', rfl⟩ := ownsRow_succ hown'; obtain ⟨hv1, hv2, hr2, hk2, hb2⟩ := hv.appended (by decide) hrow hB.size (Nat.le_refl _) hown' hgrow; have hc1 := hv1.cell; have hf1 := hv1.frozen)
  have hu1 : Boxed w1 (w.heap.size + 1) 3 u := (hu.alloc _).kept hgrow (hu.not_row (by decide) hrow)
  have hu2 := hu1.kept (grownBy_setCell' w1 w.heap.size (Value.slice (some { block := g', off := 0 }) (pre.length + 1) cap')) (by simp)
  exact ⟨hk2.from _, (show _ = _ from hu2).trans (show _ = _ from hu).symm, ⟨_, hv2, by simpa using hr2, trivial⟩, ⟨u, hu2⟩, hB.trans hb2⟩
 case done =>
  rintro D ys W hD rfl ⟨⟨v, hv, hrow, -⟩, ⟨u, hu⟩, hB⟩ hK
  have hc := hv.cell
  have hcv : (convert 43 9 v).run Try.prog W = .ok (.string (strOfNums ((dg m).map fun x : Nat => (x : Int)))) W := by
   rcases hrow.2 with ⟨_, h0⟩ | ⟨g, cap, cur, rfl, _, hg, hle, _, hcs, htake⟩
   ·exact absurd (List.eq_nil_of_length_eq_zero h0) (dg_ne m)
   ·refine run_convert_bytes_arg W 43 5 Try.underlying43 Try.underlying5 g 0 _ cap _ (by simp) (fun i hi => ?_) 9 Try.underlying9
    have hx : (cur.toList.take ((dg m).length * 1))[i]? = some (.int .u8 (((dg m).map fun x : Nat => (x : Int)).getD i 0)) := by
     rw [htake]; simp [List.getElem?_eq_getElem hi]
    rw [List.getElem?_take, if_pos (by omega)] at hx
    simp only [World.cell?, hg, Nat.zero_add]
    simpa using hx
  gi_wp2
  refine ⟨by simp, .inl ⟨_, _, rfl, run_takeDeferred hK, ?_⟩⟩
  exact ⟨_, results_tmp2 rfl _ _ _, rfl, hB.trans (belowK_b (w := w) (Nat.le_refl _) W D _ _ (by simp at hD; omega) hK rfl rfl)⟩
theorem Put_less (a0 : Int) (w : World) (h : a0 < 0) : Calls Try.prog 55 #[.int .i64 a0] w fun e w' => e = .returned (.tuple #[.string ⟨#[]⟩, .int .i64 1]) ∧ Below w.heap.size w w' := by
 go_enter Try.func55, Try.ntmps55
 go_wp2
 go_ret2
 exact ⟨rfl, Below.refl _ _⟩
theorem Put_more (a0 : Int) (w : World) (h0 : ¬ a0 < 0) (h : a0 > 9007199254740992) : Calls Try.prog 55 #[.int .i64 a0] w fun e w' => e = .returned (.tuple #[.string ⟨#[]⟩, .int .i64 1]) ∧ Below w.heap.size w w' := by
 go_enter Try.func55, Try.ntmps55
 go_wp2
 go_ret2
 exact ⟨rfl, Below.refl _ _⟩
theorem Put.calls (a0 : Int) (r1 : ByteArray) (r2 : Int) (w : World) (h : Put.f a0 = some (r1, r2)) :
  Calls Try.prog 55 #[.int .i64 a0] w fun e w' => e = .returned (.tuple #[.string r1, .int .i64 r2]) ∧ Below w.heap.size w w' := by
 unfold Put.f at h
 by_cases h1 : a0 < 0
 ·rw [if_pos h1] at h; cases h
  exact Put_less a0 w h1
 ·rw [if_neg h1] at h
  by_cases h2 : a0 > 9007199254740992
  ·rw [if_pos h2] at h; cases h
   exact Put_more a0 w h1 h2
  ·rw [if_neg h2] at h; cases h
   obtain ⟨m, rfl⟩ := Int.eq_ofNat_of_zero_le (show 0 ≤ a0 by omega)
   exact callsIn_wide.1 (Put_in Fence.wide 3 trivial trivial trivial rfl (by omega) m (by omega) w)
end Go.Proofs.Ytmicfaeloanffaa.HandPut
