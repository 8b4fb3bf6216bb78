/- What is read of an argument, type by type: whoever reads as data of a type holds cells of the type's kind. Used by this seat's rows. -/
import Derived.Test.YtmgfkpeadkfioaaWSized
import Derived.Test.YtmgfkpeadkfioaaWMore
import Derived.OpenShut
import Derived.ChangeArms
import Derived.Deep.Slices
namespace Go.Proofs.Ytmgfkpeadkfioaa.Fits
open Go.RowKit Go.Proofs.YtmgfkpeadkfioaaW.PrintWords Go.Proofs.YtmgfkpeadkfioaaW.PrintLast Go.Proofs.YtmgfkpeadkfioaaW.PrintMore

/-- Whatever reads as a value of type t holds the cells of kind d, of a value for which G holds. -/
def Fits {α : Type} (P : Program) (t : TypeId) (d : Kd α) (G : α → Prop) : Prop :=
  ∀ (H : Type) (enc : TypeId × Value → H) (w : World) (base : Nat) (spare : Nat → Bool) (held : Bool) (fuel : Nat) (cs : List Value) (x : DataW H × List MemPlace),
    DataW.trod enc P w base spare held fuel t cs = some x → ∃ a, d.K w a cs ∧ G a

theorem fits_int {P : Program} {t : TypeId} {k : IntKind} (hu : P.underlying t = some (.int k)) : Fits P t (Kd.int k) (fun n => (Lit.int k n).wf = true) := by
  intro H enc w base spare held fuel cs x h
  obtain ⟨n, rfl, _, hw⟩ := DataW.trod_int hu h
  exact ⟨n, rfl, hw⟩
theorem fits_string {P : Program} {t : TypeId} (hu : P.underlying t = some .string) : Fits P t Kd.string (fun s => s.size ≤ 9223372036854775807) := by
  intro H enc w base spare held fuel cs x h
  obtain ⟨s, rfl, _, hw⟩ := DataW.trod_string hu h
  exact ⟨s, rfl, hw⟩
theorem fits_bool {P : Program} {t : TypeId} (hu : P.underlying t = some .bool) : Fits P t Kd.bool (fun _ => True) := by
  intro H enc w base spare held fuel cs x h
  obtain ⟨b, rfl, _⟩ := DataW.trod_bool hu h
  exact ⟨b, rfl, trivial⟩
theorem fits_iso {α β : Type} {P : Program} {t : TypeId} {d : Kd α} {G : α → Prop} (h : Fits P t d G) (f : β → α) (g : α → β) (hfg : ∀ a, f (g a) = a) : Fits P t (Kd.iso d f) (fun b => G (f b)) := by
  intro H enc w base spare held fuel cs x hx
  obtain ⟨a, hk, hG⟩ := h H enc w base spare held fuel cs x hx
  exact ⟨g a, by show d.K w (f (g a)) cs; rw [hfg]; exact hk, by show G (f (g a)); rw [hfg]; exact hG⟩
/-- A struct of two fields of one cell each. -/
theorem fits_struct2 {α β : Type} {P : Program} {t : TypeId} {f0 f1 : Field} {a : Kd α} {b : Kd β} {A : α → Prop} {B : β → Prop} (hu : P.underlying t = some (.struct #[f0, f1])) (hC : P.cellsOf t = 2)
    (ho : f0.offset = 0 ∧ f1.offset = 1) (hc : P.cellsOf f0.type = 1 ∧ P.cellsOf f1.type = 1) (ha : Fits P f0.type a A) (hb : Fits P f1.type b B) : Fits P t (Kd.pair a b) (fun x => A x.1 ∧ B x.2) := by
  intro H enc w base spare held fuel cs x h
  obtain ⟨xs, n, _, _, hl, hlen, hf⟩ := DataW.trod_struct hu h
  obtain ⟨c0, c1, rfl⟩ : ∃ c0 c1, cs = [c0, c1] := by
    rw [hC] at hl
    match cs, hl with
    | [c0, c1], _ => exact ⟨c0, c1, rfl⟩
  obtain ⟨y0, y1, rfl⟩ : ∃ y0 y1, xs = [y0, y1] := by
    match xs, hlen with
    | [y0, y1], _ => exact ⟨y0, y1, rfl⟩
  have h0 := hf 0 f0 rfl
  have h1 := hf 1 f1 rfl
  rw [ho.1, hc.1] at h0
  rw [ho.2, hc.2] at h1
  obtain ⟨u, hu0, gu⟩ := ha H enc w base spare held n _ _ h0
  obtain ⟨v, hv0, gv⟩ := hb H enc w base spare held n _ _ h1
  exact ⟨(u, v), ⟨[c0], [c1], rfl, hu0, hv0⟩, gu, gv⟩
/-- A struct of three fields of one cell each. -/
theorem fits_struct3 {α β γ : Type} {P : Program} {t : TypeId} {f0 f1 f2 : Field} {a : Kd α} {b : Kd β} {c : Kd γ} {A : α → Prop} {B : β → Prop} {C : γ → Prop} (hu : P.underlying t = some (.struct #[f0, f1, f2])) (hC : P.cellsOf t = 3)
    (ho : f0.offset = 0 ∧ f1.offset = 1 ∧ f2.offset = 2) (hc : P.cellsOf f0.type = 1 ∧ P.cellsOf f1.type = 1 ∧ P.cellsOf f2.type = 1) (ha : Fits P f0.type a A) (hb : Fits P f1.type b B) (hc2 : Fits P f2.type c C) :
    Fits P t (Kd.pair a (Kd.pair b c)) (fun x => A x.1 ∧ B x.2.1 ∧ C x.2.2) := by
  intro H enc w base spare held fuel cs x h
  obtain ⟨xs, n, _, _, hl, hlen, hf⟩ := DataW.trod_struct hu h
  obtain ⟨c0, c1, c2, rfl⟩ : ∃ c0 c1 c2, cs = [c0, c1, c2] := by
    rw [hC] at hl
    match cs, hl with
    | [c0, c1, c2], _ => exact ⟨c0, c1, c2, rfl⟩
  obtain ⟨y0, y1, y2, rfl⟩ : ∃ y0 y1 y2, xs = [y0, y1, y2] := by
    match xs, hlen with
    | [y0, y1, y2], _ => exact ⟨y0, y1, y2, rfl⟩
  have h0 := hf 0 f0 rfl
  have h1 := hf 1 f1 rfl
  have h2 := hf 2 f2 rfl
  rw [ho.1, hc.1] at h0
  rw [ho.2.1, hc.2.1] at h1
  rw [ho.2.2, hc.2.2] at h2
  obtain ⟨u, hu0, gu⟩ := ha H enc w base spare held n _ _ h0
  obtain ⟨v, hv0, gv⟩ := hb H enc w base spare held n _ _ h1
  obtain ⟨z, hz0, gz⟩ := hc2 H enc w base spare held n _ _ h2
  exact ⟨(u, v, z), ⟨[c0], [c1, c2], rfl, hu0, [c1], [c2], rfl, hv0, hz0⟩, gu, gv, gz⟩
/-- An array of three elements of one cell each. -/
theorem fits_array3 {α : Type} {P : Program} {t e : TypeId} {a : Kd α} {A : α → Prop} (hu : P.underlying t = some (.array 3 e)) (hC : P.cellsOf t = 3) (hc : P.cellsOf e = 1) (ha : Fits P e a A) :
    Fits P t (Kd.pair a (Kd.pair a a)) (fun x => A x.1 ∧ A x.2.1 ∧ A x.2.2) := by
  intro H enc w base spare held fuel cs x h
  obtain ⟨xs, n, _, _, hl, hlen, hf⟩ := DataW.trod_array hu h
  obtain ⟨c0, c1, c2, rfl⟩ : ∃ c0 c1 c2, cs = [c0, c1, c2] := by
    rw [hC] at hl
    match cs, hl with
    | [c0, c1, c2], _ => exact ⟨c0, c1, c2, rfl⟩
  obtain ⟨y0, y1, y2, rfl⟩ : ∃ y0 y1 y2, xs = [y0, y1, y2] := by
    match xs, hlen with
    | [y0, y1, y2], _ => exact ⟨y0, y1, y2, rfl⟩
  have h0 := hf 0 (by decide)
  have h1 := hf 1 (by decide)
  have h2 := hf 2 (by decide)
  rw [hc] at h0 h1 h2
  obtain ⟨u, hu0, gu⟩ := ha H enc w base spare held n _ _ h0
  obtain ⟨v, hv0, gv⟩ := ha H enc w base spare held n _ _ h1
  obtain ⟨z, hz0, gz⟩ := ha H enc w base spare held n _ _ h2
  exact ⟨(u, v, z), ⟨[c0], [c1, c2], rfl, hu0, [c1], [c2], rfl, hv0, hz0⟩, gu, gv, gz⟩
/-- An array of six elements of one cell each. -/
theorem fits_array6 {α : Type} {P : Program} {t e : TypeId} {a : Kd α} {A : α → Prop} (hu : P.underlying t = some (.array 6 e)) (hC : P.cellsOf t = 6) (hc : P.cellsOf e = 1) (ha : Fits P e a A) :
    Fits P t (Kd.pair a (Kd.pair a (Kd.pair a (Kd.pair a (Kd.pair a a))))) (fun x => A x.1 ∧ A x.2.1 ∧ A x.2.2.1 ∧ A x.2.2.2.1 ∧ A x.2.2.2.2.1 ∧ A x.2.2.2.2.2) := by
  intro H enc w base spare held fuel cs x h
  obtain ⟨xs, n, _, _, hl, hlen, hf⟩ := DataW.trod_array hu h
  obtain ⟨c0, c1, c2, c3, c4, c5, rfl⟩ : ∃ c0 c1 c2 c3 c4 c5, cs = [c0, c1, c2, c3, c4, c5] := by
    rw [hC] at hl
    match cs, hl with
    | [c0, c1, c2, c3, c4, c5], _ => exact ⟨c0, c1, c2, c3, c4, c5, rfl⟩
  obtain ⟨y0, y1, y2, y3, y4, y5, rfl⟩ : ∃ y0 y1 y2 y3 y4 y5, xs = [y0, y1, y2, y3, y4, y5] := by
    match xs, hlen with
    | [y0, y1, y2, y3, y4, y5], _ => exact ⟨y0, y1, y2, y3, y4, y5, rfl⟩
  have h0 := hf 0 (by decide)
  have h1 := hf 1 (by decide)
  have h2 := hf 2 (by decide)
  have h3 := hf 3 (by decide)
  have h4 := hf 4 (by decide)
  have h5 := hf 5 (by decide)
  rw [hc] at h0 h1 h2 h3 h4 h5
  obtain ⟨u0, k0, g0⟩ := ha H enc w base spare held n _ _ h0
  obtain ⟨u1, k1, g1⟩ := ha H enc w base spare held n _ _ h1
  obtain ⟨u2, k2, g2⟩ := ha H enc w base spare held n _ _ h2
  obtain ⟨u3, k3, g3⟩ := ha H enc w base spare held n _ _ h3
  obtain ⟨u4, k4, g4⟩ := ha H enc w base spare held n _ _ h4
  obtain ⟨u5, k5, g5⟩ := ha H enc w base spare held n _ _ h5
  exact ⟨(u0, u1, u2, u3, u4, u5), ⟨[c0], [c1, c2, c3, c4, c5], rfl, k0, [c1], [c2, c3, c4, c5], rfl, k1, [c2], [c3, c4, c5], rfl, k2, [c3], [c4, c5], rfl, k3, [c4], [c5], rfl, k4, k5⟩, g0, g1, g2, g3, g4, g5⟩

theorem gather {α : Type} {Q : Nat → α → Prop} (n : Nat) (h : ∀ i, i < n → ∃ v, Q i v) : ∃ l : List α, l.length = n ∧ ∀ i v, l[i]? = some v → Q i v := by
  induction n with
  | zero => exact ⟨[], rfl, fun i v h => by simp at h⟩
  | succ m ih =>
    obtain ⟨l, h1, h2⟩ := ih (fun i hi => h i (by omega))
    obtain ⟨v, k⟩ := h m (by omega)
    refine ⟨l ++ [v], by simp [h1], fun i u hi => ?_⟩
    rcases Nat.lt_or_ge i l.length with hj | hj
    · rw [List.getElem?_append_left hj] at hi
      exact h2 i u hi
    · rw [List.getElem?_append_right hj] at hi
      have : i = m := by
        have := (List.getElem?_eq_some_iff.1 hi).1
        simp at this
        omega
      subst this
      rw [h1, Nat.sub_self] at hi
      simp at hi
      subst hi
      exact k
theorem okWide_agg_struct {P : Program} {W : World} {r : Reach} {base : Nat} {t : TypeId} {v : Value} {fs : Array Field} (ht : P.underlying t = some (.struct fs)) (h : Value.okWide P W r base t v) : ∃ cs, v = .agg cs ∧ cs.size = P.cellsOf t := by
  unfold Value.okWide at h
  rw [ht] at h
  obtain ⟨cs, h1, h2, _⟩ := h
  exact ⟨cs, h1, h2⟩
theorem okWide_agg_array {P : Program} {W : World} {r : Reach} {base : Nat} {t : TypeId} {v : Value} {n : Nat} {e : TypeId} (ht : P.underlying t = some (.array n e)) (h : Value.okWide P W r base t v) : ∃ cs, v = .agg cs ∧ cs.size = P.cellsOf t := by
  unfold Value.okWide at h
  rw [ht] at h
  obtain ⟨cs, h1, h2, _⟩ := h
  exact ⟨cs, h1, h2⟩
/-- A slice that came in: its elements, as the kind has them. -/
theorem open_rows {α : Type} {H : Type} {enc : TypeId × Value → H} {P : Program} {W : World} {base : Nat} {spare : Nat → Bool} {held : Bool} {t e : TypeId} {d : Kd α} {G : α → Prop} (hf : Fits P e d G)
    (hu : P.underlying t = some (.slice e)) (hc : P.cellsOf e = d.sz) {B : Nat} (hB : P.bytesOf e = B) {A : Option Addr} {len cap : Nat} {x : DataW H} {ps : List MemPlace} (h : DataW.Trod enc P W base spare held t (.slice A len cap) x ps)
    {ts : List TypeId} {ds : List (DataW H)} {j : Nat} (hsz : (DataW.weightsEach P ts ds).all (· ≤ reachBytes) = true) (ht : ts[j]? = some t) (hd : ds[j]? = some x) :
    ∃ l : List α, l.length = len ∧ d.C W A len l ∧ len ≤ cap ∧ (∀ a ∈ l, G a) ∧ len * B ≤ 140737488351232 := by
  obtain ⟨fuel, hx⟩ := h
  have hx : DataW.trod enc P W base spare held fuel t [.slice A len cap] = some (x, ps) := hx
  rcases DataW.trod_slice hu hx with ⟨he, _⟩ | ⟨a, len', cap', elems, rest, n, _, he, hxx, hb, hl, hm, hlen, hel, _, _⟩
  · simp only [List.cons.injEq, Value.slice.injEq, and_true] at he
    obtain ⟨rfl, rfl, rfl⟩ := he
    exact ⟨[], rfl, ⟨rfl, by decide, fun h => absurd h (by decide)⟩, Nat.le_refl _, fun a ha => absurd ha (by simp), by simp⟩
  · simp only [List.cons.injEq, Value.slice.injEq, and_true] at he
    obtain ⟨rfl, rfl, rfl⟩ := he
    have each : ∀ i, i < len → ∃ (v : α) (c : List Value), d.K W v c ∧ G v ∧ c.length = d.sz ∧ ∀ q u, c[q]? = some u → W.cell? (a.add (i * d.sz + q)) = some u := by
      intro i hi
      have h1 := hel i hi
      have hs : ∃ y, elems[i]? = some y := ⟨_, List.getElem?_eq_getElem (by omega)⟩
      obtain ⟨y, hy⟩ := hs
      rw [hy] at h1
      obtain ⟨c, hcc, hty⟩ := Option.bind_eq_some_iff.1 h1
      obtain ⟨v, hk, hg⟩ := hf H enc W base spare held n c y hty
      refine ⟨v, c, hk, hg, d.K_len hk, fun q u hq => ?_⟩
      have hlt : q < d.sz := by
        have := d.K_len hk
        have h3 := (List.getElem?_eq_some_iff.1 hq).1
        omega
      rw [hc] at hcc
      have hg2 := (World.cells?_some hcc).2.2 q hlt
      rw [hq] at hg2
      rw [← Go.Deep.add_add]
      exact hg2
    obtain ⟨l, hl2, hl3⟩ := gather (Q := fun i v => ∃ c, d.K W v c ∧ G v ∧ c.length = d.sz ∧ ∀ q u, c[q]? = some u → W.cell? (a.add (i * d.sz + q)) = some u) len each
    have hmax : cap ≤ 9223372036854775807 := hm
    refine ⟨l, hl2, ⟨hl2, by omega, fun _ => ⟨a, rfl, fun i p hp => ?_⟩⟩, hl, fun v hv => ?_, ?_⟩
    · obtain ⟨c, k1, _, k3, k4⟩ := hl3 i p hp
      exact ⟨c, k3, k1, k4⟩
    · obtain ⟨i, hi, rfl⟩ := List.mem_iff_getElem.1 hv
      exact (hl3 i _ (List.getElem?_eq_getElem hi)).choose_spec.2.1
    · obtain ⟨hx1, _⟩ := Prod.mk.inj hxx
      subst hx1
      have z := sized_slice hsz ht hd hu
      rw [hB, List.length_map, List.length_map, hlen] at z
      exact Nat.le_trans (Nat.mul_le_mul_right _ (by omega)) z
end Go.Proofs.Ytmgfkpeadkfioaa.Fits
