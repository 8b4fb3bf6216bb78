/- What the printed functions of the ways answer, in plain words: Look, Learn. -/
import Derived.Test.YtpkcofmoplnahaaRoutes
import Derived.Test.YtpkcofmoplnahaaPAllx4
namespace Go.Proofs.Ytpkcofmoplnahaa.Learns
open Go.RowKit Go.Proofs.YtpkcofmoplnahaaW.PrintWords Go.Proofs.YtpkcofmoplnahaaW.PrintLast Go.Proofs.YtpkcofmoplnahaaW.PrintMore Go.Proofs.Ytpkcofmoplnahaa.PAll Go.Proofs.Ytpkcofmoplnahaa.Base Go.Proofs.Ytpkcofmoplnahaa.Routes

/-- The way at a place; none: the empty one. -/
def way (l : List S32) (t : Nat) : S32 := (l[t]?).getD ⟨0, 0⟩
def lookV (x : S32) : Int × Int × Bool := if x.f1 < 1 then (0, 0, false) else (x.f0, x.f1, true)
theorem rd_way (l : List S32) (t : Nat) : rd_T32 l (t : Int) = way l t := by
  unfold rd_T32 way
  rw [Int.toNat_natCast, List.getD_eq_getElem?_getD]
  rfl
theorem way_out (l : List S32) (t : Nat) (h : l.length ≤ t) : way l t = ⟨0, 0⟩ := by
  unfold way; rw [List.getElem?_eq_none h]; rfl
theorem look_eq (l : List S32) (t : Nat) : route_Look.f l (t : Int) = some (lookV (way l t)) := by
  unfold route_Look.f lookV
  rw [if_neg (by omega)]
  by_cases h : l.length ≤ t
  · rw [if_pos (by omega), way_out l t h, if_pos (by decide)]
  · rw [if_neg (by omega), if_pos (by omega), if_pos (by omega), rd_way]
    split <;> rfl
/-- Ways with a better one. -/
def put (l : List S32) (s : Nat) (o e : Int) : List S32 := (l ++ List.replicate (s + 1 - l.length) (⟨0, 0⟩ : S32)).set s (⟨o, e⟩ : S32)
def learn (l : List S32) (s : Nat) (o e : Int) : List S32 := if (lookV (way l s)).2.1 ≥ e then l else put l s o e
theorem put_len (l : List S32) (s : Nat) (o e : Int) : (put l s o e).length = max l.length (s + 1) := by
  unfold put; rw [List.length_set, List.length_append, List.length_replicate]; omega
theorem learn_len (l : List S32) (s : Nat) (o e : Int) (hs : s < 8) (hl : l.length ≤ 8) : (learn l s o e).length ≤ 8 := by
  unfold learn
  split
  · exact hl
  · rw [put_len]; omega
theorem way_put (l : List S32) (s : Nat) (o e : Int) (t : Nat) : way (put l s o e) t = if t = s then ⟨o, e⟩ else way l t := by
  have hlen : s < (l ++ List.replicate (s + 1 - l.length) (⟨0, 0⟩ : S32)).length := by rw [List.length_append, List.length_replicate]; omega
  unfold way put
  rw [List.getElem?_set]
  by_cases h : s = t
  · subst h
    rw [if_pos rfl, if_pos hlen, if_pos rfl]; rfl
  · rw [if_neg h, if_neg (fun g => h g.symm)]
    by_cases g : t < l.length
    · rw [List.getElem?_append_left g]
    · rw [List.getElem?_append_right (by omega), List.getElem?_eq_none (l := l) (by omega), List.getElem?_replicate]
      split <;> rfl
theorem learn_loop (o e : Int) (s : Nat) (hs : s < 8) : ∀ (d : Nat) (l : List S32) (k : Nat), s + 1 - l.length = d →
    route_Learn.l0 (k + d + 1) l (s : Int) o e = some ((l ++ List.replicate d (⟨0, 0⟩ : S32)).set s (⟨o, e⟩ : S32)) := by
  intro d
  induction d with
  | zero =>
    intro l k h
    rw [route_Learn.l0, if_neg (by omega), if_pos (by omega), if_pos (by omega), Int.toNat_natCast, List.replicate_zero, List.append_nil]
  | succ d ih =>
    intro l k h
    rw [route_Learn.l0, if_pos (by omega), if_pos (by omega), show k + (d + 1) = k + d + 1 from by omega, ih _ k (by rw [List.length_append]; simp; omega), List.append_assoc]
    rfl
theorem learn_eq (l : List S32) (hl : l.length ≤ 8) (s : Nat) (hs : s < 8) (o e : Int) (ho : 1 ≤ o) (he : 1 ≤ e) (he2 : e ≤ 9007199254740992) (k : Nat) : route_Learn.f (k + 20) l (s : Int) o e = some (learn l s o e) := by
  unfold route_Learn.f api_Way.f learn
  rw [if_pos (by simp; omega), Option.bind_some, look_eq, Option.bind_some, if_neg (by omega), if_neg (by omega), if_neg (by omega), if_neg (by omega), if_neg (by omega)]
  split
  · rfl
  · have := learn_loop o e s hs (s + 1 - l.length) l (k + 19 - (s + 1 - l.length)) rfl
    rw [show k + 19 - (s + 1 - l.length) + (s + 1 - l.length) + 1 = k + 20 from by omega] at this
    exact this
theorem ref_loop (o e : Int) (s : Nat) (hs : s < 8) : ∀ (d : Nat) (l : List S32) (k : Nat), s + 1 - l.length = d →
    careenref19_Learn.l0 (k + d + 1) (s : Int) o e l = some ((l ++ List.replicate d (⟨0, 0⟩ : S32)).set s (⟨o, e⟩ : S32)) := by
  intro d
  induction d with
  | zero =>
    intro l k h
    rw [careenref19_Learn.l0, if_neg (by omega), if_pos (by omega), if_pos (by omega), Int.toNat_natCast, List.replicate_zero, List.append_nil]
  | succ d ih =>
    intro l k h
    rw [careenref19_Learn.l0, if_pos (by omega), if_pos (by omega), show k + (d + 1) = k + d + 1 from by omega, ih _ k (by rw [List.length_append]; simp; omega), List.append_assoc]
    rfl
theorem ref_learn_eq (l : List S32) (hl : l.length ≤ 8) (s : Nat) (hs : s < 8) (o e : Int) (ho : 1 ≤ o) (he : 1 ≤ e) (he2 : e ≤ 9007199254740992) (k : Nat) : careenref19_Learn.f (k + 20) l (s : Int) o e = some (learn l s o e) := by
  have fin : careenref19_Learn.l0 (k + 18) (s : Int) o e l = some (put l s o e) := by
    have := ref_loop o e s hs (s + 1 - l.length) l (k + 17 - (s + 1 - l.length)) rfl
    rw [show k + 17 - (s + 1 - l.length) + (s + 1 - l.length) + 1 = k + 18 from by omega] at this
    exact this
  unfold careenref19_Learn.f learn
  rw [if_pos (by simp; omega), Option.bind_some, List.nil_append, if_neg (by omega), if_neg (by omega), if_neg (by omega), if_neg (by omega), careenref19_Learn.j0, if_neg (by simp; omega)]
  by_cases h : s < l.length
  · rw [if_pos (by omega), if_pos (by omega), rd_way, careenref19_Learn.j1, fin]
    unfold lookV
    by_cases g : (way l s).f1 < 1
    · rw [if_neg (by simp; omega), if_pos g, if_neg (show ¬ (0 : Int) ≥ e by omega)]
    · rw [if_neg g]
      by_cases q : (way l s).f1 ≥ e
      · rw [if_pos (decide_eq_true q), if_pos q]
      · rw [if_neg (by simpa using q), if_neg q]
  · rw [if_neg (by omega), careenref19_Learn.j1, if_neg (by decide), fin, way_out l s (by omega), show (lookV (⟨0, 0⟩ : S32)).2.1 = 0 from rfl, if_neg (show ¬ (0 : Int) ≥ e by omega)]
theorem ways_loop (x : List S30) (hw : ∀ y ∈ x, (Lit.int .i64 y.f0).wf = true ∧ (Lit.int .i64 y.f1).wf = true ∧ (Lit.int .i64 y.f2).wf = true) : ∀ (d i k : Nat) (acc : List S32), i + d = min x.length 30 → acc.length ≤ 8 →
    ∃ L, careenlaw19_Ways.l0 (k + 2 * d + 22) x acc (i : Int) = some L ∧ L.length ≤ 8 := by
  intro d
  induction d with
  | zero =>
    intro i k acc hi ha
    refine ⟨acc, ?_, ha⟩
    rw [careenlaw19_Ways.l0]
    split
    · rw [decide_eq_false (by omega), careenlaw19_Ways.j1, if_neg (by decide)]
    · rw [careenlaw19_Ways.j1, if_neg (by decide)]
  | succ d ih =>
    intro i k acc hi ha
    have hlt : i < x.length := by omega
    have hy : rd_T30 x (i : Int) = x[i] := by
      unfold rd_T30
      rw [Int.toNat_natCast, List.getD_eq_getElem?_getD, List.getElem?_eq_getElem hlt]; rfl
    obtain ⟨w0, w1, w2⟩ := hw _ (List.getElem_mem hlt)
    obtain ⟨p0, p1⟩ := pickN_lt (c := x[i].f0) (n := 8) (by decide)
    obtain ⟨q0, q1⟩ := pickN_lt (c := x[i].f1) (n := 9) (by decide)
    obtain ⟨r0, r1⟩ := pickN_lt (c := x[i].f2) (n := 9) (by decide)
    obtain ⟨s, es⟩ := Int.eq_ofNat_of_zero_le p0
    obtain ⟨L, e, hL⟩ := ih (i + 1) k (learn acc s (1 + pickN x[i].f1 9) (1 + pickN x[i].f2 9)) (by omega) (learn_len _ _ _ _ (by omega) ha)
    refine ⟨L, ?_, hL⟩
    rw [show k + 2 * (d + 1) + 22 = k + 2 * d + 2 + 20 + 1 + 1 from by omega, careenlaw19_Ways.l0, if_pos (by omega), decide_eq_true (by omega), careenlaw19_Ways.j1, if_pos rfl, if_pos (by omega), if_pos (by omega), hy, pick_eq _ 8 w0 (by decide), Option.bind_some, pick_eq _ 9 w1 (by decide), Option.bind_some, pick_eq _ 9 w2 (by decide), Option.bind_some, wrap64_id (n := 1 + pickN x[i].f1 9) (by omega) (by omega), wrap64_id (n := 1 + pickN x[i].f2 9) (by omega) (by omega), es, ref_learn_eq acc ha s (by omega) _ _ (by omega) (by omega) (by omega), Option.bind_some, wrap64_id (n := (i : Int) + 1) (by omega) (by omega), show (i : Int) + 1 = ((i + 1 : Nat) : Int) from by omega, show k + 2 * d + 2 + 20 = k + 2 * d + 22 from rfl]
    exact e
end Go.Proofs.Ytpkcofmoplnahaa.Learns
