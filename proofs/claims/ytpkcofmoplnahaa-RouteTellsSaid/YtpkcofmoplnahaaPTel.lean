-- Written by a program of this session (wip/xpatch.py, wip/xprint.sh) for seat Ytpkcofmoplnahaa.
import Derived.Test.YtpkcofmoplnahaaPAllx0
import Derived.Test.YtpkcofmoplnahaaPAllx1
import Derived.Test.YtpkcofmoplnahaaPAllx2
import Derived.Test.YtpkcofmoplnahaaPAllx3
import Derived.Test.YtpkcofmoplnahaaPAllx4
import Derived.Test.YtpkcofmoplnahaaPAllx5
namespace Go.Proofs.Ytpkcofmoplnahaa.PAll
attribute [local go_sem high] Go.Proofs.Ytpkcofmoplnahaa.Hand.unary_xor_u32
open Go.RowKit Go.Proofs.YtpkcofmoplnahaaW.PrintWords Go.Proofs.YtpkcofmoplnahaaW.PrintLast Go.Proofs.YtpkcofmoplnahaaW.PrintMore
attribute [local go_sem] max2_int min2_int max_two min_two max_three min_three max_four min_four   -- for this text's walks alone
set_option linter.unusedVariables false
set_option linter.unusedSimpArgs false

attribute [local go_sem high] eqA32
/-! ### careenlaw19_RouteTells: function 3 (by hand: gen/groute.py) -/
/-- A row of values of one cell each, of whatever kind. -/
def kv : Kd Value where
  sz := 1
  E := []
  K := fun _ x cs => cs = [x] ∧ x.oneCell' = true
  M := fun _ _ _ x cs => cs = [x] ∧ x.oneCell' = true
  K_len := fun h => by rw [h.1]; rfl
  K_one := fun h u hu => by rw [h.1] at hu; rw [List.mem_singleton.mp hu]; exact h.2
  K_below := fun _ h => h
  K_of_M := fun h => h
  M_mono := fun _ h => h
  M_bound := fun h => h
  M_move := fun _ h => h
  M_lower := fun _ h => h
theorem at_kv {w : World} {A : Option Addr} {n : Nat} {xs : List Value} (h : Kd.C kv w A n xs) (i : Int) (h0 : 0 ≤ i) (h1 : i < n) : ∃ ad, A = some ad ∧ w.cell? (ad.add i.toNat) = some (xs.getD i.toNat undef) := by
  obtain ⟨ad, c, e, _, hK, hc0⟩ := Kd.C_get h undef i h0 h1
  have hc : ∀ j u, c[j]? = some u → w.cell? (ad.add (i.toNat * 1 + j)) = some u := hc0
  obtain ⟨rfl, _⟩ := hK
  exact ⟨ad, e, by have hq := hc 0 _ rfl; rwa [Nat.mul_one, Nat.add_zero] at hq⟩
/-- One of two rows: the argument's, or the ways'. -/
theorem pick_row {w w' : World} {base : Nat} {ok : Nat → Prop} {A1 : Option Addr} {c1 : Nat} {l1 : List S32} {Aw : Option Addr} {cw : Nat} {t : List S32} (h1 : Kd.C k32 w A1 l1.length l1) (hc1 : l1.length ≤ c1) (h2 : Kd.R k32 32 w' base ok (.slice Aw t.length cw) t) (i : Int) (p : 0 ≤ i) (q : i < 2) :
    ∃ AL cL lL, ([.slice A1 l1.length c1, .slice Aw t.length cw] : List Value).getD i.toNat undef = .slice AL lL.length cL ∧ lL = (if i = 0 then l1 else t) ∧ lL.length ≤ cL ∧ ∀ W ok', Kd.R k32 32 W w.heap.size ok' (.slice Aw t.length cw) t → Below w.heap.size w W → Kd.C k32 W AL lL.length lL := by
  by_cases e : i = 0
  · subst e
    exact ⟨A1, c1, l1, rfl, rfl, hc1, fun W _ _ hb => Kd.C_below h1 hb⟩
  · obtain rfl : i = 1 := by omega
    exact ⟨Aw, cw, t, rfl, rfl, (Kd.R_reads' h2).2.1, fun W _ h _ => (Kd.R_reads' h).2.2⟩
mutual
def careenlaw19_RouteTells.l0 : Nat → List (S32) → List (S30) → Int → Int → Int → Bool → ByteArray → List Int → Int → Int → Option (Bool)
  | 0, _, _, _, _, _, _, _, _, _, _ => none
  | k + 1, x1, x2, x3, x4, x5, x13, x14, x35, x36, x37 => if x37 < x36 then (if 0 ≤ x37 then (if x37 < (x35.length : Int) then ((route_Shard.f k x14 (rd x35 x37)).bind fun t169 => ((careenref19_Shard.f k x14 (rd x35 x37)).bind fun t170 => (if t169 = t170 then (careenlaw19_RouteTells.l0 k x1 x2 x3 x4 x5 x13 x14 x35 x36 (wrap64 (x37 + 1))) else (some false)))) else (none)) else (none)) else ((careenlaw19_Ways.f k x2).bind fun t171 => (careenlaw19_RouteTells.l1 k x1 x3 x4 x5 x13 t171 0))
def careenlaw19_RouteTells.l1 : Nat → List (S32) → Int → Int → Int → Bool → List (S32) → Int → Option (Bool)
  | 0, _, _, _, _, _, _, _ => none
  | k + 1, x1, x3, x4, x5, x13, x51, x54 => if x54 < 2 then (if 0 ≤ x54 then (if x54 < 2 then ((careenlaw19_pick.f x3 9).bind fun t178 => ((careenlaw19_pick.f x4 9).bind fun t179 => ((careenlaw19_pick.f x5 10).bind fun t180 => ((some (([(⟨x3, x4, x5⟩ : S30), (⟨t178, t179, t180⟩ : S30)] : List (S30)) : List (S30))).bind fun y181 => (careenlaw19_RouteTells.l2 k x1 x3 x4 x5 x13 (if x54 = 0 then x1 else x51) x51 x54 y181 (y181.length : Int) 0))))) else (none)) else (none)) else (careenlaw19_RouteTells.l3 k x3 x4 x13 0)
def careenlaw19_RouteTells.l2 : Nat → List (S32) → Int → Int → Int → Bool → List (S32) → List (S32) → Int → List (S30) → Int → Int → Option (Bool)
  | 0, _, _, _, _, _, _, _, _, _, _, _ => none
  | k + 1, x1, x3, x4, x5, x13, x18, x51, x54, x69, x70, x71 => if x71 < x70 then (if 0 ≤ x71 then (if x71 < (x69.length : Int) then ((route_Look.f x18 ((rd_T30 x69 x71).f0)).bind fun bt186 => ((careenref19_Look.f x18 ((rd_T30 x69 x71).f0)).bind fun bt190 => (if (!(bt186.1 == bt190.1) || (!(bt186.2.1 == bt190.2.1))) = true then (some false) else (if (bt186.2.2 != bt190.2.2) = true then (some false) else ((route_Learn.f k x18 ((rd_T30 x69 x71).f0) ((rd_T30 x69 x71).f1) ((rd_T30 x69 x71).f2)).bind fun t194 => ((careenref19_Learn.f k x18 ((rd_T30 x69 x71).f0) ((rd_T30 x69 x71).f1) ((rd_T30 x69 x71).f2)).bind fun t197 => ((careenref19_Same.f k t194 t197).bind fun t200 => (if t200 = true then (careenlaw19_RouteTells.l2 k x1 x3 x4 x5 x13 x18 x51 x54 x69 x70 (wrap64 (x71 + 1))) else (some false))))))))) else (none)) else (none)) else (careenlaw19_RouteTells.l1 k x1 x3 x4 x5 x13 x51 (wrap64 (x54 + 1)))
def careenlaw19_RouteTells.l3 : Nat → Int → Int → Bool → Int → Option (Bool)
  | 0, _, _, _, _ => none
  | k + 1, x3, x4, x13, x25 => if x25 < 100 then ((careenlaw19_pick.f x4 8).bind fun t203 => ((route_Next.f k x25 t203).bind fun t204 => ((careenlaw19_pick.f x4 8).bind fun t205 => ((careenref19_Next.f k x25 t205).bind fun t206 => (if t204 = t206 then (careenlaw19_RouteTells.l3 k x3 x4 x13 (wrap64 (x25 + 1))) else (some false)))))) else (if x13 = true then ((route_Next.f k x3 x4).bind fun t201 => ((careenref19_Next.f k x3 x4).bind fun t202 => (some (t201 == t202)))) else (some false))
end
def careenlaw19_RouteTells.f (k : Nat) (a0 : ByteArray) (l1 : List (S32)) (l2 : List (S30)) (a3 : Int) (a4 : Int) (a5 : Int) : Option (Bool) := (careenlaw19_awake.f k).bind fun t163 => (if 0 ≤ (mn (a0.size : Int) 3000) then (if (mn (a0.size : Int) 3000) ≤ (a0.size : Int) then ((careenlaw19_pick.f a3 10).bind fun t164 => ((some (([a3, t164] : List Int) : List Int)).bind fun y165 => (careenlaw19_RouteTells.l0 k l1 l2 a3 a4 a5 t163 (a0.extract 0 ((mn (a0.size : Int) 3000) : Int).toNat) y165 (y165.length : Int) 0))) else (none)) else (none))
theorem careenlaw19_RouteTells.mono_l : ∀ k, (∀ y0 y1 y2 y3 y4 y5 y6 y7 y8 y9, LeO (careenlaw19_RouteTells.l0 k y0 y1 y2 y3 y4 y5 y6 y7 y8 y9) (careenlaw19_RouteTells.l0 (k + 1) y0 y1 y2 y3 y4 y5 y6 y7 y8 y9)) ∧ (∀ y0 y1 y2 y3 y4 y5 y6, LeO (careenlaw19_RouteTells.l1 k y0 y1 y2 y3 y4 y5 y6) (careenlaw19_RouteTells.l1 (k + 1) y0 y1 y2 y3 y4 y5 y6)) ∧ (∀ y0 y1 y2 y3 y4 y5 y6 y7 y8 y9 y10, LeO (careenlaw19_RouteTells.l2 k y0 y1 y2 y3 y4 y5 y6 y7 y8 y9 y10) (careenlaw19_RouteTells.l2 (k + 1) y0 y1 y2 y3 y4 y5 y6 y7 y8 y9 y10)) ∧ (∀ y0 y1 y2 y3, LeO (careenlaw19_RouteTells.l3 k y0 y1 y2 y3) (careenlaw19_RouteTells.l3 (k + 1) y0 y1 y2 y3))
  | 0 => ⟨(fun _ _ _ _ _ _ _ _ _ _ r h => by cases (show (none : Option _) = some r from h)), (fun _ _ _ _ _ _ _ r h => by cases (show (none : Option _) = some r from h)), (fun _ _ _ _ _ _ _ _ _ _ _ r h => by cases (show (none : Option _) = some r from h)), (fun _ _ _ _ r h => by cases (show (none : Option _) = some r from h))⟩
  | k + 1 => by
    obtain ⟨ih0, ih1, ih2, ih3⟩ := careenlaw19_RouteTells.mono_l k
    refine ⟨?_, ?_, ?_, ?_⟩
    · intro y0 y1 y2 y3 y4 y5 y6 y7 y8 y9
      unfold careenlaw19_RouteTells.l0
      repeat' first
      | (with_reducible exact ih0 _ _ _ _ _ _ _ _ _ _)
      | (with_reducible exact ih1 _ _ _ _ _ _ _)
      | (with_reducible exact ih2 _ _ _ _ _ _ _ _ _ _ _)
      | (with_reducible exact ih3 _ _ _ _)
      | (with_reducible exact careenlaw19_Ways.mono _ _)
      | (with_reducible exact careenlaw19_awake.mono _)
      | (with_reducible exact careenref19_Learn.mono _ _ _ _ _)
      | (with_reducible exact careenref19_Next.mono _ _ _)
      | (with_reducible exact careenref19_Same.mono _ _ _)
      | (with_reducible exact careenref19_Shard.mono _ _ _)
      | (with_reducible exact route_Learn.mono _ _ _ _ _)
      | (with_reducible exact route_Next.mono _ _ _)
      | (with_reducible exact route_Shard.mono _ _ _)
      | (with_reducible exact LeO.refl _)
      | (with_reducible exact LeO.none _)
      | (with_reducible refine LeO.ite ?_ ?_)
      | (with_reducible refine LeO.bind ?_ (fun _ => ?_))
      | exact ih0 _ _ _ _ _ _ _ _ _ _
      | exact ih1 _ _ _ _ _ _ _
      | exact ih2 _ _ _ _ _ _ _ _ _ _ _
      | exact ih3 _ _ _ _
      | exact careenlaw19_Ways.mono _ _
      | exact careenlaw19_awake.mono _
      | exact careenref19_Learn.mono _ _ _ _ _
      | exact careenref19_Next.mono _ _ _
      | exact careenref19_Same.mono _ _ _
      | exact careenref19_Shard.mono _ _ _
      | exact route_Learn.mono _ _ _ _ _
      | exact route_Next.mono _ _ _
      | exact route_Shard.mono _ _ _
      | exact LeO.none _
      | refine LeO.ite ?_ ?_
      | refine LeO.bind ?_ (fun _ => ?_)
    · intro y0 y1 y2 y3 y4 y5 y6
      unfold careenlaw19_RouteTells.l1
      repeat' first
      | (with_reducible exact ih0 _ _ _ _ _ _ _ _ _ _)
      | (with_reducible exact ih1 _ _ _ _ _ _ _)
      | (with_reducible exact ih2 _ _ _ _ _ _ _ _ _ _ _)
      | (with_reducible exact ih3 _ _ _ _)
      | (with_reducible exact careenlaw19_Ways.mono _ _)
      | (with_reducible exact careenlaw19_awake.mono _)
      | (with_reducible exact careenref19_Learn.mono _ _ _ _ _)
      | (with_reducible exact careenref19_Next.mono _ _ _)
      | (with_reducible exact careenref19_Same.mono _ _ _)
      | (with_reducible exact careenref19_Shard.mono _ _ _)
      | (with_reducible exact route_Learn.mono _ _ _ _ _)
      | (with_reducible exact route_Next.mono _ _ _)
      | (with_reducible exact route_Shard.mono _ _ _)
      | (with_reducible exact LeO.refl _)
      | (with_reducible exact LeO.none _)
      | (with_reducible refine LeO.ite ?_ ?_)
      | (with_reducible refine LeO.bind ?_ (fun _ => ?_))
      | exact ih0 _ _ _ _ _ _ _ _ _ _
      | exact ih1 _ _ _ _ _ _ _
      | exact ih2 _ _ _ _ _ _ _ _ _ _ _
      | exact ih3 _ _ _ _
      | exact careenlaw19_Ways.mono _ _
      | exact careenlaw19_awake.mono _
      | exact careenref19_Learn.mono _ _ _ _ _
      | exact careenref19_Next.mono _ _ _
      | exact careenref19_Same.mono _ _ _
      | exact careenref19_Shard.mono _ _ _
      | exact route_Learn.mono _ _ _ _ _
      | exact route_Next.mono _ _ _
      | exact route_Shard.mono _ _ _
      | exact LeO.none _
      | refine LeO.ite ?_ ?_
      | refine LeO.bind ?_ (fun _ => ?_)
    · intro y0 y1 y2 y3 y4 y5 y6 y7 y8 y9 y10
      unfold careenlaw19_RouteTells.l2
      repeat' first
      | (with_reducible exact ih0 _ _ _ _ _ _ _ _ _ _)
      | (with_reducible exact ih1 _ _ _ _ _ _ _)
      | (with_reducible exact ih2 _ _ _ _ _ _ _ _ _ _ _)
      | (with_reducible exact ih3 _ _ _ _)
      | (with_reducible exact careenlaw19_Ways.mono _ _)
      | (with_reducible exact careenlaw19_awake.mono _)
      | (with_reducible exact careenref19_Learn.mono _ _ _ _ _)
      | (with_reducible exact careenref19_Next.mono _ _ _)
      | (with_reducible exact careenref19_Same.mono _ _ _)
      | (with_reducible exact careenref19_Shard.mono _ _ _)
      | (with_reducible exact route_Learn.mono _ _ _ _ _)
      | (with_reducible exact route_Next.mono _ _ _)
      | (with_reducible exact route_Shard.mono _ _ _)
      | (with_reducible exact LeO.refl _)
      | (with_reducible exact LeO.none _)
      | (with_reducible refine LeO.ite ?_ ?_)
      | (with_reducible refine LeO.bind ?_ (fun _ => ?_))
      | exact ih0 _ _ _ _ _ _ _ _ _ _
      | exact ih1 _ _ _ _ _ _ _
      | exact ih2 _ _ _ _ _ _ _ _ _ _ _
      | exact ih3 _ _ _ _
      | exact careenlaw19_Ways.mono _ _
      | exact careenlaw19_awake.mono _
      | exact careenref19_Learn.mono _ _ _ _ _
      | exact careenref19_Next.mono _ _ _
      | exact careenref19_Same.mono _ _ _
      | exact careenref19_Shard.mono _ _ _
      | exact route_Learn.mono _ _ _ _ _
      | exact route_Next.mono _ _ _
      | exact route_Shard.mono _ _ _
      | exact LeO.none _
      | refine LeO.ite ?_ ?_
      | refine LeO.bind ?_ (fun _ => ?_)
    · intro y0 y1 y2 y3
      unfold careenlaw19_RouteTells.l3
      repeat' first
      | (with_reducible exact ih0 _ _ _ _ _ _ _ _ _ _)
      | (with_reducible exact ih1 _ _ _ _ _ _ _)
      | (with_reducible exact ih2 _ _ _ _ _ _ _ _ _ _ _)
      | (with_reducible exact ih3 _ _ _ _)
      | (with_reducible exact careenlaw19_Ways.mono _ _)
      | (with_reducible exact careenlaw19_awake.mono _)
      | (with_reducible exact careenref19_Learn.mono _ _ _ _ _)
      | (with_reducible exact careenref19_Next.mono _ _ _)
      | (with_reducible exact careenref19_Same.mono _ _ _)
      | (with_reducible exact careenref19_Shard.mono _ _ _)
      | (with_reducible exact route_Learn.mono _ _ _ _ _)
      | (with_reducible exact route_Next.mono _ _ _)
      | (with_reducible exact route_Shard.mono _ _ _)
      | (with_reducible exact LeO.refl _)
      | (with_reducible exact LeO.none _)
      | (with_reducible refine LeO.ite ?_ ?_)
      | (with_reducible refine LeO.bind ?_ (fun _ => ?_))
      | exact ih0 _ _ _ _ _ _ _ _ _ _
      | exact ih1 _ _ _ _ _ _ _
      | exact ih2 _ _ _ _ _ _ _ _ _ _ _
      | exact ih3 _ _ _ _
      | exact careenlaw19_Ways.mono _ _
      | exact careenlaw19_awake.mono _
      | exact careenref19_Learn.mono _ _ _ _ _
      | exact careenref19_Next.mono _ _ _
      | exact careenref19_Same.mono _ _ _
      | exact careenref19_Shard.mono _ _ _
      | exact route_Learn.mono _ _ _ _ _
      | exact route_Next.mono _ _ _
      | exact route_Shard.mono _ _ _
      | exact LeO.none _
      | refine LeO.ite ?_ ?_
      | refine LeO.bind ?_ (fun _ => ?_)
theorem careenlaw19_RouteTells.mono : ∀ a0 a1 a2 a3 a4 a5 k, LeO (careenlaw19_RouteTells.f k a0 a1 a2 a3 a4 a5) (careenlaw19_RouteTells.f (k + 1) a0 a1 a2 a3 a4 a5) := by
  intro a0 a1 a2 a3 a4 a5 k
  obtain ⟨ih0, ih1, ih2, ih3⟩ := careenlaw19_RouteTells.mono_l k
  unfold careenlaw19_RouteTells.f
  repeat' first
      | (with_reducible exact ih0 _ _ _ _ _ _ _ _ _ _)
      | (with_reducible exact ih1 _ _ _ _ _ _ _)
      | (with_reducible exact ih2 _ _ _ _ _ _ _ _ _ _ _)
      | (with_reducible exact ih3 _ _ _ _)
      | (with_reducible exact careenlaw19_Ways.mono _ _)
      | (with_reducible exact careenlaw19_awake.mono _)
      | (with_reducible exact careenref19_Learn.mono _ _ _ _ _)
      | (with_reducible exact careenref19_Next.mono _ _ _)
      | (with_reducible exact careenref19_Same.mono _ _ _)
      | (with_reducible exact careenref19_Shard.mono _ _ _)
      | (with_reducible exact route_Learn.mono _ _ _ _ _)
      | (with_reducible exact route_Next.mono _ _ _)
      | (with_reducible exact route_Shard.mono _ _ _)
      | (with_reducible exact LeO.refl _)
      | (with_reducible exact LeO.none _)
      | (with_reducible refine LeO.ite ?_ ?_)
      | (with_reducible refine LeO.bind ?_ (fun _ => ?_))
      | exact ih0 _ _ _ _ _ _ _ _ _ _
      | exact ih1 _ _ _ _ _ _ _
      | exact ih2 _ _ _ _ _ _ _ _ _ _ _
      | exact ih3 _ _ _ _
      | exact careenlaw19_Ways.mono _ _
      | exact careenlaw19_awake.mono _
      | exact careenref19_Learn.mono _ _ _ _ _
      | exact careenref19_Next.mono _ _ _
      | exact careenref19_Same.mono _ _ _
      | exact careenref19_Shard.mono _ _ _
      | exact route_Learn.mono _ _ _ _ _
      | exact route_Next.mono _ _ _
      | exact route_Shard.mono _ _ _
      | exact LeO.none _
      | refine LeO.ite ?_ ?_
      | refine LeO.bind ?_ (fun _ => ?_)
def careenlaw19_RouteTells.T17 : Bool × List (List Nat × List Nat) := (true, [([], []), ([], []), ([0, 1], [0, 1]), ([2], [2]), ([3], [3]), ([3], [3]), ([4, 5, 3], [3, 4, 5]), ([3, 6], [3, 6]), ([7, 3], [7]), ([8], [8]), ([8], [8]), ([10, 8], [8, 10]), ([8], [8]), ([12, 8], [8, 12]), ([8], [8]), ([14, 8], [8, 14]), ([9, 11, 13, 15, 8, 8], [8, 9, 11, 13, 15]), ([8], [8]), ([8], [8]), ([18, 8], [8, 18]), ([8], [8]), ([20, 8], [8, 20]), ([8], [8]), ([22, 8], [8, 22]), ([17, 19, 21, 23, 16, 8], [8, 17, 19, 21, 23]), ([16, 24, 24, 8], [8, 16, 24]), ([25, 8], [8, 25]), ([8, 26], [8, 26])])
def careenlaw19_RouteTells.B17 : List Nat := [0, 0, 3, 7, 15, 15, 63, 127, 255, 511, 511, 1535, 511, 4607, 511, 16895, 65535, 511, 511, 262655, 511, 1049087, 511, 4194815, 16777215, 33554431, 67108863, 134217727]
theorem careenlaw19_RouteTells.tab17 : rtab .any (opsOf Try.f3 17) = careenlaw19_RouteTells.T17 := by kernel_rfl
theorem careenlaw19_RouteTells.bits17 : waitsOk careenlaw19_RouteTells.T17.2 careenlaw19_RouteTells.B17 = true := by kernel_rfl
set_option maxHeartbeats 8000000 in
set_option maxRecDepth 100000 in
theorem careenlaw19_RouteTells.calls (k : Nat) (a0 : ByteArray) (A1 : Option Addr) (c1 : Nat) (l1 : List (S32)) (A2 : Option Addr) (c2 : Nat) (l2 : List (S30)) (a3 : Int) (a4 : Int) (a5 : Int) (w : World) (hr1 : Kd.C k32 w A1 l1.length l1) (hc1 : l1.length ≤ c1) (hr2 : Kd.C k30 w A2 l2.length l2) (hc2 : l2.length ≤ c2) (h : careenlaw19_RouteTells.f k a0 l1 l2 a3 a4 a5 = some true) :
    Calls Try.prog 3 #[.string a0, .slice A1 l1.length c1, .slice A2 l2.length c2, .int .i64 a3, .int .i64 a4, .int .i64 a5] w fun e w' => e = .returned (.bool true) ∧ Below w.heap.size w w' := by
  have hu30 := Try.underlying30
  have hu32 := Try.underlying32
  have HR1 := Aside0.mk hr1
  have HC1 := Aside0.mk hc1
  clear hr1 hc1
  have HR2 := Aside0.mk hr2
  have HC2 := Aside0.mk hc2
  clear hr2 hc2
  have HB := Aside0.mk (Below.refl w.heap.size w)
  have H : ((careenlaw19_awake.f k).bind fun t163 => (if 0 ≤ (mn (a0.size : Int) 3000) then (if (mn (a0.size : Int) 3000) ≤ (a0.size : Int) then ((careenlaw19_pick.f a3 10).bind fun t164 => ((some (([a3, t164] : List Int) : List Int)).bind fun y165 => (careenlaw19_RouteTells.l0 k l1 l2 a3 a4 a5 t163 (a0.extract 0 ((mn (a0.size : Int) 3000) : Int).toNat) y165 (y165.length : Int) 0))) else (none)) else (none))) = some true := h
  clear h
  replace H := Option.bind_eq_some_iff.mp H
  obtain ⟨t163, A70, H⟩ := H
  replace H : (if 0 ≤ (mn (a0.size : Int) 3000) then (if (mn (a0.size : Int) 3000) ≤ (a0.size : Int) then ((careenlaw19_pick.f a3 10).bind fun t164 => ((some (([a3, t164] : List Int) : List Int)).bind fun y165 => (careenlaw19_RouteTells.l0 k l1 l2 a3 a4 a5 t163 (a0.extract 0 ((mn (a0.size : Int) 3000) : Int).toNat) y165 (y165.length : Int) 0))) else (none)) else (none)) = some true := H
  have A7 := Aside0.mk A70
  clear A70
  obtain ⟨ji8, hji8⟩ : ∃ j_ : Int, (mn (a0.size : Int) 3000) = j_ := ⟨_, rfl⟩
  replace H : (if 0 ≤ (ji8) then (if (ji8) ≤ (a0.size : Int) then ((careenlaw19_pick.f a3 10).bind fun t164 => ((some (([a3, t164] : List Int) : List Int)).bind fun y165 => (careenlaw19_RouteTells.l0 k l1 l2 a3 a4 a5 t163 (a0.extract 0 ((ji8) : Int).toNat) y165 (y165.length : Int) 0))) else (none)) else (none)) = some true := by first | (rw [hji8] at H; exact H) | (simp only [hji8] at H ⊢; exact H)
  (try rw [hji8] at A7)
  (try (have hji8h : ji8 ≤ 3000 := by (rw [← hji8]; unfold mn; (repeat' split) <;> omega)))
  (try (have hji8g : ji8 ≤ 64 := by omega))
  (try (have hji8l : 0 ≤ ji8 := by (rw [← hji8]; unfold mn; (repeat' split) <;> omega)))
  (try (have hji8m : 0 ≤ ji8 := by omega))
  have hji8_ : (if 3000 < (a0.size : Int) then 3000 else (a0.size : Int)) = ji8 := hji8
  by_cases c9 : 0 ≤ (ji8)
  · rw [if_pos c9] at H
    have c9M : max ji8 0 = ji8 := Int.max_eq_left c9
    have c9b0 := eq_true c9
    have c9b1 : decide (0 ≤ (ji8)) = true := decide_eq_true c9
    clear c9
    by_cases c10 : (ji8) ≤ (a0.size : Int)
    · rw [if_pos c10] at H
      have c10b0 := eq_true c10
      have c10b1 : decide ((ji8) ≤ (a0.size : Int)) = true := decide_eq_true c10
      clear c10
      replace H := Option.bind_eq_some_iff.mp H
      obtain ⟨t164, A110, H⟩ := H
      replace H : ((some (([a3, t164] : List Int) : List Int)).bind fun y165 => (careenlaw19_RouteTells.l0 k l1 l2 a3 a4 a5 t163 (a0.extract 0 ((ji8) : Int).toNat) y165 (y165.length : Int) 0)) = some true := H
      have A11 := Aside0.mk A110
      clear A110
      obtain ⟨y165, hy165⟩ : ∃ y_ : List Int, y_ = (([a3, t164] : List Int)) := ⟨_, rfl⟩
      replace H : (careenlaw19_RouteTells.l0 k l1 l2 a3 a4 a5 t163 (a0.extract 0 ((ji8) : Int).toNat) y165 (y165.length : Int) 0) = some true := by first | (rw [hy165]; with_reducible exact H) | (have H2_ := (Option.bind_some _ _).symm.trans H; rw [hy165]; with_reducible exact H2_) | (have H2_ := (Option.bind_some _ _).symm.trans H; with_reducible exact H2_) | with_reducible exact H | (rw [hy165]; exact H) | exact H
      have Ny165 := Aside0.mk hy165
      clear hy165
      have H' := Aside0.mk H
      clear H
      go_enter Try.func3, Try.ntmps3
      go_wp2_with (first | ((with_reducible refine gate_callee (f := 8) rfl ?_); refine goesL_ (some 26) rfl rfl Try.func8 (by kernel_rfl) rfl #[] rfl (by (try simp only [List.map_toArray, List.map_cons, List.map_nil]); first | done | rfl | (simp only [List.length_drop, List.length_take]; rfl)) ?_; (with_reducible refine (careenlaw19_awake.calls k  t163 _ A7.out).mono ?_); rintro e w12 ⟨rfl, hb⟩; refine ⟨_, rfl, ?_⟩; have n0_ := Aside0.mk (below_step (by repeat (first | (with_reducible first | exact HB.out | apply below_alloc | apply pw_below_drewN | apply below_drew1) | exact HB.out)) hb); clear HB; have HB := n0_; clear n0_; (try clear hb); (try clear hb2); (try clear hk); (try clear hi)) | ((with_reducible refine gate_callee (f := 9) rfl ?_); refine goesL_ (some 34) rfl rfl Try.func9 (by kernel_rfl) rfl #[.int .i64 a3, .int .i64 10] rfl (by (try simp only [List.map_toArray, List.map_cons, List.map_nil]); first | done | rfl | (simp only [List.length_drop, List.length_take]; rfl)) ?_; (with_reducible refine (careenlaw19_pick.calls a3 10 t164 _ A11.out).mono ?_); rintro e w' ⟨rfl, ⟨nd, rfl⟩⟩; refine ⟨_, rfl, ?_⟩) | ((with_reducible refine gate_dst (N := 35) rfl ?_); refine Kd.R_lit (Kd.int .i64) _ 3 ?hg (N := 35) ?hd (xs := ([a3, t164] : List Int)) (inner := [.int .i64 a3, .int .i64 t164]) (ok := fun _ => True) (okp := fun _ => True) ?hr ?hp (fun _ hk => hk) trivial (Below.refl _ _) (Nat.le_refl _) (by simp) ?_; (case hd => rfl); (case hg => rfl); (case hr => first | (go_simp; done) | (go_simp; rfl)); (case hp => exact (Reps.one (show Kd.M (Kd.int .i64) _ _ _ a3 [.int .i64 a3] from rfl) (Reps.one (show Kd.M (Kd.int .i64) _ _ _ t164 [.int .i64 t164] from rfl) (Reps.none _ _)))); intro v166 w13 ho14 hb hg_ hnew_; clear hg_ hnew_; (first | rw [← Ny165.out] at ho14 | (simp only [Int.reduceToNat] at ho14; rw [← Ny165.out] at ho14)); have n0_ := Aside0.mk (Kd.R_lower ho14 (below_size (by repeat (first | (with_reducible first | exact HB.out | apply below_alloc | apply pw_below_drewN | apply below_drew1) | exact HB.out)))); have n1_ := Aside0.mk (below_step (by repeat (first | (with_reducible first | exact HB.out | apply below_alloc | apply pw_below_drewN | apply below_drew1) | exact HB.out)) hb); clear HB; have HO167 := n0_; have HB := n1_; clear n0_ n1_; clear hb ho14; obtain ⟨Ao15, co15, eo15⟩ := Kd.R_slice HO167.out; subst eo15))
      go_loopg [37] k (fun kq v37 w' => ∃ (x37_1 : Int), v37 = .int .i64 x37_1 ∧ Aside0 (careenlaw19_RouteTells.l0 kq l1 l2 a3 a4 a5 t163 (a0.extract 0 ((ji8) : Int).toNat) y165 (y165.length : Int) x37_1 = some true) ∧ Aside0 (kq ≤ k) ∧ Aside0 (Kd.R (Kd.int .i64) 3 w' w.heap.size (fun _ => True) (.slice Ao15 y165.length co15) y165) ∧ Aside0 (Below w.heap.size w w'))
      case atStart => exact ⟨(0), (by first | rfl | (simp; done) | (simp [*]; done)), H', ⟨Nat.le_refl _⟩, ⟨by (with_reducible repeat (first | apply Kd.R_alloc | apply Kd.R_drewN | apply Kd.R_drew)); exact HO167.out⟩, ⟨by repeat (first | (with_reducible first | exact HB.out | apply below_alloc | apply pw_below_drewN | apply below_drew1) | exact HB.out)⟩⟩
      case round =>
        clear H'
        try clear c1
        try clear c2
        try clear p2
        try clear c3
        try clear c8
        try clear c9
        try clear c9b0
        try clear c9b1
        try clear c10
        try clear c10b0
        try clear c10b1
        obtain ⟨x37_1, rfl, HA, HK1, HO_35, HB⟩ := hrel
        cases gk with
        | zero => cases (show (none : Option _) = some _ from HA.out)
        | succ k1 =>
          have H := HA.out
          clear HA
          simp only [careenlaw19_RouteTells.l0] at H
          by_cases c16 : x37_1 < (y165.length : Int)
          · rw [if_pos c16] at H
            have c16b0 : decide (x37_1 < (y165.length : Int)) = true := decide_eq_true c16
            clear c16
            by_cases c17 : 0 ≤ x37_1
            · rw [if_pos c17] at H
              have c17b0 : decide (0 ≤ x37_1) = true := decide_eq_true c17
              clear c17
              by_cases c18 : x37_1 < (y165.length : Int)
              · rw [if_pos c18] at H
                have c18b0 : decide (x37_1 < (y165.length : Int)) = true := decide_eq_true c18
                clear c18
                replace H := Option.bind_eq_some_iff.mp H
                obtain ⟨t169, A190, H⟩ := H
                replace H : ((careenref19_Shard.f k1 (a0.extract 0 ((ji8) : Int).toNat) (rd y165 x37_1)).bind fun t170 => (if t169 = t170 then (careenlaw19_RouteTells.l0 k1 l1 l2 a3 a4 a5 t163 (a0.extract 0 ((ji8) : Int).toNat) y165 (y165.length : Int) (wrap64 (x37_1 + 1))) else (some false))) = some true := H
                have A19 := Aside0.mk A190
                clear A190
                replace H := Option.bind_eq_some_iff.mp H
                obtain ⟨t170, A200, H⟩ := H
                replace H : (if t169 = t170 then (careenlaw19_RouteTells.l0 k1 l1 l2 a3 a4 a5 t163 (a0.extract 0 ((ji8) : Int).toNat) y165 (y165.length : Int) (wrap64 (x37_1 + 1))) else (some false)) = some true := H
                have A20 := Aside0.mk A200
                clear A200
                by_cases c21 : t169 = t170
                · rw [if_pos c21] at H
                  have c21b0 : (t169 == t170) = true := beq_iff_eq.mpr c21
                  have c21b1 : (t169 != t170) = false := bne_eq_false_iff_eq.mpr c21
                  clear c21
                  have H' := Aside0.mk H
                  clear H
                  have p168 : 0 ≤ (x37_1 : Int) := of_decide_eq_true (by first | (with_reducible assumption) | assumption)
                  have q168 : x37_1 < (y165.length : Int) := of_decide_eq_true (by first | (with_reducible assumption) | assumption)
                  obtain ⟨ad168, e168, hx168_0⟩ := Kd.at_int (Kd.R_reads' HO_35.out).2.2 x37_1 p168 q168
                  cases e168
                  replace p168 := eq_true p168
                  replace q168 := eq_true q168
                  go_wp2_with (first | ((with_reducible refine gate_callee (f := 10) rfl ?_); refine goesL_ (some 43) rfl rfl Try.func10 (by kernel_rfl) rfl #[.string (a0.extract 0 ((ji8) : Int).toNat), .int .i64 (rd y165 x37_1)] rfl (by (try simp only [List.map_toArray, List.map_cons, List.map_nil]); first | done | (simp only [hji8]; rfl) | rfl | (simp only [List.length_drop, List.length_take]; rfl)) ?_; (with_reducible refine (route_Shard.calls k1 (a0.extract 0 ((ji8) : Int).toNat) (rd y165 x37_1) t169 _ A19.out).mono ?_); rintro e w' ⟨rfl, ⟨nd, rfl⟩⟩; refine ⟨_, rfl, ?_⟩) | ((with_reducible refine gate_callee (f := 11) rfl ?_); refine goesL_ (some 46) rfl rfl Try.func11 (by kernel_rfl) rfl #[.string (a0.extract 0 ((ji8) : Int).toNat), .int .i64 (rd y165 x37_1)] rfl (by (try simp only [List.map_toArray, List.map_cons, List.map_nil]); first | done | (simp only [hji8]; rfl) | rfl | (simp only [List.length_drop, List.length_take]; rfl)) ?_; (with_reducible refine (careenref19_Shard.calls k1 (a0.extract 0 ((ji8) : Int).toNat) (rd y165 x37_1) t170 _ A20.out).mono ?_); rintro e w' ⟨rfl, ⟨nd, rfl⟩⟩; refine ⟨_, rfl, ?_⟩))
                  go_roundg k1
                  case measure => have := HK1.out; omega
                  case rel => exact ⟨(wrap64 (x37_1 + 1)), (by first | rfl | (simp; done) | (simp [*]; done)), H', ⟨by have := HK1.out; omega⟩, ⟨by (with_reducible repeat (first | apply Kd.R_alloc | apply Kd.R_drewN | apply Kd.R_drew)); exact HO_35.out⟩, ⟨by repeat (first | (with_reducible first | exact HB.out | apply below_alloc | apply pw_below_drewN | apply below_drew1) | exact HB.out)⟩⟩
                · rw [if_neg c21] at H
                  have c21b0 : (t169 == t170) = false := beq_eq_false_iff_ne.mpr c21
                  have c21b1 : (t169 != t170) = true := bne_iff_ne.mpr c21
                  exact absurd H (by simp)
              · rw [if_neg c18] at H
                exact absurd H (by simp)
            · rw [if_neg c17] at H
              exact absurd H (by simp)
          · rw [if_neg c16] at H
            have c16b0 : decide (x37_1 < (y165.length : Int)) = false := decide_eq_false c16
            clear c16
            replace H := Option.bind_eq_some_iff.mp H
            obtain ⟨t171, A220, H⟩ := H
            replace H : (careenlaw19_RouteTells.l1 k1 l1 a3 a4 a5 t163 t171 0) = some true := H
            have A22 := Aside0.mk A220
            clear A220
            have H' := Aside0.mk H
            clear H
            go_wp2_with (first | ((with_reducible refine gate_callee (f := 12) rfl ?_); refine goesL_ (some 51) rfl rfl Try.func12 (by kernel_rfl) rfl #[.slice A2 l2.length c2] rfl (by (try simp only [List.map_toArray, List.map_cons, List.map_nil]); first | done | rfl | (simp only [List.length_drop, List.length_take]; rfl)) ?_; (with_reducible refine (careenlaw19_Ways.calls k1 _ _ l2 t171 _ ?side1 ?side2 A22.out).mono ?_); (case side1 => repeat (first | exact (Kd.C_below HR2.out HB.out) | (with_reducible refine Kd.C_alloc ?_ _) | (with_reducible refine Kd.C_drewN ?_ _) | (with_reducible refine Kd.C_drew ?_))); (case side2 => exact HC2.out); rintro e w23 ⟨v172, rfl, ho0, hb⟩; refine ⟨_, rfl, ?_⟩; have n0_ := Aside0.mk (Kd.R_below (by (with_reducible repeat (first | apply Kd.R_alloc | apply Kd.R_drewN | apply Kd.R_drew)); exact HO_35.out) hb); have n1_ := Aside0.mk (Kd.R_lower ho0 (below_size (by repeat (first | (with_reducible first | exact HB.out | apply below_alloc | apply pw_below_drewN | apply below_drew1) | exact HB.out)))); have n2_ := Aside0.mk (below_step (by repeat (first | (with_reducible first | exact HB.out | apply below_alloc | apply pw_below_drewN | apply below_drew1) | exact HB.out)) hb); clear HO_35; clear HB; have HO_35 := n0_; have HO173 := n1_; have HB := n2_; clear n0_ n1_ n2_; (try clear hb); (try clear hb2); (try clear hk); (try clear hi); (try clear ho0); obtain ⟨Aw, cw, ew⟩ := Kd.R_slice HO173.out; subst ew) | ((with_reducible refine gate_dst (N := 52) rfl ?_); refine Kd.R_lit kv _ 22 ?hg (N := 52) ?hd (xs := ([.slice A1 l1.length c1, .slice Aw t171.length cw] : List Value)) (inner := ([.slice A1 l1.length c1, .slice Aw t171.length cw] : List Value)) (ok := fun _ => True) (okp := fun _ => True) ?hr ?hp (fun _ hk => hk) trivial (Below.refl _ _) (Nat.le_refl _) (by simp) ?_; (case hd => rfl); (case hg => rfl); (case hr => first | (go_simp; done) | (go_simp; rfl)); (case hp => exact (Reps.one (show Kd.M kv _ _ _ (.slice A1 l1.length c1) [.slice A1 l1.length c1] from ⟨rfl, rfl⟩) (Reps.one (show Kd.M kv _ _ _ (.slice Aw t171.length cw) [.slice Aw t171.length cw] from ⟨rfl, rfl⟩) (Reps.none _ _)))); intro v175 w24 ho25 hb hg_ hnew_; clear hg_ hnew_; have n0_ := Aside0.mk (Kd.R_elder' (by (with_reducible repeat (first | apply Kd.R_alloc | apply Kd.R_drewN | apply Kd.R_drew)); exact HO_35.out) (Kd.R_base ho25) hb); have n1_ := Aside0.mk (Kd.R_below (by (with_reducible repeat (first | apply Kd.R_alloc | apply Kd.R_drewN | apply Kd.R_drew)); exact HO173.out) hb); have n2_ := Aside0.mk (Kd.R_lower (Kd.R_new' ho25 (Kd.R_lt (by (with_reducible repeat (first | apply Kd.R_alloc | apply Kd.R_drewN | apply Kd.R_drew)); exact HO_35.out))) (below_size (by repeat (first | (with_reducible first | exact HB.out | apply below_alloc | apply pw_below_drewN | apply below_drew1) | exact HB.out)))); have n3_ := Aside0.mk (below_step (by repeat (first | (with_reducible first | exact HB.out | apply below_alloc | apply pw_below_drewN | apply below_drew1) | exact HB.out)) hb); clear HO_35; clear HO173; clear HB; have HO_35 := n0_; have HO173 := n1_; have HO176 := n2_; have HB := n3_; clear n0_ n1_ n2_ n3_; clear hb ho25; obtain ⟨Ao26, co26, eo26⟩ := Kd.R_slice HO176.out; subst eo26))
            go_loopg [54] k1 (fun kq v54 w' => ∃ (x54_2 : Int), v54 = .int .i64 x54_2 ∧ Aside0 (careenlaw19_RouteTells.l1 kq l1 a3 a4 a5 t163 t171 x54_2 = some true) ∧ Aside0 (kq ≤ k1) ∧ Aside0 (Kd.R k32 32 w' w.heap.size (fun _ => True) (.slice Aw t171.length cw) t171) ∧ Aside0 (Kd.R kv 22 w' w.heap.size (fun _ => True) (.slice Ao26 2 co26) ([.slice A1 l1.length c1, .slice Aw t171.length cw] : List Value)) ∧ Aside0 (Below w.heap.size w w'))
            case atStart => exact ⟨(0), (by first | rfl | (simp; done) | (simp [*]; done)), H', ⟨Nat.le_refl _⟩, ⟨by (with_reducible repeat (first | apply Kd.R_alloc | apply Kd.R_drewN | apply Kd.R_drew)); exact HO173.out⟩, ⟨by (with_reducible repeat (first | apply Kd.R_alloc | apply Kd.R_drewN | apply Kd.R_drew)); exact Kd.R_mono HO176.out (fun _ hk => trivial)⟩, ⟨by repeat (first | (with_reducible first | exact HB.out | apply below_alloc | apply pw_below_drewN | apply below_drew1) | exact HB.out)⟩⟩
            case round =>
              clear H'
              try clear c1
              try clear p1
              try clear q1
              try clear hx1
              try clear c2
              try clear p2
              try clear c3
              try clear p6
              try clear c8
              try clear c9
              try clear c9b0
              try clear c9b1
              try clear c10
              try clear c10b0
              try clear c10b1
              try clear c11
              try clear c12
              try clear c16
              try clear c16b0
              try clear p16
              try clear q16
              try clear hx16
              try clear c17
              try clear c17b0
              try clear c18
              try clear c18b0
              try clear c21
              try clear c21b0
              try clear c21b1
              try clear hx168_0
              try clear p168
              try clear p2
              try clear q168
              obtain ⟨x54_2, rfl, HA, HK2, HO_51, HO_52, HB⟩ := hrel
              cases gk with
              | zero => cases (show (none : Option _) = some _ from HA.out)
              | succ k2 =>
                have H := HA.out
                clear HA
                simp only [careenlaw19_RouteTells.l1] at H
                by_cases c27 : x54_2 < 2
                · rw [if_pos c27] at H
                  have c27b0 : decide (x54_2 < 2) = true := decide_eq_true c27
                  clear c27
                  by_cases c28 : 0 ≤ x54_2
                  · rw [if_pos c28] at H
                    have c28b0 : decide (0 ≤ x54_2) = true := decide_eq_true c28
                    clear c28
                    by_cases c29 : x54_2 < 2
                    · rw [if_pos c29] at H
                      have c29b0 : decide (x54_2 < 2) = true := decide_eq_true c29
                      clear c29
                      replace H := Option.bind_eq_some_iff.mp H
                      obtain ⟨t178, A300, H⟩ := H
                      replace H : ((careenlaw19_pick.f a4 9).bind fun t179 => ((careenlaw19_pick.f a5 10).bind fun t180 => ((some (([(⟨a3, a4, a5⟩ : S30), (⟨t178, t179, t180⟩ : S30)] : List (S30)) : List (S30))).bind fun y181 => (careenlaw19_RouteTells.l2 k2 l1 a3 a4 a5 t163 (if x54_2 = 0 then l1 else t171) t171 x54_2 y181 (y181.length : Int) 0)))) = some true := H
                      have A30 := Aside0.mk A300
                      clear A300
                      replace H := Option.bind_eq_some_iff.mp H
                      obtain ⟨t179, A310, H⟩ := H
                      replace H : ((careenlaw19_pick.f a5 10).bind fun t180 => ((some (([(⟨a3, a4, a5⟩ : S30), (⟨t178, t179, t180⟩ : S30)] : List (S30)) : List (S30))).bind fun y181 => (careenlaw19_RouteTells.l2 k2 l1 a3 a4 a5 t163 (if x54_2 = 0 then l1 else t171) t171 x54_2 y181 (y181.length : Int) 0))) = some true := H
                      have A31 := Aside0.mk A310
                      clear A310
                      replace H := Option.bind_eq_some_iff.mp H
                      obtain ⟨t180, A320, H⟩ := H
                      replace H : ((some (([(⟨a3, a4, a5⟩ : S30), (⟨t178, t179, t180⟩ : S30)] : List (S30)) : List (S30))).bind fun y181 => (careenlaw19_RouteTells.l2 k2 l1 a3 a4 a5 t163 (if x54_2 = 0 then l1 else t171) t171 x54_2 y181 (y181.length : Int) 0)) = some true := H
                      have A32 := Aside0.mk A320
                      clear A320
                      obtain ⟨y181, hy181⟩ : ∃ y_ : List (S30), y_ = (([(⟨a3, a4, a5⟩ : S30), (⟨t178, t179, t180⟩ : S30)] : List (S30))) := ⟨_, rfl⟩
                      replace H : (careenlaw19_RouteTells.l2 k2 l1 a3 a4 a5 t163 (if x54_2 = 0 then l1 else t171) t171 x54_2 y181 (y181.length : Int) 0) = some true := by first | (rw [hy181]; with_reducible exact H) | (have H2_ := (Option.bind_some _ _).symm.trans H; rw [hy181]; with_reducible exact H2_) | (have H2_ := (Option.bind_some _ _).symm.trans H; with_reducible exact H2_) | with_reducible exact H | (rw [hy181]; exact H) | exact H
                      have Ny181 := Aside0.mk hy181
                      clear hy181
                      have H' := Aside0.mk H
                      clear H
                      have p177 : 0 ≤ (x54_2 : Int) := of_decide_eq_true (by first | (with_reducible assumption) | assumption)
                      have q177 : x54_2 < 2 := of_decide_eq_true (by first | (with_reducible assumption) | assumption)
                      obtain ⟨AL, cL, lL, ev177, el177, hl177, HL177⟩ := pick_row HR1.out HC1.out HO_51.out x54_2 p177 q177
                      rw [← el177] at H'
                      clear el177
                      have HCL := Aside0.mk hl177
                      have HLC := Aside0.mk HL177
                      clear hl177 HL177
                      obtain ⟨ad177, e177, hx177_0⟩ := at_kv (Kd.R_reads' (n := 2) HO_52.out).2.2 x54_2 p177 q177
                      rw [ev177] at hx177_0
                      clear ev177
                      cases e177
                      replace p177 := eq_true p177
                      replace q177 := eq_true q177
                      go_wp2_with (first | ((with_reducible refine gate_callee (f := 9) rfl ?_); refine goesL_ (some 63) rfl rfl Try.func9 (by kernel_rfl) rfl #[.int .i64 a3, .int .i64 9] rfl (by (try simp only [List.map_toArray, List.map_cons, List.map_nil]); first | done | rfl | (simp only [List.length_drop, List.length_take]; rfl)) ?_; (with_reducible refine (careenlaw19_pick.calls a3 9 t178 _ A30.out).mono ?_); rintro e w' ⟨rfl, ⟨nd, rfl⟩⟩; refine ⟨_, rfl, ?_⟩) | ((with_reducible refine gate_callee (f := 9) rfl ?_); refine goesL_ (some 65) rfl rfl Try.func9 (by kernel_rfl) rfl #[.int .i64 a4, .int .i64 9] rfl (by (try simp only [List.map_toArray, List.map_cons, List.map_nil]); first | done | rfl | (simp only [List.length_drop, List.length_take]; rfl)) ?_; (with_reducible refine (careenlaw19_pick.calls a4 9 t179 _ A31.out).mono ?_); rintro e w' ⟨rfl, ⟨nd, rfl⟩⟩; refine ⟨_, rfl, ?_⟩) | ((with_reducible refine gate_callee (f := 9) rfl ?_); refine goesL_ (some 67) rfl rfl Try.func9 (by kernel_rfl) rfl #[.int .i64 a5, .int .i64 10] rfl (by (try simp only [List.map_toArray, List.map_cons, List.map_nil]); first | done | rfl | (simp only [List.length_drop, List.length_take]; rfl)) ?_; (with_reducible refine (careenlaw19_pick.calls a5 10 t180 _ A32.out).mono ?_); rintro e w' ⟨rfl, ⟨nd, rfl⟩⟩; refine ⟨_, rfl, ?_⟩) | ((with_reducible refine gate_dst (N := 69) rfl ?_); refine Kd.R_lit k30 _ 30 ?hg (N := 69) ?hd (xs := ([(⟨a3, a4, a5⟩ : S30), (⟨t178, t179, t180⟩ : S30)] : List (S30))) (inner := [.int .i64 a3, .int .i64 a4, .int .i64 a5, .int .i64 t178, .int .i64 t179, .int .i64 t180]) (ok := fun _ => True) (okp := fun _ => True) ?hr ?hp (fun _ hk => hk) trivial (Below.refl _ _) (Nat.le_refl _) (by simp) ?_; (case hd => rfl); (case hg => rfl); (case hr => first | (go_simp; done) | (go_simp; rfl)); (case hp => exact (Reps.c3 (show Kd.M k30 _ _ _ (⟨a3, a4, a5⟩ : S30) [.int .i64 a3, .int .i64 a4, .int .i64 a5] from (k30_mkM _ _ _ (⟨a3, a4, a5⟩ : S30) )) (Reps.c3 (show Kd.M k30 _ _ _ (⟨t178, t179, t180⟩ : S30) [.int .i64 t178, .int .i64 t179, .int .i64 t180] from (k30_mkM _ _ _ (⟨t178, t179, t180⟩ : S30) )) (Reps.none _ _)))); intro v182 w33 ho34 hb hg_ hnew_; clear hg_ hnew_; (first | rw [← Ny181.out] at ho34 | (simp only [Int.reduceToNat] at ho34; rw [← Ny181.out] at ho34)); have n0_ := Aside0.mk (Kd.R_below (by (with_reducible repeat (first | apply Kd.R_alloc | apply Kd.R_drewN | apply Kd.R_drew)); exact HO_51.out) hb); have n1_ := Aside0.mk (Kd.R_below (by (with_reducible repeat (first | apply Kd.R_alloc | apply Kd.R_drewN | apply Kd.R_drew)); exact HO_52.out) hb); have n2_ := Aside0.mk (Kd.R_lower ho34 (below_size (by repeat (first | (with_reducible first | exact HB.out | apply below_alloc | apply pw_below_drewN | apply below_drew1) | exact HB.out)))); have n3_ := Aside0.mk (below_step (by repeat (first | (with_reducible first | exact HB.out | apply below_alloc | apply pw_below_drewN | apply below_drew1) | exact HB.out)) hb); clear HO_51; clear HO_52; clear HB; have HO_51 := n0_; have HO_52 := n1_; have HO183 := n2_; have HB := n3_; clear n0_ n1_ n2_ n3_; clear hb ho34; obtain ⟨Ao35, co35, eo35⟩ := Kd.R_slice HO183.out; subst eo35))
                      go_loopg [71] k2 (fun kq v71 w' => ∃ (x71_3 : Int), v71 = .int .i64 x71_3 ∧ Aside0 (careenlaw19_RouteTells.l2 kq l1 a3 a4 a5 t163 lL t171 x54_2 y181 (y181.length : Int) x71_3 = some true) ∧ Aside0 (kq ≤ k2) ∧ Aside0 (Kd.R k32 32 w' w.heap.size (fun _ => True) (.slice Aw t171.length cw) t171) ∧ Aside0 (Kd.R kv 22 w' w.heap.size (fun _ => True) (.slice (some ad177) 2 co26) ([.slice A1 l1.length c1, .slice Aw t171.length cw] : List Value)) ∧ Aside0 (Kd.R k30 30 w' w.heap.size (fun _ => True) (.slice Ao35 y181.length co35) y181) ∧ Aside0 (Below w.heap.size w w'))
                      case atStart => exact ⟨(0), (by first | rfl | (simp; done) | (simp [*]; done)), H', ⟨Nat.le_refl _⟩, ⟨by (with_reducible repeat (first | apply Kd.R_alloc | apply Kd.R_drewN | apply Kd.R_drew)); exact HO_51.out⟩, ⟨by (with_reducible repeat (first | apply Kd.R_alloc | apply Kd.R_drewN | apply Kd.R_drew)); exact HO_52.out⟩, ⟨by (with_reducible repeat (first | apply Kd.R_alloc | apply Kd.R_drewN | apply Kd.R_drew)); exact HO183.out⟩, ⟨by repeat (first | (with_reducible first | exact HB.out | apply below_alloc | apply pw_below_drewN | apply below_drew1) | exact HB.out)⟩⟩
                      case round =>
                        clear H'
                        try clear c1
                        try clear p1
                        try clear q1
                        try clear hx1
                        try clear c2
                        try clear p2
                        try clear c3
                        try clear p6
                        try clear c8
                        try clear c9
                        try clear c9b0
                        try clear c9b1
                        try clear c10
                        try clear c10b0
                        try clear c10b1
                        try clear c11
                        try clear c12
                        try clear c16
                        try clear c16b0
                        try clear p16
                        try clear q16
                        try clear hx16
                        try clear c17
                        try clear c17b0
                        try clear p17
                        try clear q17
                        try clear hx17
                        try clear c18
                        try clear c18b0
                        try clear c21
                        try clear c21b0
                        try clear c21b1
                        try clear c27
                        try clear c27b0
                        try clear c28
                        try clear c28b0
                        try clear c29
                        try clear c29b0
                        try clear hx168_0
                        try clear hx177_0
                        try clear p1
                        try clear p16
                        try clear p168
                        try clear p177
                        try clear p2
                        try clear p6
                        try clear q1
                        try clear q16
                        try clear q168
                        try clear q177
                        obtain ⟨x71_3, rfl, HA, HK3, HO_51, HO_52, HO_69, HB⟩ := hrel
                        cases gk with
                        | zero => cases (show (none : Option _) = some _ from HA.out)
                        | succ k3 =>
                          have H := HA.out
                          clear HA
                          simp only [careenlaw19_RouteTells.l2] at H
                          by_cases c36 : x71_3 < (y181.length : Int)
                          · rw [if_pos c36] at H
                            have c36b0 : decide (x71_3 < (y181.length : Int)) = true := decide_eq_true c36
                            clear c36
                            by_cases c37 : 0 ≤ x71_3
                            · rw [if_pos c37] at H
                              have c37b0 : decide (0 ≤ x71_3) = true := decide_eq_true c37
                              clear c37
                              by_cases c38 : x71_3 < (y181.length : Int)
                              · rw [if_pos c38] at H
                                have c38b0 : decide (x71_3 < (y181.length : Int)) = true := decide_eq_true c38
                                clear c38
                                replace H := Option.bind_eq_some_iff.mp H
                                obtain ⟨⟨t186, t187, t188⟩, A390, H⟩ := H
                                replace H : ((careenref19_Look.f lL ((rd_T30 y181 x71_3).f0)).bind fun bt190 => (if (!(t186 == bt190.1) || (!(t187 == bt190.2.1))) = true then (some false) else (if (t188 != bt190.2.2) = true then (some false) else ((route_Learn.f k3 lL ((rd_T30 y181 x71_3).f0) ((rd_T30 y181 x71_3).f1) ((rd_T30 y181 x71_3).f2)).bind fun t194 => ((careenref19_Learn.f k3 lL ((rd_T30 y181 x71_3).f0) ((rd_T30 y181 x71_3).f1) ((rd_T30 y181 x71_3).f2)).bind fun t197 => ((careenref19_Same.f k3 t194 t197).bind fun t200 => (if t200 = true then (careenlaw19_RouteTells.l2 k3 l1 a3 a4 a5 t163 lL t171 x54_2 y181 (y181.length : Int) (wrap64 (x71_3 + 1))) else (some false)))))))) = some true := H
                                have A39 := Aside0.mk A390
                                clear A390
                                replace H := Option.bind_eq_some_iff.mp H
                                obtain ⟨⟨t190, t191, t192⟩, A400, H⟩ := H
                                replace H : (if (!(t186 == t190) || (!(t187 == t191))) = true then (some false) else (if (t188 != t192) = true then (some false) else ((route_Learn.f k3 lL ((rd_T30 y181 x71_3).f0) ((rd_T30 y181 x71_3).f1) ((rd_T30 y181 x71_3).f2)).bind fun t194 => ((careenref19_Learn.f k3 lL ((rd_T30 y181 x71_3).f0) ((rd_T30 y181 x71_3).f1) ((rd_T30 y181 x71_3).f2)).bind fun t197 => ((careenref19_Same.f k3 t194 t197).bind fun t200 => (if t200 = true then (careenlaw19_RouteTells.l2 k3 l1 a3 a4 a5 t163 lL t171 x54_2 y181 (y181.length : Int) (wrap64 (x71_3 + 1))) else (some false))))))) = some true := H
                                have A40 := Aside0.mk A400
                                clear A400
                                by_cases c41 : (!(t186 == t190) || (!(t187 == t191))) = true
                                · rw [if_pos c41] at H
                                  have c41b0 : (!(t186 == t190) || (!(t187 == t191))) = true := c41
                                  clear c41
                                  exact absurd H (by simp)
                                · rw [if_neg c41] at H
                                  have c41b0 : (!(t186 == t190) || (!(t187 == t191))) = false := by simpa using c41
                                  clear c41
                                  by_cases c42 : (t188 != t192) = true
                                  · rw [if_pos c42] at H
                                    have c42b0 : (t188 != t192) = true := c42
                                    (try (have c42b1 : decide (t188 = t192) = false := by simpa using c42))
                                    (try (have c42b2 : (t188 == t192) = false := by simpa using c42))
                                    (try (have c42b3 : ¬ (t188 = t192) := by simpa using c42))
                                    clear c42
                                    exact absurd H (by simp)
                                  · rw [if_neg c42] at H
                                    have c42b0 : (t188 != t192) = false := by simpa using c42
                                    (try (have c42b1 : decide (t188 = t192) = true := by simpa using c42))
                                    (try (have c42b2 : (t188 == t192) = true := by simpa using c42))
                                    clear c42
                                    replace H := Option.bind_eq_some_iff.mp H
                                    obtain ⟨t194, A430, H⟩ := H
                                    replace H : ((careenref19_Learn.f k3 lL ((rd_T30 y181 x71_3).f0) ((rd_T30 y181 x71_3).f1) ((rd_T30 y181 x71_3).f2)).bind fun t197 => ((careenref19_Same.f k3 t194 t197).bind fun t200 => (if t200 = true then (careenlaw19_RouteTells.l2 k3 l1 a3 a4 a5 t163 lL t171 x54_2 y181 (y181.length : Int) (wrap64 (x71_3 + 1))) else (some false)))) = some true := H
                                    have A43 := Aside0.mk A430
                                    clear A430
                                    replace H := Option.bind_eq_some_iff.mp H
                                    obtain ⟨t197, A440, H⟩ := H
                                    replace H : ((careenref19_Same.f k3 t194 t197).bind fun t200 => (if t200 = true then (careenlaw19_RouteTells.l2 k3 l1 a3 a4 a5 t163 lL t171 x54_2 y181 (y181.length : Int) (wrap64 (x71_3 + 1))) else (some false))) = some true := H
                                    have A44 := Aside0.mk A440
                                    clear A440
                                    replace H := Option.bind_eq_some_iff.mp H
                                    obtain ⟨t200, A450, H⟩ := H
                                    replace H : (if t200 = true then (careenlaw19_RouteTells.l2 k3 l1 a3 a4 a5 t163 lL t171 x54_2 y181 (y181.length : Int) (wrap64 (x71_3 + 1))) else (some false)) = some true := H
                                    have A45 := Aside0.mk A450
                                    clear A450
                                    by_cases c46 : t200 = true
                                    · subst c46
                                      have H1 : (careenlaw19_RouteTells.l2 k3 l1 a3 a4 a5 t163 lL t171 x54_2 y181 (y181.length : Int) (wrap64 (x71_3 + 1))) = some true := by rw [if_pos rfl] at H; exact H
                                      clear H
                                      have H := H1
                                      clear H1
                                      have H' := Aside0.mk H
                                      clear H
                                      have p184 : 0 ≤ (x71_3 : Int) := of_decide_eq_true (by first | (with_reducible assumption) | assumption)
                                      have q184 : x71_3 < (y181.length : Int) := of_decide_eq_true (by first | (with_reducible assumption) | assumption)
                                      obtain ⟨ad184, e184, hx184_0, hx184_1, hx184_2⟩ := at_T30 (Kd.R_reads' HO_69.out).2.2 x71_3 p184 q184
                                      cases e184
                                      replace p184 := eq_true p184
                                      replace q184 := eq_true q184
                                      try go_wp2_with (first | ((with_reducible refine gate_dst (N := 20) rfl ?_); refine box_event ?hg (N := 20) ?hd (cs := #[.int .i64 0, .int .i64 0, .int .i64 0]) (t := 30) ?hr ?_; (case hd => rfl); (case hg => rfl); (case hr => first | (go_simp; done) | (go_simp; rfl)); intro gb185 hg w47 hbox hb; have n0_ := Aside0.mk (Kd.R_below (by (with_reducible repeat (first | apply Kd.R_alloc | apply Kd.R_drewN | apply Kd.R_drew)); exact HO_51.out) hb); have n1_ := Aside0.mk (Kd.R_below (by (with_reducible repeat (first | apply Kd.R_alloc | apply Kd.R_drewN | apply Kd.R_drew)); exact HO_52.out) hb); have n2_ := Aside0.mk (Kd.R_below (Kd.R_elderB (by (with_reducible repeat (first | apply Kd.R_alloc | apply Kd.R_drewN | apply Kd.R_drew)); exact HO_69.out) gb185 (Nat.le_of_eq hg.symm)) hb); have n3_ := Aside0.mk (below_step (by repeat (first | (with_reducible first | exact HB.out | apply below_alloc | apply pw_below_drewN | apply below_drew1) | exact HB.out)) hb); have n4_ := Aside0.mk (hbox); have n5_ := Aside0.mk ((by rw [hg]; exact (below_size (by repeat (first | (with_reducible first | exact HB.out | apply below_alloc | apply pw_below_drewN | apply below_drew1) | exact HB.out))) : w.heap.size ≤ gb185)); have n6_ := Aside0.mk ((by rw [hg]; exact (below_size (by repeat (first | (with_reducible first | exact HB.out | apply below_alloc | apply pw_below_drewN | apply below_drew1) | exact HB.out))) : w.heap.size ≤ gb185)); clear HO_51; clear HO_52; clear HO_69; clear HB; have HO_51 := n0_; have HO_52 := n1_; have HO_69 := n2_; have HB := n3_; have BK185 := n4_; have GW185 := n5_; have GE185 := n6_; clear n0_ n1_ n2_ n3_ n4_ n5_ n6_; clear hb hbox hg; have hcz48_0 : w47.cell? ⟨gb185, 0, none⟩ = some (.int .i64 0) := (blk_cell BK185.out 0).trans rfl; have hcz48_1 : w47.cell? ⟨gb185, 1, none⟩ = some (.int .i64 0) := (blk_cell BK185.out 1).trans rfl; have hcz48_2 : w47.cell? ⟨gb185, 2, none⟩ = some (.int .i64 0) := (blk_cell BK185.out 2).trans rfl; have hfz48_0 := blk_frozen BK185.out 0; have hfz48_1 := blk_frozen BK185.out 1; have hfz48_2 := blk_frozen BK185.out 2) | ((with_reducible refine gate_callee (f := 13) rfl ?_); refine goesL_ (some 79) rfl rfl Try.func13 (by kernel_rfl) rfl #[.slice AL lL.length cL, .int .i64 ((rd_T30 y181 x71_3).f0)] rfl (by (try simp only [List.map_toArray, List.map_cons, List.map_nil]); first | done | rfl | (simp only [List.length_drop, List.length_take]; rfl)) ?_; (with_reducible refine (route_Look.calls _ _ lL ((rd_T30 y181 x71_3).f0) t186 t187 t188 _ ?side1 ?side2 A39.out).mono ?_); (case side1 => exact HLC.out _ (fun _ => True) (by (with_reducible repeat (first | apply Kd.R_alloc | apply Kd.R_drewN | apply Kd.R_drew)); exact (Kd.R_mono (Kd.R_far (p := ⟨gb185, 2, none⟩) (Kd.R_far (p := ⟨gb185, 1, none⟩) (Kd.R_far (p := ⟨gb185, 0, none⟩) (Kd.R_types HO_51.out BK185.out (by decide)) (fun _ hk => hk.2) (.int .i64 ((rd_T30 y181 x71_3).f0))) (fun _ hk => hk.2) (.int .i64 ((rd_T30 y181 x71_3).f1))) (fun _ hk => hk.2) (.int .i64 ((rd_T30 y181 x71_3).f2))) (fun _ h_ => h_.1))) (by repeat (first | (with_reducible first | exact HB.out | apply below_alloc | apply pw_below_drewN | apply below_drew1 | refine below_set ?_ GE185.out) | exact HB.out))); (case side2 => exact HCL.out); rintro e w49 ⟨rfl, hb⟩; refine ⟨_, rfl, ?_⟩; have n0_ := Aside0.mk (Kd.R_below (by (with_reducible repeat (first | apply Kd.R_alloc | apply Kd.R_drewN | apply Kd.R_drew)); exact (Kd.R_mono (Kd.R_far (p := ⟨gb185, 2, none⟩) (Kd.R_far (p := ⟨gb185, 1, none⟩) (Kd.R_far (p := ⟨gb185, 0, none⟩) (Kd.R_types HO_51.out BK185.out (by decide)) (fun _ hk => hk.2) (.int .i64 ((rd_T30 y181 x71_3).f0))) (fun _ hk => hk.2) (.int .i64 ((rd_T30 y181 x71_3).f1))) (fun _ hk => hk.2) (.int .i64 ((rd_T30 y181 x71_3).f2))) (fun _ h_ => h_.1))) hb); have n1_ := Aside0.mk (Kd.R_below (by (with_reducible repeat (first | apply Kd.R_alloc | apply Kd.R_drewN | apply Kd.R_drew)); exact (Kd.R_mono (Kd.R_far (p := ⟨gb185, 2, none⟩) (Kd.R_far (p := ⟨gb185, 1, none⟩) (Kd.R_far (p := ⟨gb185, 0, none⟩) (Kd.R_types HO_52.out BK185.out (by decide)) (fun _ hk => hk.2) (.int .i64 ((rd_T30 y181 x71_3).f0))) (fun _ hk => hk.2) (.int .i64 ((rd_T30 y181 x71_3).f1))) (fun _ hk => hk.2) (.int .i64 ((rd_T30 y181 x71_3).f2))) (fun _ h_ => h_.1))) hb); have n2_ := Aside0.mk (Kd.R_below (by (with_reducible repeat (first | apply Kd.R_alloc | apply Kd.R_drewN | apply Kd.R_drew)); exact (Kd.R_mono (Kd.R_far (p := ⟨gb185, 2, none⟩) (Kd.R_far (p := ⟨gb185, 1, none⟩) (Kd.R_far (p := ⟨gb185, 0, none⟩) (Kd.R_mono HO_69.out (fun k_ hk => (⟨hk, hk.2⟩ : _ ∧ k_ ≠ gb185))) (fun _ hk => hk.2) (.int .i64 ((rd_T30 y181 x71_3).f0))) (fun _ hk => hk.2) (.int .i64 ((rd_T30 y181 x71_3).f1))) (fun _ hk => hk.2) (.int .i64 ((rd_T30 y181 x71_3).f2))) (fun _ h_ => h_.1))) hb); have n3_ := Aside0.mk (blk_below (g := gb185) (o := .cells #[.int .i64 ((rd_T30 y181 x71_3).f0), .int .i64 ((rd_T30 y181 x71_3).f1), .int .i64 ((rd_T30 y181 x71_3).f2)] 30 (0, 0)) (by (with_reducible repeat (first | refine blk_drewN ?_ _ | refine blk_drew ?_ | refine blk_alloc ?_ _)); refine blk_put (cs := #[.int .i64 ((rd_T30 y181 x71_3).f0), .int .i64 ((rd_T30 y181 x71_3).f1), .int .i64 0]) ?_ 2 _ rfl; (with_reducible repeat (first | refine blk_drewN ?_ _ | refine blk_drew ?_ | refine blk_alloc ?_ _)); refine blk_put (cs := #[.int .i64 ((rd_T30 y181 x71_3).f0), .int .i64 0, .int .i64 0]) ?_ 1 _ rfl; (with_reducible repeat (first | refine blk_drewN ?_ _ | refine blk_drew ?_ | refine blk_alloc ?_ _)); refine blk_put (cs := #[.int .i64 0, .int .i64 0, .int .i64 0]) ?_ 0 _ rfl; (with_reducible repeat (first | refine blk_drewN ?_ _ | refine blk_drew ?_ | refine blk_alloc ?_ _)); exact BK185.out) hb); have n4_ := Aside0.mk (below_step (by repeat (first | (with_reducible first | exact HB.out | apply below_alloc | apply pw_below_drewN | apply below_drew1 | refine below_set ?_ GE185.out) | exact HB.out)) hb); clear HO_51; clear HO_52; clear HO_69; clear BK185; clear HB; have HO_51 := n0_; have HO_52 := n1_; have HO_69 := n2_; have BK185 := n3_; have HB := n4_; clear n0_ n1_ n2_ n3_ n4_; (try clear hb); (try clear hb2); (try clear hk); (try clear hi)) | ((with_reducible refine gate_dst (N := 21) rfl ?_); refine box_event ?hg (N := 21) ?hd (cs := #[.int .i64 0, .int .i64 0]) (t := 32) ?hr ?_; (case hd => rfl); (case hg => rfl); (case hr => first | (go_simp; done) | (go_simp; rfl)); intro gb189 hg w50 hbox hb; have n0_ := Aside0.mk (Kd.R_below (Kd.R_elderB (by (with_reducible repeat (first | apply Kd.R_alloc | apply Kd.R_drewN | apply Kd.R_drew)); exact HO_51.out) gb189 (Nat.le_of_eq hg.symm)) hb); have n1_ := Aside0.mk (Kd.R_below (by (with_reducible repeat (first | apply Kd.R_alloc | apply Kd.R_drewN | apply Kd.R_drew)); exact HO_52.out) hb); have n2_ := Aside0.mk (Kd.R_below (by (with_reducible repeat (first | apply Kd.R_alloc | apply Kd.R_drewN | apply Kd.R_drew)); exact HO_69.out) hb); have n3_ := Aside0.mk (blk_below (g := gb185) (o := .cells #[.int .i64 ((rd_T30 y181 x71_3).f0), .int .i64 ((rd_T30 y181 x71_3).f1), .int .i64 ((rd_T30 y181 x71_3).f2)] 30 (0, 0)) (by (with_reducible repeat (first | refine blk_drewN ?_ _ | refine blk_drew ?_ | refine blk_alloc ?_ _)); exact BK185.out) hb); have n4_ := Aside0.mk (below_step (by repeat (first | (with_reducible first | exact HB.out | apply below_alloc | apply pw_below_drewN | apply below_drew1 | refine below_set ?_ GE185.out) | exact HB.out)) hb); have n5_ := Aside0.mk (hbox); have n6_ := Aside0.mk ((by rw [hg]; exact (below_size (by repeat (first | (with_reducible first | exact HB.out | apply below_alloc | apply pw_below_drewN | apply below_drew1 | refine below_set ?_ GE185.out) | exact HB.out))) : w.heap.size ≤ gb189)); have n7_ := Aside0.mk ((by rw [hg]; exact (below_size (by repeat (first | (with_reducible first | exact HB.out | apply below_alloc | apply pw_below_drewN | apply below_drew1 | refine below_set ?_ GE185.out) | exact HB.out))) : w.heap.size ≤ gb189)); have n8_ := Aside0.mk ((by rw [hg]; exact Nat.ne_of_lt (blk_lt (g := gb185) (o := .cells #[.int .i64 ((rd_T30 y181 x71_3).f0), .int .i64 ((rd_T30 y181 x71_3).f1), .int .i64 ((rd_T30 y181 x71_3).f2)] 30 (0, 0)) (by (with_reducible repeat (first | refine blk_drewN ?_ _ | refine blk_drew ?_ | refine blk_alloc ?_ _)); exact BK185.out)) : gb185 ≠ gb189)); have n9_ := Aside0.mk ((by rw [hg]; exact Nat.ne_of_gt (blk_lt (g := gb185) (o := .cells #[.int .i64 ((rd_T30 y181 x71_3).f0), .int .i64 ((rd_T30 y181 x71_3).f1), .int .i64 ((rd_T30 y181 x71_3).f2)] 30 (0, 0)) (by (with_reducible repeat (first | refine blk_drewN ?_ _ | refine blk_drew ?_ | refine blk_alloc ?_ _)); exact BK185.out)) : gb189 ≠ gb185)); clear HO_51; clear HO_52; clear HO_69; clear BK185; clear HB; have HO_51 := n0_; have HO_52 := n1_; have HO_69 := n2_; have BK185 := n3_; have HB := n4_; have BK189 := n5_; have GW189 := n6_; have GE189 := n7_; have NB185_189 := n8_; have NB189_185 := n9_; clear n0_ n1_ n2_ n3_ n4_ n5_ n6_ n7_ n8_ n9_; clear hb hbox hg; have hnb51 := NB189_185.out; have hnc51 := NB185_189.out; have hcz52_0 : w50.cell? ⟨gb189, 0, none⟩ = some (.int .i64 0) := (blk_cell BK189.out 0).trans rfl; have hcz52_1 : w50.cell? ⟨gb189, 1, none⟩ = some (.int .i64 0) := (blk_cell BK189.out 1).trans rfl; have hfz52_0 := blk_frozen BK189.out 0; have hfz52_1 := blk_frozen BK189.out 1; have hcz53_0 : w50.cell? ⟨gb185, 0, none⟩ = some (.int .i64 ((rd_T30 y181 x71_3).f0)) := (blk_cell BK185.out 0).trans rfl; have hcz53_1 : w50.cell? ⟨gb185, 1, none⟩ = some (.int .i64 ((rd_T30 y181 x71_3).f1)) := (blk_cell BK185.out 1).trans rfl; have hcz53_2 : w50.cell? ⟨gb185, 2, none⟩ = some (.int .i64 ((rd_T30 y181 x71_3).f2)) := (blk_cell BK185.out 2).trans rfl; have hfz53_0 := blk_frozen BK185.out 0; have hfz53_1 := blk_frozen BK185.out 1; have hfz53_2 := blk_frozen BK185.out 2) | ((with_reducible refine gate_callee (f := 14) rfl ?_); refine goesL_ (some 86) rfl rfl Try.func14 (by kernel_rfl) rfl #[.slice AL lL.length cL, .int .i64 ((rd_T30 y181 x71_3).f0)] rfl (by (try simp only [List.map_toArray, List.map_cons, List.map_nil]); first | done | rfl | (simp only [List.length_drop, List.length_take]; rfl)) ?_; (with_reducible refine (careenref19_Look.calls _ _ lL ((rd_T30 y181 x71_3).f0) t190 t191 t192 _ ?side1 ?side2 A40.out).mono ?_); (case side1 => exact HLC.out _ (fun k_ => (True ∧ k_ ≠ gb189)) (by (with_reducible repeat (first | apply Kd.R_alloc | apply Kd.R_drewN | apply Kd.R_drew)); exact (Kd.R_mono (Kd.R_far (p := ⟨gb189, 1, none⟩) (Kd.R_far (p := ⟨gb189, 0, none⟩) (Kd.R_mono HO_51.out (fun k_ hk => (⟨hk, hk.2⟩ : _ ∧ k_ ≠ gb189))) (fun _ hk => hk.2) (.int .i64 t186)) (fun _ hk => hk.2) (.int .i64 t187)) (fun _ h_ => h_.1))) (by repeat (first | (with_reducible first | exact HB.out | apply below_alloc | apply pw_below_drewN | apply below_drew1 | refine below_set ?_ GE185.out | refine below_set ?_ GE189.out) | exact HB.out))); (case side2 => exact HCL.out); rintro e w55 ⟨rfl, hb⟩; refine ⟨_, rfl, ?_⟩; have n0_ := Aside0.mk (Kd.R_below (by (with_reducible repeat (first | apply Kd.R_alloc | apply Kd.R_drewN | apply Kd.R_drew)); exact (Kd.R_mono (Kd.R_far (p := ⟨gb189, 1, none⟩) (Kd.R_far (p := ⟨gb189, 0, none⟩) (Kd.R_mono HO_51.out (fun k_ hk => (⟨hk, hk.2⟩ : _ ∧ k_ ≠ gb189))) (fun _ hk => hk.2) (.int .i64 t186)) (fun _ hk => hk.2) (.int .i64 t187)) (fun _ h_ => h_.1))) hb); have n1_ := Aside0.mk (Kd.R_below (by (with_reducible repeat (first | apply Kd.R_alloc | apply Kd.R_drewN | apply Kd.R_drew)); exact (Kd.R_mono (Kd.R_far (p := ⟨gb189, 1, none⟩) (Kd.R_far (p := ⟨gb189, 0, none⟩) (Kd.R_types HO_52.out BK189.out (by decide)) (fun _ hk => hk.2) (.int .i64 t186)) (fun _ hk => hk.2) (.int .i64 t187)) (fun _ h_ => h_.1))) hb); have n2_ := Aside0.mk (Kd.R_below (by (with_reducible repeat (first | apply Kd.R_alloc | apply Kd.R_drewN | apply Kd.R_drew)); exact (Kd.R_mono (Kd.R_far (p := ⟨gb189, 1, none⟩) (Kd.R_far (p := ⟨gb189, 0, none⟩) (Kd.R_types HO_69.out BK189.out (by decide)) (fun _ hk => hk.2) (.int .i64 t186)) (fun _ hk => hk.2) (.int .i64 t187)) (fun _ h_ => h_.1))) hb); have n3_ := Aside0.mk (blk_below (g := gb185) (o := .cells #[.int .i64 ((rd_T30 y181 x71_3).f0), .int .i64 ((rd_T30 y181 x71_3).f1), .int .i64 ((rd_T30 y181 x71_3).f2)] 30 (0, 0)) (by (with_reducible repeat (first | refine blk_drewN ?_ _ | refine blk_drew ?_ | refine blk_alloc ?_ _)); refine blk_far ?_ NB185_189.out _; (with_reducible repeat (first | refine blk_drewN ?_ _ | refine blk_drew ?_ | refine blk_alloc ?_ _)); refine blk_far ?_ NB185_189.out _; (with_reducible repeat (first | refine blk_drewN ?_ _ | refine blk_drew ?_ | refine blk_alloc ?_ _)); exact BK185.out) hb); have n4_ := Aside0.mk (blk_below (g := gb189) (o := .cells #[.int .i64 t186, .int .i64 t187] 32 (0, 0)) (by (with_reducible repeat (first | refine blk_drewN ?_ _ | refine blk_drew ?_ | refine blk_alloc ?_ _)); refine blk_put (cs := #[.int .i64 t186, .int .i64 0]) ?_ 1 _ rfl; (with_reducible repeat (first | refine blk_drewN ?_ _ | refine blk_drew ?_ | refine blk_alloc ?_ _)); refine blk_put (cs := #[.int .i64 0, .int .i64 0]) ?_ 0 _ rfl; (with_reducible repeat (first | refine blk_drewN ?_ _ | refine blk_drew ?_ | refine blk_alloc ?_ _)); exact BK189.out) hb); have n5_ := Aside0.mk (below_step (by repeat (first | (with_reducible first | exact HB.out | apply below_alloc | apply pw_below_drewN | apply below_drew1 | refine below_set ?_ GE185.out | refine below_set ?_ GE189.out) | exact HB.out)) hb); clear HO_51; clear HO_52; clear HO_69; clear BK185; clear BK189; clear HB; have HO_51 := n0_; have HO_52 := n1_; have HO_69 := n2_; have BK185 := n3_; have BK189 := n4_; have HB := n5_; clear n0_ n1_ n2_ n3_ n4_ n5_; (try clear hb); (try clear hb2); (try clear hk); (try clear hi)) | ((with_reducible refine gate_dst (N := 23) rfl ?_); refine box_event ?hg (N := 23) ?hd (cs := #[.int .i64 0, .int .i64 0]) (t := 32) ?hr ?_; (case hd => rfl); (case hg => rfl); (case hr => first | (go_simp; done) | (go_simp; rfl)); intro gb193 hg w56 hbox hb; have n0_ := Aside0.mk (Kd.R_below (Kd.R_elderB (by (with_reducible repeat (first | apply Kd.R_alloc | apply Kd.R_drewN | apply Kd.R_drew)); exact HO_51.out) gb193 (Nat.le_of_eq hg.symm)) hb); have n1_ := Aside0.mk (Kd.R_below (by (with_reducible repeat (first | apply Kd.R_alloc | apply Kd.R_drewN | apply Kd.R_drew)); exact HO_52.out) hb); have n2_ := Aside0.mk (Kd.R_below (by (with_reducible repeat (first | apply Kd.R_alloc | apply Kd.R_drewN | apply Kd.R_drew)); exact HO_69.out) hb); have n3_ := Aside0.mk (blk_below (g := gb185) (o := .cells #[.int .i64 ((rd_T30 y181 x71_3).f0), .int .i64 ((rd_T30 y181 x71_3).f1), .int .i64 ((rd_T30 y181 x71_3).f2)] 30 (0, 0)) (by (with_reducible repeat (first | refine blk_drewN ?_ _ | refine blk_drew ?_ | refine blk_alloc ?_ _)); exact BK185.out) hb); have n4_ := Aside0.mk (blk_below (g := gb189) (o := .cells #[.int .i64 t186, .int .i64 t187] 32 (0, 0)) (by (with_reducible repeat (first | refine blk_drewN ?_ _ | refine blk_drew ?_ | refine blk_alloc ?_ _)); exact BK189.out) hb); have n5_ := Aside0.mk (below_step (by repeat (first | (with_reducible first | exact HB.out | apply below_alloc | apply pw_below_drewN | apply below_drew1 | refine below_set ?_ GE185.out | refine below_set ?_ GE189.out) | exact HB.out)) hb); have n6_ := Aside0.mk (hbox); have n7_ := Aside0.mk ((by rw [hg]; exact (below_size (by repeat (first | (with_reducible first | exact HB.out | apply below_alloc | apply pw_below_drewN | apply below_drew1 | refine below_set ?_ GE185.out | refine below_set ?_ GE189.out) | exact HB.out))) : w.heap.size ≤ gb193)); have n8_ := Aside0.mk ((by rw [hg]; exact (below_size (by repeat (first | (with_reducible first | exact HB.out | apply below_alloc | apply pw_below_drewN | apply below_drew1 | refine below_set ?_ GE185.out | refine below_set ?_ GE189.out) | exact HB.out))) : w.heap.size ≤ gb193)); have n9_ := Aside0.mk ((by rw [hg]; exact Nat.ne_of_lt (blk_lt (g := gb185) (o := .cells #[.int .i64 ((rd_T30 y181 x71_3).f0), .int .i64 ((rd_T30 y181 x71_3).f1), .int .i64 ((rd_T30 y181 x71_3).f2)] 30 (0, 0)) (by (with_reducible repeat (first | refine blk_drewN ?_ _ | refine blk_drew ?_ | refine blk_alloc ?_ _)); exact BK185.out)) : gb185 ≠ gb193)); have n10_ := Aside0.mk ((by rw [hg]; exact Nat.ne_of_gt (blk_lt (g := gb185) (o := .cells #[.int .i64 ((rd_T30 y181 x71_3).f0), .int .i64 ((rd_T30 y181 x71_3).f1), .int .i64 ((rd_T30 y181 x71_3).f2)] 30 (0, 0)) (by (with_reducible repeat (first | refine blk_drewN ?_ _ | refine blk_drew ?_ | refine blk_alloc ?_ _)); exact BK185.out)) : gb193 ≠ gb185)); have n11_ := Aside0.mk ((by rw [hg]; exact Nat.ne_of_lt (blk_lt (g := gb189) (o := .cells #[.int .i64 t186, .int .i64 t187] 32 (0, 0)) (by (with_reducible repeat (first | refine blk_drewN ?_ _ | refine blk_drew ?_ | refine blk_alloc ?_ _)); exact BK189.out)) : gb189 ≠ gb193)); have n12_ := Aside0.mk ((by rw [hg]; exact Nat.ne_of_gt (blk_lt (g := gb189) (o := .cells #[.int .i64 t186, .int .i64 t187] 32 (0, 0)) (by (with_reducible repeat (first | refine blk_drewN ?_ _ | refine blk_drew ?_ | refine blk_alloc ?_ _)); exact BK189.out)) : gb193 ≠ gb189)); clear HO_51; clear HO_52; clear HO_69; clear BK185; clear BK189; clear HB; have HO_51 := n0_; have HO_52 := n1_; have HO_69 := n2_; have BK185 := n3_; have BK189 := n4_; have HB := n5_; have BK193 := n6_; have GW193 := n7_; have GE193 := n8_; have NB185_193 := n9_; have NB193_185 := n10_; have NB189_193 := n11_; have NB193_189 := n12_; clear n0_ n1_ n2_ n3_ n4_ n5_ n6_ n7_ n8_ n9_ n10_ n11_ n12_; clear hb hbox hg; have hnb57 := NB193_185.out; have hnc57 := NB185_193.out; have hnb58 := NB193_189.out; have hnc58 := NB189_193.out; have hcz59_0 : w56.cell? ⟨gb193, 0, none⟩ = some (.int .i64 0) := (blk_cell BK193.out 0).trans rfl; have hcz59_1 : w56.cell? ⟨gb193, 1, none⟩ = some (.int .i64 0) := (blk_cell BK193.out 1).trans rfl; have hfz59_0 := blk_frozen BK193.out 0; have hfz59_1 := blk_frozen BK193.out 1))
                                      have n0_ : Aside0 (Kd.R k32 32 ((w56.setCell ⟨gb193, 0, none⟩ (.int .i64 t190)).setCell ⟨gb193, 1, none⟩ (.int .i64 t191)) w.heap.size (fun k_ => k_ ≠ gb189 ∧ k_ ≠ gb193) (.slice Aw t171.length cw) t171) := ⟨by (with_reducible repeat (first | apply Kd.R_alloc | apply Kd.R_drewN | apply Kd.R_drew)); exact Kd.R_mono (Kd.R_far (p := ⟨gb193, 1, none⟩) (Kd.R_far (p := ⟨gb193, 0, none⟩) (Kd.R_mono HO_51.out (fun k_ hk => (⟨hk, hk.2⟩ : _ ∧ k_ ≠ gb193))) (fun _ hk => hk.2) (.int .i64 t190)) (fun _ hk => hk.2) (.int .i64 t191)) (fun _ hk => ⟨hk.1.1.2, hk.1.2⟩)⟩
                                      have n1_ : Aside0 (Kd.R kv 22 ((w56.setCell ⟨gb193, 0, none⟩ (.int .i64 t190)).setCell ⟨gb193, 1, none⟩ (.int .i64 t191)) w.heap.size (fun _ => True) (.slice (some ad177) 2 co26) ([.slice A1 l1.length c1, .slice Aw t171.length cw] : List Value)) := ⟨by (with_reducible repeat (first | apply Kd.R_alloc | apply Kd.R_drewN | apply Kd.R_drew)); exact Kd.R_mono (Kd.R_far (p := ⟨gb193, 1, none⟩) (Kd.R_far (p := ⟨gb193, 0, none⟩) (Kd.R_types HO_52.out BK193.out (by decide)) (fun _ hk => hk.2) (.int .i64 t190)) (fun _ hk => hk.2) (.int .i64 t191)) (fun _ hk => trivial)⟩
                                      have n2_ : Aside0 (Kd.R k30 30 ((w56.setCell ⟨gb193, 0, none⟩ (.int .i64 t190)).setCell ⟨gb193, 1, none⟩ (.int .i64 t191)) w.heap.size (fun k_ => k_ ≠ gb185) (.slice (some ad184) y181.length co35) y181) := ⟨by (with_reducible repeat (first | apply Kd.R_alloc | apply Kd.R_drewN | apply Kd.R_drew)); exact Kd.R_mono (Kd.R_far (p := ⟨gb193, 1, none⟩) (Kd.R_far (p := ⟨gb193, 0, none⟩) (Kd.R_types HO_69.out BK193.out (by decide)) (fun _ hk => hk.2) (.int .i64 t190)) (fun _ hk => hk.2) (.int .i64 t191)) (fun _ hk => hk.1.2)⟩
                                      have n3_ : Aside0 (((w56.setCell ⟨gb193, 0, none⟩ (.int .i64 t190)).setCell ⟨gb193, 1, none⟩ (.int .i64 t191)).heap[gb185]? = some (.cells #[.int .i64 ((rd_T30 y181 x71_3).f0), .int .i64 ((rd_T30 y181 x71_3).f1), .int .i64 ((rd_T30 y181 x71_3).f2)] 30 (0, 0))) := ⟨by (with_reducible repeat (first | refine blk_drewN ?_ _ | refine blk_drew ?_ | refine blk_alloc ?_ _)); refine blk_far ?_ NB185_193.out _; (with_reducible repeat (first | refine blk_drewN ?_ _ | refine blk_drew ?_ | refine blk_alloc ?_ _)); refine blk_far ?_ NB185_193.out _; (with_reducible repeat (first | refine blk_drewN ?_ _ | refine blk_drew ?_ | refine blk_alloc ?_ _)); exact BK185.out⟩
                                      have n4_ : Aside0 (((w56.setCell ⟨gb193, 0, none⟩ (.int .i64 t190)).setCell ⟨gb193, 1, none⟩ (.int .i64 t191)).heap[gb189]? = some (.cells #[.int .i64 t186, .int .i64 t187] 32 (0, 0))) := ⟨by (with_reducible repeat (first | refine blk_drewN ?_ _ | refine blk_drew ?_ | refine blk_alloc ?_ _)); refine blk_far ?_ NB189_193.out _; (with_reducible repeat (first | refine blk_drewN ?_ _ | refine blk_drew ?_ | refine blk_alloc ?_ _)); refine blk_far ?_ NB189_193.out _; (with_reducible repeat (first | refine blk_drewN ?_ _ | refine blk_drew ?_ | refine blk_alloc ?_ _)); exact BK189.out⟩
                                      have n5_ : Aside0 (((w56.setCell ⟨gb193, 0, none⟩ (.int .i64 t190)).setCell ⟨gb193, 1, none⟩ (.int .i64 t191)).heap[gb193]? = some (.cells #[.int .i64 t190, .int .i64 t191] 32 (0, 0))) := ⟨by (with_reducible repeat (first | refine blk_drewN ?_ _ | refine blk_drew ?_ | refine blk_alloc ?_ _)); refine blk_put (cs := #[.int .i64 t190, .int .i64 0]) ?_ 1 _ rfl; (with_reducible repeat (first | refine blk_drewN ?_ _ | refine blk_drew ?_ | refine blk_alloc ?_ _)); refine blk_put (cs := #[.int .i64 0, .int .i64 0]) ?_ 0 _ rfl; (with_reducible repeat (first | refine blk_drewN ?_ _ | refine blk_drew ?_ | refine blk_alloc ?_ _)); exact BK193.out⟩
                                      have n6_ : Aside0 (Below w.heap.size w ((w56.setCell ⟨gb193, 0, none⟩ (.int .i64 t190)).setCell ⟨gb193, 1, none⟩ (.int .i64 t191))) := ⟨by repeat (first | (with_reducible first | exact HB.out | apply below_alloc | apply pw_below_drewN | apply below_drew1 | refine below_set ?_ GE185.out | refine below_set ?_ GE189.out | refine below_set ?_ GE193.out) | exact HB.out)⟩
                                      (try clear HO_51)
                                      (try clear HO_52)
                                      (try clear HO_69)
                                      (try clear BK185)
                                      (try clear BK189)
                                      (try clear BK193)
                                      (try clear HB)
                                      generalize ((w56.setCell ⟨gb193, 0, none⟩ (.int .i64 t190)).setCell ⟨gb193, 1, none⟩ (.int .i64 t191)) = w60 at n0_ n1_ n2_ n3_ n4_ n5_ n6_ ⊢
                                      have HO_51 := n0_
                                      have HO_52 := n1_
                                      have HO_69 := n2_
                                      have BK185 := n3_
                                      have BK189 := n4_
                                      have BK193 := n5_
                                      have HB := n6_
                                      clear n0_ n1_ n2_ n3_ n4_ n5_ n6_
                                      have n0_ := Aside0.mk (Kd.R_drew HO_51.out)
                                      have n1_ := Aside0.mk (Kd.R_drew HO_52.out)
                                      have n2_ := Aside0.mk (Kd.R_drew HO_69.out)
                                      have n3_ := Aside0.mk (blk_drew BK185.out)
                                      have n4_ := Aside0.mk (blk_drew BK189.out)
                                      have n5_ := Aside0.mk (blk_drew BK193.out)
                                      have n6_ := Aside0.mk (below_drew1 HB.out)
                                      clear HO_51
                                      clear HO_52
                                      clear HO_69
                                      clear BK185
                                      clear BK189
                                      clear BK193
                                      clear HB
                                      have HO_51 := n0_
                                      have HO_52 := n1_
                                      have HO_69 := n2_
                                      have BK185 := n3_
                                      have BK189 := n4_
                                      have BK193 := n5_
                                      have HB := n6_
                                      clear n0_ n1_ n2_ n3_ n4_ n5_ n6_
                                      refine start_ (n := 28) (S := fun w' => w'.cell? ⟨gb189, 0, none⟩ = some (.int .i64 t186) ∧ w'.cell? ⟨gb189, 1, none⟩ = some (.int .i64 t187) ∧ w'.cell? ⟨gb193, 0, none⟩ = some (.int .i64 t190) ∧ w'.cell? ⟨gb193, 1, none⟩ = some (.int .i64 t191) ∧ w'.cell? ⟨gb185, 0, none⟩ = some (.int .i64 ((rd_T30 y181 x71_3).f0)) ∧ w'.cell? ⟨gb185, 1, none⟩ = some (.int .i64 ((rd_T30 y181 x71_3).f1)) ∧ w'.cell? ⟨gb185, 2, none⟩ = some (.int .i64 ((rd_T30 y181 x71_3).f2))) (ds := []) #[false, false, false, false, false, false, false, false, false, false, false, false, false, false, false, false, false, false, false, false, false, false, false, false, false, false, false, false] (by kernel_rfl) rfl rfl ⟨(blk_cell BK189.out 0).trans rfl, (blk_cell BK189.out 1).trans rfl, (blk_cell BK193.out 0).trans rfl, (blk_cell BK193.out 1).trans rfl, (blk_cell BK185.out 0).trans rfl, (blk_cell BK185.out 1).trans rfl, (blk_cell BK185.out 2).trans rfl⟩ (fun hHeld => ?_); refine with_tabW careenlaw19_RouteTells.tab17 careenlaw19_RouteTells.bits17 (fun HT_ HW_ => ?_)
                                      generalize w60.drew = w61 at HO_51 HO_52 HO_69 BK185 BK189 BK193 HB hHeld ⊢
                                      refine take_ (i := 0) (N := some 89) (v := ?_) (a' := ?_) #[true, false, false, false, false, false, false, false, false, false, false, false, false, false, false, false, false, false, false, false, false, false, false, false, false, false, false, false] rfl rfl (take_ofW HT_.out HW_.out (by kernel_rfl)) (fun _ _ _ h => h) (Or.inl ⟨by rfl, ?_⟩) hHeld ?_ ?_
                                      rotate_left
                                      · rintro w' ⟨s0, s1, s2, s3, s4, s5, s6⟩
                                        go_simp
                                        with_reducible rfl
                                      rotate_left
                                      · simp only [Act.put, List.setIfInBounds_toArray, List.set_cons_zero, List.set_cons_succ, i64_w, i32_w]
                                        rfl
                                      refine take_ (i := 1) (N := some 90) (v := ?_) (a' := ?_) #[true, true, false, false, false, false, false, false, false, false, false, false, false, false, false, false, false, false, false, false, false, false, false, false, false, false, false, false] rfl rfl (take_ofW HT_.out HW_.out (by kernel_rfl)) (fun _ _ _ h => h) (Or.inl ⟨by rfl, ?_⟩) hHeld ?_ ?_
                                      rotate_left
                                      · rintro w' ⟨s0, s1, s2, s3, s4, s5, s6⟩
                                        go_simp
                                        with_reducible rfl
                                      rotate_left
                                      · simp only [Act.put, List.setIfInBounds_toArray, List.set_cons_zero, List.set_cons_succ, i64_w, i32_w]
                                        rfl
                                      refine pure_ (i := 2) (N := some 91) (v := ?_) (a' := ?_) #[true, true, true, false, false, false, false, false, false, false, false, false, false, false, false, false, false, false, false, false, false, false, false, false, false, false, false, false] rfl rfl (any_of HT_.out (by kernel_rfl)) (fun _ _ _ h => h) (Or.inl ⟨by rfl, ?_⟩) ?_ ?_
                                      rotate_left
                                      · intro w'
                                        go_simp
                                        with_reducible rfl
                                      rotate_left
                                      · simp only [Act.put, List.setIfInBounds_toArray, List.set_cons_zero, List.set_cons_succ, i64_w, i32_w]
                                        rfl
                                      refine pure_ (i := 3) (N := some 92) (v := ?_) (a' := ?_) #[true, true, true, true, false, false, false, false, false, false, false, false, false, false, false, false, false, false, false, false, false, false, false, false, false, false, false, false] rfl rfl (any_of HT_.out (by kernel_rfl)) (fun _ _ _ h => h) (Or.inl ⟨by rfl, ?_⟩) ?_ ?_
                                      rotate_left
                                      · intro w'
                                        go_simp
                                        with_reducible rfl
                                      rotate_left
                                      · simp only [Act.put, List.setIfInBounds_toArray, List.set_cons_zero, List.set_cons_succ, i64_w, i32_w]
                                        rfl
                                      refine pure_ (i := 4) (N := some 93) (v := ?_) (a' := ?_) #[true, true, true, true, true, false, false, false, false, false, false, false, false, false, false, false, false, false, false, false, false, false, false, false, false, false, false, false] rfl rfl (any_of HT_.out (by kernel_rfl)) (fun _ _ _ h => h) (Or.inl ⟨by rfl, ?_⟩) ?_ ?_
                                      rotate_left
                                      · intro w'
                                        go_simp
                                        with_reducible rfl
                                      rotate_left
                                      · simp only [Act.put, List.setIfInBounds_toArray, List.set_cons_zero, List.set_cons_succ, i64_w, i32_w]
                                        rfl
                                      refine pure_ (i := 5) (N := some 94) (v := ?_) (a' := ?_) #[true, true, true, true, true, true, false, false, false, false, false, false, false, false, false, false, false, false, false, false, false, false, false, false, false, false, false, false] rfl rfl (any_of HT_.out (by kernel_rfl)) (fun _ _ _ h => h) (Or.inl ⟨by rfl, ?_⟩) ?_ ?_
                                      rotate_left
                                      · intro w'
                                        go_simp
                                        with_reducible rfl
                                      rotate_left
                                      · simp only [Act.put, List.setIfInBounds_toArray, List.set_cons_zero, List.set_cons_succ, i64_w, i32_w]
                                        rfl
                                      refine pure_ (i := 6) (N := some 95) (v := ?_) (a' := ?_) #[true, true, true, true, true, true, true, false, false, false, false, false, false, false, false, false, false, false, false, false, false, false, false, false, false, false, false, false] rfl rfl (any_of HT_.out (by kernel_rfl)) (fun _ _ _ h => h) (Or.inl ⟨by rfl, ?_⟩) ?_ ?_
                                      rotate_left
                                      · intro w'
                                        go_simp
                                        with_reducible rfl
                                      rotate_left
                                      · simp only [Act.put, List.setIfInBounds_toArray, List.set_cons_zero, List.set_cons_succ, i64_w, i32_w]
                                        rfl
                                      refine pure_ (i := 7) (N := some 96) (v := ?_) (a' := ?_) #[true, true, true, true, true, true, true, true, false, false, false, false, false, false, false, false, false, false, false, false, false, false, false, false, false, false, false, false] rfl rfl (any_of HT_.out (by kernel_rfl)) (fun _ _ _ h => h) (Or.inl ⟨by rfl, ?_⟩) ?_ ?_
                                      rotate_left
                                      · intro w'
                                        go_simp
                                        with_reducible rfl
                                      rotate_left
                                      · simp only [Act.put, List.setIfInBounds_toArray, List.set_cons_zero, List.set_cons_succ, i64_w, i32_w]
                                        rfl
                                      refine pure_ (i := 8) (N := some 97) (v := ?_) (a' := ?_) #[true, true, true, true, true, true, true, true, true, false, false, false, false, false, false, false, false, false, false, false, false, false, false, false, false, false, false, false] rfl rfl (any_of HT_.out (by kernel_rfl)) (fun _ _ _ h => h) (Or.inl ⟨by rfl, ?_⟩) ?_ ?_
                                      rotate_left
                                      · intro w'
                                        go_simp
                                        with_reducible rfl
                                      rotate_left
                                      · simp only [Act.put, List.setIfInBounds_toArray, List.set_cons_zero, List.set_cons_succ, i64_w, i32_w]
                                        rfl
                                      refine pure_ (i := 9) (N := some 98) (v := ?_) (a' := ?_) #[true, true, true, true, true, true, true, true, true, true, false, false, false, false, false, false, false, false, false, false, false, false, false, false, false, false, false, false] rfl rfl (any_of HT_.out (by kernel_rfl)) (fun _ _ _ h => h) (Or.inl ⟨by rfl, ?_⟩) ?_ ?_
                                      rotate_left
                                      · intro w'
                                        go_simp
                                        with_reducible rfl
                                      rotate_left
                                      · simp only [Act.put, List.setIfInBounds_toArray, List.set_cons_zero, List.set_cons_succ, i64_w, i32_w]
                                        rfl
                                      refine pure_ (i := 10) (N := some 99) (v := ?_) (a' := ?_) #[true, true, true, true, true, true, true, true, true, true, true, false, false, false, false, false, false, false, false, false, false, false, false, false, false, false, false, false] rfl rfl (any_of HT_.out (by kernel_rfl)) (fun _ _ _ h => h) (Or.inl ⟨by rfl, ?_⟩) ?_ ?_
                                      rotate_left
                                      · intro w'
                                        go_simp
                                        with_reducible rfl
                                      rotate_left
                                      · simp only [Act.put, List.setIfInBounds_toArray, List.set_cons_zero, List.set_cons_succ, i64_w, i32_w]
                                        rfl
                                      refine pure_ (i := 12) (N := some 101) (v := ?_) (a' := ?_) #[true, true, true, true, true, true, true, true, true, true, true, false, true, false, false, false, false, false, false, false, false, false, false, false, false, false, false, false] rfl rfl (any_of HT_.out (by kernel_rfl)) (fun _ _ _ h => h) (Or.inl ⟨by rfl, ?_⟩) ?_ ?_
                                      rotate_left
                                      · intro w'
                                        go_simp
                                        with_reducible rfl
                                      rotate_left
                                      · simp only [Act.put, List.setIfInBounds_toArray, List.set_cons_zero, List.set_cons_succ, i64_w, i32_w]
                                        rfl
                                      refine pure_ (i := 14) (N := some 103) (v := ?_) (a' := ?_) #[true, true, true, true, true, true, true, true, true, true, true, false, true, false, true, false, false, false, false, false, false, false, false, false, false, false, false, false] rfl rfl (any_of HT_.out (by kernel_rfl)) (fun _ _ _ h => h) (Or.inl ⟨by rfl, ?_⟩) ?_ ?_
                                      rotate_left
                                      · intro w'
                                        go_simp
                                        with_reducible rfl
                                      rotate_left
                                      · simp only [Act.put, List.setIfInBounds_toArray, List.set_cons_zero, List.set_cons_succ, i64_w, i32_w]
                                        rfl
                                      refine pure_ (i := 17) (N := some 106) (v := ?_) (a' := ?_) #[true, true, true, true, true, true, true, true, true, true, true, false, true, false, true, false, false, true, false, false, false, false, false, false, false, false, false, false] rfl rfl (any_of HT_.out (by kernel_rfl)) (fun _ _ _ h => h) (Or.inl ⟨by rfl, ?_⟩) ?_ ?_
                                      rotate_left
                                      · intro w'
                                        go_simp
                                        with_reducible rfl
                                      rotate_left
                                      · simp only [Act.put, List.setIfInBounds_toArray, List.set_cons_zero, List.set_cons_succ, i64_w, i32_w]
                                        rfl
                                      refine pure_ (i := 18) (N := some 107) (v := ?_) (a' := ?_) #[true, true, true, true, true, true, true, true, true, true, true, false, true, false, true, false, false, true, true, false, false, false, false, false, false, false, false, false] rfl rfl (any_of HT_.out (by kernel_rfl)) (fun _ _ _ h => h) (Or.inl ⟨by rfl, ?_⟩) ?_ ?_
                                      rotate_left
                                      · intro w'
                                        go_simp
                                        with_reducible rfl
                                      rotate_left
                                      · simp only [Act.put, List.setIfInBounds_toArray, List.set_cons_zero, List.set_cons_succ, i64_w, i32_w]
                                        rfl
                                      refine pure_ (i := 20) (N := some 109) (v := ?_) (a' := ?_) #[true, true, true, true, true, true, true, true, true, true, true, false, true, false, true, false, false, true, true, false, true, false, false, false, false, false, false, false] rfl rfl (any_of HT_.out (by kernel_rfl)) (fun _ _ _ h => h) (Or.inl ⟨by rfl, ?_⟩) ?_ ?_
                                      rotate_left
                                      · intro w'
                                        go_simp
                                        with_reducible rfl
                                      rotate_left
                                      · simp only [Act.put, List.setIfInBounds_toArray, List.set_cons_zero, List.set_cons_succ, i64_w, i32_w]
                                        rfl
                                      refine pure_ (i := 22) (N := some 111) (v := ?_) (a' := ?_) #[true, true, true, true, true, true, true, true, true, true, true, false, true, false, true, false, false, true, true, false, true, false, true, false, false, false, false, false] rfl rfl (any_of HT_.out (by kernel_rfl)) (fun _ _ _ h => h) (Or.inl ⟨by rfl, ?_⟩) ?_ ?_
                                      rotate_left
                                      · intro w'
                                        go_simp
                                        with_reducible rfl
                                      rotate_left
                                      · simp only [Act.put, List.setIfInBounds_toArray, List.set_cons_zero, List.set_cons_succ, i64_w, i32_w]
                                        rfl
                                      refine take_ (i := 11) (N := some 100) (v := ?_) (a' := ?_) #[true, true, true, true, true, true, true, true, true, true, true, true, true, false, true, false, false, true, true, false, true, false, true, false, false, false, false, false] rfl rfl (take_ofW HT_.out HW_.out (by kernel_rfl)) (fun _ _ _ h => h) (Or.inl ⟨by rfl, ?_⟩) hHeld ?_ ?_
                                      rotate_left
                                      · rintro w' ⟨s0, s1, s2, s3, s4, s5, s6⟩
                                        go_simp
                                        with_reducible rfl
                                      rotate_left
                                      · simp only [Act.put, List.setIfInBounds_toArray, List.set_cons_zero, List.set_cons_succ, i64_w, i32_w]
                                        rfl
                                      refine take_ (i := 13) (N := some 102) (v := ?_) (a' := ?_) #[true, true, true, true, true, true, true, true, true, true, true, true, true, true, true, false, false, true, true, false, true, false, true, false, false, false, false, false] rfl rfl (take_ofW HT_.out HW_.out (by kernel_rfl)) (fun _ _ _ h => h) (Or.inl ⟨by rfl, ?_⟩) hHeld ?_ ?_
                                      rotate_left
                                      · rintro w' ⟨s0, s1, s2, s3, s4, s5, s6⟩
                                        go_simp
                                        with_reducible rfl
                                      rotate_left
                                      · simp only [Act.put, List.setIfInBounds_toArray, List.set_cons_zero, List.set_cons_succ, i64_w, i32_w]
                                        rfl
                                      refine take_ (i := 15) (N := some 104) (v := ?_) (a' := ?_) #[true, true, true, true, true, true, true, true, true, true, true, true, true, true, true, true, false, true, true, false, true, false, true, false, false, false, false, false] rfl rfl (take_ofW HT_.out HW_.out (by kernel_rfl)) (fun _ _ _ h => h) (Or.inl ⟨by rfl, ?_⟩) hHeld ?_ ?_
                                      rotate_left
                                      · rintro w' ⟨s0, s1, s2, s3, s4, s5, s6⟩
                                        go_simp
                                        with_reducible rfl
                                      rotate_left
                                      · simp only [Act.put, List.setIfInBounds_toArray, List.set_cons_zero, List.set_cons_succ, i64_w, i32_w]
                                        rfl
                                      refine take_ (i := 19) (N := some 108) (v := ?_) (a' := ?_) #[true, true, true, true, true, true, true, true, true, true, true, true, true, true, true, true, false, true, true, true, true, false, true, false, false, false, false, false] rfl rfl (take_ofW HT_.out HW_.out (by kernel_rfl)) (fun _ _ _ h => h) (Or.inl ⟨by rfl, ?_⟩) hHeld ?_ ?_
                                      rotate_left
                                      · rintro w' ⟨s0, s1, s2, s3, s4, s5, s6⟩
                                        go_simp
                                        with_reducible rfl
                                      rotate_left
                                      · simp only [Act.put, List.setIfInBounds_toArray, List.set_cons_zero, List.set_cons_succ, i64_w, i32_w]
                                        rfl
                                      refine take_ (i := 21) (N := some 110) (v := ?_) (a' := ?_) #[true, true, true, true, true, true, true, true, true, true, true, true, true, true, true, true, false, true, true, true, true, true, true, false, false, false, false, false] rfl rfl (take_ofW HT_.out HW_.out (by kernel_rfl)) (fun _ _ _ h => h) (Or.inl ⟨by rfl, ?_⟩) hHeld ?_ ?_
                                      rotate_left
                                      · rintro w' ⟨s0, s1, s2, s3, s4, s5, s6⟩
                                        go_simp
                                        with_reducible rfl
                                      rotate_left
                                      · simp only [Act.put, List.setIfInBounds_toArray, List.set_cons_zero, List.set_cons_succ, i64_w, i32_w]
                                        rfl
                                      refine take_ (i := 23) (N := some 112) (v := ?_) (a' := ?_) #[true, true, true, true, true, true, true, true, true, true, true, true, true, true, true, true, false, true, true, true, true, true, true, true, false, false, false, false] rfl rfl (take_ofW HT_.out HW_.out (by kernel_rfl)) (fun _ _ _ h => h) (Or.inl ⟨by rfl, ?_⟩) hHeld ?_ ?_
                                      rotate_left
                                      · rintro w' ⟨s0, s1, s2, s3, s4, s5, s6⟩
                                        go_simp
                                        with_reducible rfl
                                      rotate_left
                                      · simp only [Act.put, List.setIfInBounds_toArray, List.set_cons_zero, List.set_cons_succ, i64_w, i32_w]
                                        rfl
                                      refine one_ (i := 16) (N := some 105) #[true, true, true, true, true, true, true, true, true, true, true, true, true, true, true, true, true, true, true, true, true, true, true, true, false, false, false, false] rfl rfl (one_of HT_.out (by kernel_rfl)) (by decide) (fun K hK => ?_)
                                      refine goes_ Try.func16 (by kernel_rfl) rfl #[.slice AL lL.length cL, .int .i64 ((rd_T30 y181 x71_3).f0), .int .i64 ((rd_T30 y181 x71_3).f1), .int .i64 ((rd_T30 y181 x71_3).f2)] (by rfl) rfl rfl (by (try simp only [List.map_toArray, List.map_cons, List.map_nil]); first | done | rfl | (simp only [List.length_drop, List.length_take]; rfl)) ?_
                                      with_reducible refine (route_Learn.calls k3 _ _ lL ((rd_T30 y181 x71_3).f0) ((rd_T30 y181 x71_3).f1) ((rd_T30 y181 x71_3).f2) t194 _ ?side1 ?side2 A43.out).mono ?_
                                      (case side1 => repeat (first | exact (HLC.out _ _ HO_51.out HB.out) | (with_reducible refine Kd.C_alloc ?_ _) | (with_reducible refine Kd.C_drewN ?_ _) | (with_reducible refine Kd.C_drew ?_)))
                                      (case side2 => exact HCL.out)
                                      rintro e w62 ⟨v195, rfl, ho0, hb⟩
                                      refine ⟨_, rfl, ?_⟩
                                      have n0_ := Aside0.mk (Kd.R_elder' (by (with_reducible repeat (first | apply Kd.R_alloc | apply Kd.R_drewN | apply Kd.R_drew)); exact HO_51.out) (Kd.R_base ho0) hb)
                                      have n1_ := Aside0.mk (Kd.R_below (by (with_reducible repeat (first | apply Kd.R_alloc | apply Kd.R_drewN | apply Kd.R_drew)); exact HO_52.out) hb)
                                      have n2_ := Aside0.mk (Kd.R_below (by (with_reducible repeat (first | apply Kd.R_alloc | apply Kd.R_drewN | apply Kd.R_drew)); exact HO_69.out) hb)
                                      have n3_ := Aside0.mk (Kd.R_lower (Kd.R_newB (Kd.R_newB (Kd.R_new' ho0 (Kd.R_lt (by (with_reducible repeat (first | apply Kd.R_alloc | apply Kd.R_drewN | apply Kd.R_drew)); exact HO_51.out))) (g := gb189) (o := .cells #[.int .i64 t186, .int .i64 t187] 32 (0, 0)) (by (with_reducible repeat (first | refine blk_drewN ?_ _ | refine blk_drew ?_ | refine blk_alloc ?_ _)); exact BK189.out)) (g := gb193) (o := .cells #[.int .i64 t190, .int .i64 t191] 32 (0, 0)) (by (with_reducible repeat (first | refine blk_drewN ?_ _ | refine blk_drew ?_ | refine blk_alloc ?_ _)); exact BK193.out)) (below_size (by repeat (first | (with_reducible first | exact HB.out | apply below_alloc | apply pw_below_drewN | apply below_drew1 | refine below_set ?_ GE185.out | refine below_set ?_ GE189.out | refine below_set ?_ GE193.out) | exact HB.out))))
                                      have n4_ := Aside0.mk (blk_below (g := gb185) (o := .cells #[.int .i64 ((rd_T30 y181 x71_3).f0), .int .i64 ((rd_T30 y181 x71_3).f1), .int .i64 ((rd_T30 y181 x71_3).f2)] 30 (0, 0)) (by (with_reducible repeat (first | refine blk_drewN ?_ _ | refine blk_drew ?_ | refine blk_alloc ?_ _)); exact BK185.out) hb)
                                      have n5_ := Aside0.mk (blk_below (g := gb189) (o := .cells #[.int .i64 t186, .int .i64 t187] 32 (0, 0)) (by (with_reducible repeat (first | refine blk_drewN ?_ _ | refine blk_drew ?_ | refine blk_alloc ?_ _)); exact BK189.out) hb)
                                      have n6_ := Aside0.mk (blk_below (g := gb193) (o := .cells #[.int .i64 t190, .int .i64 t191] 32 (0, 0)) (by (with_reducible repeat (first | refine blk_drewN ?_ _ | refine blk_drew ?_ | refine blk_alloc ?_ _)); exact BK193.out) hb)
                                      have n7_ := Aside0.mk (below_step (by repeat (first | (with_reducible first | exact HB.out | apply below_alloc | apply pw_below_drewN | apply below_drew1 | refine below_set ?_ GE185.out | refine below_set ?_ GE189.out | refine below_set ?_ GE193.out) | exact HB.out)) hb)
                                      clear HO_51
                                      clear HO_52
                                      clear HO_69
                                      clear BK185
                                      clear BK189
                                      clear BK193
                                      clear HB
                                      have HO_51 := n0_
                                      have HO_52 := n1_
                                      have HO_69 := n2_
                                      have HO196 := n3_
                                      have BK185 := n4_
                                      have BK189 := n5_
                                      have BK193 := n6_
                                      have HB := n7_
                                      clear n0_ n1_ n2_ n3_ n4_ n5_ n6_ n7_
                                      (try clear hb)
                                      (try clear hb2)
                                      (try clear hk)
                                      (try clear hi)
                                      (try clear ho0)
                                      refine hK.out _ _ ⟨(blk_cell BK189.out 0).trans rfl, (blk_cell BK189.out 1).trans rfl, (blk_cell BK193.out 0).trans rfl, (blk_cell BK193.out 1).trans rfl, (blk_cell BK185.out 0).trans rfl, (blk_cell BK185.out 1).trans rfl, (blk_cell BK185.out 2).trans rfl⟩ (fun hHeld => ?_)
                                      clear hK K
                                      refine norm_ (a' := ?_) ?_ ?_
                                      rotate_left
                                      · show Act.put _ (some 105) _ = _
                                        simp only [Act.put, List.setIfInBounds_toArray, List.set_cons_zero, List.set_cons_succ, i64_w, i32_w]
                                        rfl
                                      refine one_ (i := 24) (N := some 113) #[true, true, true, true, true, true, true, true, true, true, true, true, true, true, true, true, true, true, true, true, true, true, true, true, true, false, false, false] rfl rfl (one_of HT_.out (by kernel_rfl)) (by decide) (fun K hK => ?_)
                                      refine goes_ Try.func17 (by kernel_rfl) rfl #[.slice AL lL.length cL, .int .i64 ((rd_T30 y181 x71_3).f0), .int .i64 ((rd_T30 y181 x71_3).f1), .int .i64 ((rd_T30 y181 x71_3).f2)] (by rfl) rfl rfl (by (try simp only [List.map_toArray, List.map_cons, List.map_nil]); first | done | rfl | (simp only [List.length_drop, List.length_take]; rfl)) ?_
                                      with_reducible refine (careenref19_Learn.calls k3 _ _ lL ((rd_T30 y181 x71_3).f0) ((rd_T30 y181 x71_3).f1) ((rd_T30 y181 x71_3).f2) t197 _ ?side1 ?side2 A44.out).mono ?_
                                      (case side1 => repeat (first | exact (HLC.out _ _ HO_51.out HB.out) | (with_reducible refine Kd.C_alloc ?_ _) | (with_reducible refine Kd.C_drewN ?_ _) | (with_reducible refine Kd.C_drew ?_)))
                                      (case side2 => exact HCL.out)
                                      rintro e w63 ⟨v198, rfl, ho0, hb⟩
                                      refine ⟨_, rfl, ?_⟩
                                      have n0_ := Aside0.mk (Kd.R_elder' (by (with_reducible repeat (first | apply Kd.R_alloc | apply Kd.R_drewN | apply Kd.R_drew)); exact HO_51.out) (Kd.R_base ho0) hb)
                                      have n1_ := Aside0.mk (Kd.R_below (by (with_reducible repeat (first | apply Kd.R_alloc | apply Kd.R_drewN | apply Kd.R_drew)); exact HO_52.out) hb)
                                      have n2_ := Aside0.mk (Kd.R_below (by (with_reducible repeat (first | apply Kd.R_alloc | apply Kd.R_drewN | apply Kd.R_drew)); exact HO_69.out) hb)
                                      have n3_ := Aside0.mk (Kd.R_elder' (by (with_reducible repeat (first | apply Kd.R_alloc | apply Kd.R_drewN | apply Kd.R_drew)); exact HO196.out) (Kd.R_base ho0) hb)
                                      have n4_ := Aside0.mk (Kd.R_lower (Kd.R_newB (Kd.R_newB (Kd.R_new' (Kd.R_new' ho0 (Kd.R_lt (by (with_reducible repeat (first | apply Kd.R_alloc | apply Kd.R_drewN | apply Kd.R_drew)); exact HO_51.out))) (Kd.R_lt (by (with_reducible repeat (first | apply Kd.R_alloc | apply Kd.R_drewN | apply Kd.R_drew)); exact HO196.out))) (g := gb189) (o := .cells #[.int .i64 t186, .int .i64 t187] 32 (0, 0)) (by (with_reducible repeat (first | refine blk_drewN ?_ _ | refine blk_drew ?_ | refine blk_alloc ?_ _)); exact BK189.out)) (g := gb193) (o := .cells #[.int .i64 t190, .int .i64 t191] 32 (0, 0)) (by (with_reducible repeat (first | refine blk_drewN ?_ _ | refine blk_drew ?_ | refine blk_alloc ?_ _)); exact BK193.out)) (below_size (by repeat (first | (with_reducible first | exact HB.out | apply below_alloc | apply pw_below_drewN | apply below_drew1 | refine below_set ?_ GE185.out | refine below_set ?_ GE189.out | refine below_set ?_ GE193.out) | exact HB.out))))
                                      have n5_ := Aside0.mk (blk_below (g := gb185) (o := .cells #[.int .i64 ((rd_T30 y181 x71_3).f0), .int .i64 ((rd_T30 y181 x71_3).f1), .int .i64 ((rd_T30 y181 x71_3).f2)] 30 (0, 0)) (by (with_reducible repeat (first | refine blk_drewN ?_ _ | refine blk_drew ?_ | refine blk_alloc ?_ _)); exact BK185.out) hb)
                                      have n6_ := Aside0.mk (blk_below (g := gb189) (o := .cells #[.int .i64 t186, .int .i64 t187] 32 (0, 0)) (by (with_reducible repeat (first | refine blk_drewN ?_ _ | refine blk_drew ?_ | refine blk_alloc ?_ _)); exact BK189.out) hb)
                                      have n7_ := Aside0.mk (blk_below (g := gb193) (o := .cells #[.int .i64 t190, .int .i64 t191] 32 (0, 0)) (by (with_reducible repeat (first | refine blk_drewN ?_ _ | refine blk_drew ?_ | refine blk_alloc ?_ _)); exact BK193.out) hb)
                                      have n8_ := Aside0.mk (below_step (by repeat (first | (with_reducible first | exact HB.out | apply below_alloc | apply pw_below_drewN | apply below_drew1 | refine below_set ?_ GE185.out | refine below_set ?_ GE189.out | refine below_set ?_ GE193.out) | exact HB.out)) hb)
                                      clear HO_51
                                      clear HO_52
                                      clear HO_69
                                      clear HO196
                                      clear BK185
                                      clear BK189
                                      clear BK193
                                      clear HB
                                      have HO_51 := n0_
                                      have HO_52 := n1_
                                      have HO_69 := n2_
                                      have HO196 := n3_
                                      have HO199 := n4_
                                      have BK185 := n5_
                                      have BK189 := n6_
                                      have BK193 := n7_
                                      have HB := n8_
                                      clear n0_ n1_ n2_ n3_ n4_ n5_ n6_ n7_ n8_
                                      (try clear hb)
                                      (try clear hb2)
                                      (try clear hk)
                                      (try clear hi)
                                      (try clear ho0)
                                      obtain ⟨Ao64, co64, eo64⟩ := Kd.R_slice HO196.out
                                      (first | subst eo64 | (injection eo64 with f1_ f2_ f3_; have f4_ := f1_.symm; have f5_ := f3_.symm; clear f1_ f2_ f3_; subst f4_; subst f5_))
                                      obtain ⟨Ao65, co65, eo65⟩ := Kd.R_slice HO199.out
                                      (first | subst eo65 | (injection eo65 with f1_ f2_ f3_; have f4_ := f1_.symm; have f5_ := f3_.symm; clear f1_ f2_ f3_; subst f4_; subst f5_))
                                      refine hK.out _ _ ⟨(blk_cell BK189.out 0).trans rfl, (blk_cell BK189.out 1).trans rfl, (blk_cell BK193.out 0).trans rfl, (blk_cell BK193.out 1).trans rfl, (blk_cell BK185.out 0).trans rfl, (blk_cell BK185.out 1).trans rfl, (blk_cell BK185.out 2).trans rfl⟩ (fun hHeld => ?_)
                                      clear hK K
                                      refine norm_ (a' := ?_) ?_ ?_
                                      rotate_left
                                      · show Act.put _ (some 113) _ = _
                                        simp only [Act.put, List.setIfInBounds_toArray, List.set_cons_zero, List.set_cons_succ, i64_w, i32_w]
                                        rfl
                                      refine one_ (i := 25) (N := some 114) #[true, true, true, true, true, true, true, true, true, true, true, true, true, true, true, true, true, true, true, true, true, true, true, true, true, true, false, false] rfl rfl (one_of HT_.out (by kernel_rfl)) (by decide) (fun K hK => ?_)
                                      refine goes_ Try.func15 (by kernel_rfl) rfl #[.slice Ao64 t194.length co64, .slice Ao65 t197.length co65] (by rfl) rfl rfl (by (try simp only [List.map_toArray, List.map_cons, List.map_nil]); first | done | rfl | (simp only [List.length_drop, List.length_take]; rfl)) ?_
                                      with_reducible refine (careenref19_Same.calls k3 _ _ t194 _ _ t197 true _ ?side1 ?side2 ?side3 ?side4 A45.out).mono ?_
                                      (case side1 => repeat (first | exact (Kd.R_reads' HO196.out).2.2 | (with_reducible refine Kd.C_alloc ?_ _) | (with_reducible refine Kd.C_drewN ?_ _) | (with_reducible refine Kd.C_drew ?_)))
                                      (case side2 => exact (Kd.R_reads' HO196.out).2.1)
                                      (case side3 => repeat (first | exact (Kd.R_reads' HO199.out).2.2 | (with_reducible refine Kd.C_alloc ?_ _) | (with_reducible refine Kd.C_drewN ?_ _) | (with_reducible refine Kd.C_drew ?_)))
                                      (case side4 => exact (Kd.R_reads' HO199.out).2.1)
                                      rintro e w' ⟨rfl, ⟨nd, rfl⟩⟩
                                      refine ⟨_, rfl, ?_⟩
                                      refine hK.out _ _ ⟨(blk_cell BK189.out 0).trans rfl, (blk_cell BK189.out 1).trans rfl, (blk_cell BK193.out 0).trans rfl, (blk_cell BK193.out 1).trans rfl, (blk_cell BK185.out 0).trans rfl, (blk_cell BK185.out 1).trans rfl, (blk_cell BK185.out 2).trans rfl⟩ (fun hHeld => ?_)
                                      clear hK K
                                      refine norm_ (a' := ?_) ?_ ?_
                                      rotate_left
                                      · show Act.put _ (some 114) _ = _
                                        simp only [Act.put, List.setIfInBounds_toArray, List.set_cons_zero, List.set_cons_succ, i64_w, i32_w]
                                        rfl
                                      refine pure_ (i := 26) (N := some 115) (v := ?_) (a' := ?_) #[true, true, true, true, true, true, true, true, true, true, true, true, true, true, true, true, true, true, true, true, true, true, true, true, true, true, true, false] rfl rfl (any_of HT_.out (by kernel_rfl)) (fun _ _ _ h => h) (Or.inl ⟨by rfl, ?_⟩) ?_ ?_
                                      rotate_left
                                      · intro w'
                                        go_simp
                                        with_reducible rfl
                                      rotate_left
                                      · simp only [Act.put, List.setIfInBounds_toArray, List.set_cons_zero, List.set_cons_succ, i64_w, i32_w]
                                        rfl
                                      refine pure_ (i := 27) (N := some 116) (v := ?_) (a' := ?_) #[true, true, true, true, true, true, true, true, true, true, true, true, true, true, true, true, true, true, true, true, true, true, true, true, true, true, true, true] rfl rfl (any_of HT_.out (by kernel_rfl)) (fun _ _ _ h => h) (Or.inl ⟨by rfl, ?_⟩) ?_ ?_
                                      rotate_left
                                      · intro w'
                                        go_simp
                                        with_reducible rfl
                                      rotate_left
                                      · simp only [Act.put, List.setIfInBounds_toArray, List.set_cons_zero, List.set_cons_succ, i64_w, i32_w]
                                        rfl
                                      refine done_ (done_of HT_.out (by kernel_rfl)) ?_
                                      try go_wp2
                                      go_roundg k3
                                      case measure => have := HK1.out; have := HK2.out; have := HK3.out; omega
                                      case rel => exact ⟨(wrap64 (x71_3 + 1)), (by first | rfl | (simp; done) | (simp [*]; done)), H', ⟨by have := HK1.out; have := HK2.out; have := HK3.out; omega⟩, ⟨by (with_reducible repeat (first | apply Kd.R_alloc | apply Kd.R_drewN | apply Kd.R_drew)); exact Kd.R_mono HO_51.out (fun _ hk => trivial)⟩, ⟨by (with_reducible repeat (first | apply Kd.R_alloc | apply Kd.R_drewN | apply Kd.R_drew)); exact HO_52.out⟩, ⟨by (with_reducible repeat (first | apply Kd.R_alloc | apply Kd.R_drewN | apply Kd.R_drew)); exact Kd.R_mono HO_69.out (fun _ hk => trivial)⟩, ⟨by repeat (first | (with_reducible first | exact HB.out | apply below_alloc | apply pw_below_drewN | apply below_drew1 | refine below_set ?_ GE185.out | refine below_set ?_ GE189.out | refine below_set ?_ GE193.out) | exact HB.out)⟩⟩
                                    · replace c46 := Bool.eq_false_iff.mpr c46
                                      subst c46
                                      have H1 : (some false) = some true := by rw [if_neg (show ¬ (false = true) by decide)] at H; exact H
                                      clear H
                                      have H := H1
                                      clear H1
                                      exact absurd H (by simp)
                              · rw [if_neg c38] at H
                                exact absurd H (by simp)
                            · rw [if_neg c37] at H
                              exact absurd H (by simp)
                          · rw [if_neg c36] at H
                            have c36b0 : decide (x71_3 < (y181.length : Int)) = false := decide_eq_false c36
                            clear c36
                            have H' := Aside0.mk H
                            clear H
                            go_wp2
                            go_roundg k3
                            case measure => have := HK1.out; have := HK2.out; have := HK3.out; omega
                            case rel => exact ⟨(wrap64 (x54_2 + 1)), (by first | rfl | (simp; done) | (simp [*]; done)), H', ⟨by have := HK1.out; have := HK2.out; have := HK3.out; omega⟩, ⟨by (with_reducible repeat (first | apply Kd.R_alloc | apply Kd.R_drewN | apply Kd.R_drew)); exact HO_51.out⟩, ⟨by (with_reducible repeat (first | apply Kd.R_alloc | apply Kd.R_drewN | apply Kd.R_drew)); exact HO_52.out⟩, ⟨by repeat (first | (with_reducible first | exact HB.out | apply below_alloc | apply pw_below_drewN | apply below_drew1) | exact HB.out)⟩⟩
                    · rw [if_neg c29] at H
                      exact absurd H (by simp)
                  · rw [if_neg c28] at H
                    exact absurd H (by simp)
                · rw [if_neg c27] at H
                  have c27b0 : decide (x54_2 < 2) = false := decide_eq_false c27
                  clear c27
                  have H' := Aside0.mk H
                  clear H
                  go_wp2
                  go_loopg [25] k2 (fun kq v25 w' => ∃ (x25_3 : Int), v25 = .int .i64 x25_3 ∧ Aside0 (careenlaw19_RouteTells.l3 kq a3 a4 t163 x25_3 = some true) ∧ Aside0 (kq ≤ k2) ∧ Aside0 (Below w.heap.size w w'))
                  case atStart => exact ⟨(0), (by first | rfl | (simp; done) | (simp [*]; done)), H', ⟨Nat.le_refl _⟩, ⟨by repeat (first | (with_reducible first | exact HB.out | apply below_alloc | apply pw_below_drewN | apply below_drew1) | exact HB.out)⟩⟩
                  case round =>
                    clear H'
                    try clear c1
                    try clear p1
                    try clear q1
                    try clear hx1
                    try clear c2
                    try clear p2
                    try clear c3
                    try clear c4
                    try clear c5
                    try clear p6
                    try clear c8
                    try clear c9
                    try clear c9b0
                    try clear c9b1
                    try clear c10
                    try clear c10b0
                    try clear c10b1
                    try clear c11
                    try clear c12
                    try clear c13
                    try clear c14
                    try clear c15
                    try clear c16
                    try clear c16b0
                    try clear p16
                    try clear q16
                    try clear hx16
                    try clear c17
                    try clear c17b0
                    try clear p17
                    try clear q17
                    try clear hx17
                    try clear c18
                    try clear c18b0
                    try clear p18
                    try clear q18
                    try clear hx18
                    try clear c21
                    try clear c21b0
                    try clear c21b1
                    try clear c27
                    try clear c27b0
                    try clear c28
                    try clear c28b0
                    try clear c29
                    try clear c29b0
                    try clear c36
                    try clear c36b0
                    try clear c37
                    try clear c37b0
                    try clear c38
                    try clear c38b0
                    try clear c41
                    try clear c41b0
                    try clear c42
                    try clear c42b0
                    try clear c42b1
                    try clear c42b2
                    try clear c46
                    try clear c51
                    try clear c57
                    try clear c58
                    try clear p64
                    try clear hcz48_0
                    try clear hcz48_1
                    try clear hcz48_2
                    try clear hcz52_0
                    try clear hcz52_1
                    try clear hcz53_0
                    try clear hcz53_1
                    try clear hcz53_2
                    try clear hcz59_0
                    try clear hcz59_1
                    try clear hfz48_0
                    try clear hfz48_1
                    try clear hfz48_2
                    try clear hfz52_0
                    try clear hfz52_1
                    try clear hfz53_0
                    try clear hfz53_1
                    try clear hfz53_2
                    try clear hfz59_0
                    try clear hfz59_1
                    try clear hx168_0
                    try clear hx177_0
                    try clear hx184_0
                    try clear hx184_1
                    try clear hx184_2
                    try clear p1
                    try clear p16
                    try clear p168
                    try clear p17
                    try clear p177
                    try clear p184
                    try clear p2
                    try clear p6
                    try clear q1
                    try clear q16
                    try clear q168
                    try clear q17
                    try clear q177
                    try clear q184
                    obtain ⟨x25_3, rfl, HA, HK3, HB⟩ := hrel
                    cases gk with
                    | zero => cases (show (none : Option _) = some _ from HA.out)
                    | succ k3 =>
                      have H := HA.out
                      clear HA
                      simp only [careenlaw19_RouteTells.l3] at H
                      by_cases c66 : x25_3 < 100
                      · rw [if_pos c66] at H
                        have c66b0 : decide (x25_3 < 100) = true := decide_eq_true c66
                        clear c66
                        replace H := Option.bind_eq_some_iff.mp H
                        obtain ⟨t203, A670, H⟩ := H
                        replace H : ((route_Next.f k3 x25_3 t203).bind fun t204 => ((careenlaw19_pick.f a4 8).bind fun t205 => ((careenref19_Next.f k3 x25_3 t205).bind fun t206 => (if t204 = t206 then (careenlaw19_RouteTells.l3 k3 a3 a4 t163 (wrap64 (x25_3 + 1))) else (some false))))) = some true := H
                        have A67 := Aside0.mk A670
                        clear A670
                        replace H := Option.bind_eq_some_iff.mp H
                        obtain ⟨t204, A680, H⟩ := H
                        replace H : ((careenlaw19_pick.f a4 8).bind fun t205 => ((careenref19_Next.f k3 x25_3 t205).bind fun t206 => (if t204 = t206 then (careenlaw19_RouteTells.l3 k3 a3 a4 t163 (wrap64 (x25_3 + 1))) else (some false)))) = some true := H
                        have A68 := Aside0.mk A680
                        clear A680
                        replace H := Option.bind_eq_some_iff.mp H
                        obtain ⟨t205, A690, H⟩ := H
                        replace H : ((careenref19_Next.f k3 x25_3 t205).bind fun t206 => (if t204 = t206 then (careenlaw19_RouteTells.l3 k3 a3 a4 t163 (wrap64 (x25_3 + 1))) else (some false))) = some true := H
                        have A69 := Aside0.mk A690
                        clear A690
                        obtain rfl : t203 = t205 := Option.some.inj (A67.out.symm.trans A69.out)
                        replace H := Option.bind_eq_some_iff.mp H
                        obtain ⟨t206, A700, H⟩ := H
                        replace H : (if t204 = t206 then (careenlaw19_RouteTells.l3 k3 a3 a4 t163 (wrap64 (x25_3 + 1))) else (some false)) = some true := H
                        have A70 := Aside0.mk A700
                        clear A700
                        by_cases c71 : t204 = t206
                        · rw [if_pos c71] at H
                          have c71b0 : (t204 == t206) = true := beq_iff_eq.mpr c71
                          have c71b1 : (t204 != t206) = false := bne_eq_false_iff_eq.mpr c71
                          clear c71
                          have H' := Aside0.mk H
                          clear H
                          go_wp2_with (first | ((with_reducible refine gate_callee (f := 9) rfl ?_); refine goesL_ (some 125) rfl rfl Try.func9 (by kernel_rfl) rfl #[.int .i64 a4, .int .i64 8] rfl (by (try simp only [List.map_toArray, List.map_cons, List.map_nil]); first | done | rfl | (simp only [List.length_drop, List.length_take]; rfl)) ?_; (with_reducible refine (careenlaw19_pick.calls a4 8 t203 _ A67.out).mono ?_); rintro e w' ⟨rfl, ⟨nd, rfl⟩⟩; refine ⟨_, rfl, ?_⟩) | ((with_reducible refine gate_callee (f := 18) rfl ?_); refine goesL_ (some 126) rfl rfl Try.func18 (by kernel_rfl) rfl #[.int .i64 x25_3, .int .i64 t203] rfl (by (try simp only [List.map_toArray, List.map_cons, List.map_nil]); first | done | rfl | (simp only [List.length_drop, List.length_take]; rfl)) ?_; (with_reducible refine (route_Next.calls k3 x25_3 t203 t204 _ A68.out).mono ?_); rintro e w' ⟨rfl, ⟨nd, rfl⟩⟩; refine ⟨_, rfl, ?_⟩) | ((with_reducible refine gate_callee (f := 9) rfl ?_); refine goesL_ (some 129) rfl rfl Try.func9 (by kernel_rfl) rfl #[.int .i64 a4, .int .i64 8] rfl (by (try simp only [List.map_toArray, List.map_cons, List.map_nil]); first | done | rfl | (simp only [List.length_drop, List.length_take]; rfl)) ?_; (with_reducible refine (careenlaw19_pick.calls a4 8 t203 _ A69.out).mono ?_); rintro e w' ⟨rfl, ⟨nd, rfl⟩⟩; refine ⟨_, rfl, ?_⟩) | ((with_reducible refine gate_callee (f := 19) rfl ?_); refine goesL_ (some 130) rfl rfl Try.func19 (by kernel_rfl) rfl #[.int .i64 x25_3, .int .i64 t203] rfl (by (try simp only [List.map_toArray, List.map_cons, List.map_nil]); first | done | rfl | (simp only [List.length_drop, List.length_take]; rfl)) ?_; (with_reducible refine (careenref19_Next.calls k3 x25_3 t203 t206 _ A70.out).mono ?_); rintro e w72 ⟨rfl, hb⟩; refine ⟨_, rfl, ?_⟩; have n0_ := Aside0.mk (below_step (by repeat (first | (with_reducible first | exact HB.out | apply below_alloc | apply pw_below_drewN | apply below_drew1) | exact HB.out)) hb); clear HB; have HB := n0_; clear n0_; (try clear hb); (try clear hb2); (try clear hk); (try clear hi)))
                          go_roundg k3
                          case measure => have := HK1.out; have := HK2.out; have := HK3.out; omega
                          case rel => exact ⟨(wrap64 (x25_3 + 1)), (by first | rfl | (simp; done) | (simp [*]; done)), H', ⟨by have := HK1.out; have := HK2.out; have := HK3.out; omega⟩, ⟨by repeat (first | (with_reducible first | exact HB.out | apply below_alloc | apply pw_below_drewN | apply below_drew1) | exact HB.out)⟩⟩
                        · rw [if_neg c71] at H
                          have c71b0 : (t204 == t206) = false := beq_eq_false_iff_ne.mpr c71
                          have c71b1 : (t204 != t206) = true := bne_iff_ne.mpr c71
                          exact absurd H (by simp)
                      · rw [if_neg c66] at H
                        have c66b0 : decide (x25_3 < 100) = false := decide_eq_false c66
                        clear c66
                        by_cases c73 : t163 = true
                        · subst c73
                          have H1 : ((route_Next.f k3 a3 a4).bind fun t201 => ((careenref19_Next.f k3 a3 a4).bind fun t202 => (some (t201 == t202)))) = some true := by rw [if_pos rfl] at H; exact H
                          clear H
                          have H := H1
                          clear H1
                          replace H := Option.bind_eq_some_iff.mp H
                          obtain ⟨t201, A740, H⟩ := H
                          replace H : ((careenref19_Next.f k3 a3 a4).bind fun t202 => (some (t201 == t202))) = some true := H
                          have A74 := Aside0.mk A740
                          clear A740
                          replace H := Option.bind_eq_some_iff.mp H
                          obtain ⟨t202, A750, H⟩ := H
                          replace H : (some (t201 == t202)) = some true := H
                          have A75 := Aside0.mk A750
                          clear A750
                          have HV_ := Aside0.mk (Option.some.inj H)
                          clear H
                          go_wp2_with (first | (go_at_call 18; (with_reducible refine (route_Next.calls k3 a3 a4 t201 _ A74.out).mono ?_); rintro e w' ⟨rfl, ⟨nd, rfl⟩⟩) | (go_at_call 19; (with_reducible refine (careenref19_Next.calls k3 a3 a4 t202 _ A75.out).mono ?_); rintro e w76 ⟨rfl, hb⟩; have n0_ := Aside0.mk (below_step (by repeat (first | (with_reducible first | exact HB.out | apply below_alloc | apply pw_below_drewN | apply below_drew1) | exact HB.out)) hb); clear HB; have HB := n0_; clear n0_; (try clear hb); (try clear hb2); (try clear hk); (try clear hi)))
                          go_ret
                          exact ⟨by first | exact congrArg (fun b_ => Ending.returned (Value.bool b_)) HV_.out | (have hv_ := HV_.out; simp only [Bool.and_eq_true, beq_iff_eq] at hv_; simp [hv_]; done) | (have hv_ := HV_.out; simp at hv_; simp [*]; done) | rfl | (simp [errW_none, errW_some] <;> rfl) | (simp only [← hji8]; first | rfl | (simp [errW_none, errW_some] <;> rfl)) | (simp [*, errW_none, errW_some] <;> rfl), by repeat (first | (with_reducible first | exact HB.out | apply below_alloc | apply pw_below_drewN | apply below_drew1) | exact HB.out)⟩
                        · replace c73 := Bool.eq_false_iff.mpr c73
                          subst c73
                          have H1 : (some false) = some true := by rw [if_neg (show ¬ (false = true) by decide)] at H; exact H
                          clear H
                          have H := H1
                          clear H1
                          exact absurd H (by simp)
    · rw [if_neg c10] at H
      exact absurd H (by simp)
  · rw [if_neg c9] at H
    exact absurd H (by simp)

/-- THE ONE PURE STATEMENT of careenlaw19_RouteTells. -/
def careenlaw19_RouteTells.Pure : Prop := ∀ (a0 : ByteArray) (l1 : List (S32)) (l2 : List (S30)) (a3 : Int) (a4 : Int) (a5 : Int), a0.size ≤ 140737488351232 → l1.length * 16 ≤ 140737488351232 → (∀ x ∈ l1, (Lit.int .i64 x.f0).wf = true ∧ (Lit.int .i64 x.f1).wf = true) → l2.length * 24 ≤ 140737488351232 → (∀ x ∈ l2, (Lit.int .i64 x.f0).wf = true ∧ (Lit.int .i64 x.f1).wf = true ∧ (Lit.int .i64 x.f2).wf = true) → (Lit.int .i64 a3).wf = true → (Lit.int .i64 a4).wf = true → (Lit.int .i64 a5).wf = true → ∃ k, careenlaw19_RouteTells.f k a0 l1 l2 a3 a4 a5 = some true

end Go.Proofs.Ytpkcofmoplnahaa.PAll
