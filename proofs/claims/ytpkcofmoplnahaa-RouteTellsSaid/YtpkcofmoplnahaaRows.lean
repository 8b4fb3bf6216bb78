/-
  No cell of these rows narrows 'for every input' (looked for: loops, veiled, ifaces, maps, wideKeys, modest, calm, conditions, laid).
  DERIVED. THE GIVEN ROWS OF THIS SEAT. 5 by the template 'for every input the law returns true; each argument reads behind the call as it read before'; 0 by the template 'total and deterministic' (their statements: YtpkcofmoplnahaaTotals.lean).
  GIVEN WITH THE SEED: the statements are not yours to turn. If you find one false, say at which input.
  Laid BY PROGRAM, IN A SANDBOX (cutbox-rows.mjs): the forced cells as the released guide's own fill.sh prints them over the translation dd0c80d6c97acd84… (all of the seat's roots in one cut). By AI agents, Wed Nov 11 2026. No macro, syntax, notation, axiom, sorry.
-/
import Derived.Test.YtpkcofmoplnahaaChecked
import GoSem.Claim
import GoSem.ClaimJoined
import GoSem.ClaimMapViews
import Derived.JoinedTies
import Derived.KernelRfl
namespace Go.Proofs.Ytpkcofmoplnahaa
/- THE CELL 'sum', in the pinned program and in every row, IS THE sha256 OF THE DUMP (.gsa) THAT YtpkcofmoplnahaaProg.lean LOADS. Nothing in Lean hashes anything: it is a label: what it is worth is what the hold of that sum in a sandbox is worth. -/
noncomputable def Try.pinned : Pinned := { name := "ytpkcofmoplnahaa", sum := "dd0c80d6c97acd84b56c92d018159047229107367696e4b4aff0730982461c36", checked := Try.checked }
namespace Rows
def none {H : Type} : Left H := { results := [], args := [] }

/-- 'careenlaw19.RouteTells': WHATEVER THE INPUT: true; the input reads as it did. -/
def routeTellsSpec : ChangeSpec := { name := "routeTells", fn := fun _ => fun
  | [d1, d2, d3, d4, d5, d6] => { results := [.lit (.bool true)], args := [d1, d2, d3, d4, d5, d6] }
  | _ => none }
def routeTellsRow : OpenClaim := { program := "ytpkcofmoplnahaa", sum := "dd0c80d6c97acd84b56c92d018159047229107367696e4b4aff0730982461c36", func := "careen/careenlaw19.RouteTells", spec := "routeTells", apart := false }
def RouteTellsSaid : Prop := routeTellsRow.holds Try.pinned (OpenSpec.ofChange routeTellsSpec)

/-- ITS FALSE NEIGHBOUR: 'it returns false'. Refute it at one input. -/
def routeTellsWrong : ChangeSpec := { name := "routeTells", fn := fun _ => fun
  | [d1, d2, d3, d4, d5, d6] => { results := [.lit (.bool false)], args := [d1, d2, d3, d4, d5, d6] }
  | _ => none }
def RouteTellsWrongFalsely : Prop := routeTellsRow.holds Try.pinned (OpenSpec.ofChange routeTellsWrong)

/-- 'careenlaw19.RouteKeys': WHATEVER THE INPUT: true; the input reads as it did. -/
def routeKeysSpec : ChangeSpec := { name := "routeKeys", fn := fun _ => fun
  | [d1, d2] => { results := [.lit (.bool true)], args := [d1, d2] }
  | _ => none }
def routeKeysRow : OpenClaim := { program := "ytpkcofmoplnahaa", sum := "dd0c80d6c97acd84b56c92d018159047229107367696e4b4aff0730982461c36", func := "careen/careenlaw19.RouteKeys", spec := "routeKeys", apart := false }
def RouteKeysSaid : Prop := routeKeysRow.holds Try.pinned (OpenSpec.ofChange routeKeysSpec)

/-- ITS FALSE NEIGHBOUR: 'it returns false'. Refute it at one input. -/
def routeKeysWrong : ChangeSpec := { name := "routeKeys", fn := fun _ => fun
  | [d1, d2] => { results := [.lit (.bool false)], args := [d1, d2] }
  | _ => none }
def RouteKeysWrongFalsely : Prop := routeKeysRow.holds Try.pinned (OpenSpec.ofChange routeKeysWrong)

/-- 'careenlaw19.RouteLatest': WHATEVER THE INPUT: true; the input reads as it did. -/
def routeLatestSpec : ChangeSpec := { name := "routeLatest", fn := fun _ => fun
  | [d1, d2] => { results := [.lit (.bool true)], args := [d1, d2] }
  | _ => none }
def routeLatestRow : OpenClaim := { program := "ytpkcofmoplnahaa", sum := "dd0c80d6c97acd84b56c92d018159047229107367696e4b4aff0730982461c36", func := "careen/careenlaw19.RouteLatest", spec := "routeLatest", apart := false }
def RouteLatestSaid : Prop := routeLatestRow.holds Try.pinned (OpenSpec.ofChange routeLatestSpec)

/-- ITS FALSE NEIGHBOUR: 'it returns false'. Refute it at one input. -/
def routeLatestWrong : ChangeSpec := { name := "routeLatest", fn := fun _ => fun
  | [d1, d2] => { results := [.lit (.bool false)], args := [d1, d2] }
  | _ => none }
def RouteLatestWrongFalsely : Prop := routeLatestRow.holds Try.pinned (OpenSpec.ofChange routeLatestWrong)

/-- 'careenlaw19.RouteEnds': WHATEVER THE INPUT: true; the input reads as it did. -/
def routeEndsSpec : ChangeSpec := { name := "routeEnds", fn := fun _ => fun
  | [d] => { results := [.lit (.bool true)], args := [d] }
  | _ => none }
def routeEndsRow : OpenClaim := { program := "ytpkcofmoplnahaa", sum := "dd0c80d6c97acd84b56c92d018159047229107367696e4b4aff0730982461c36", func := "careen/careenlaw19.RouteEnds", spec := "routeEnds", apart := false }
def RouteEndsSaid : Prop := routeEndsRow.holds Try.pinned (OpenSpec.ofChange routeEndsSpec)

/-- ITS FALSE NEIGHBOUR: 'it returns false'. Refute it at one input. -/
def routeEndsWrong : ChangeSpec := { name := "routeEnds", fn := fun _ => fun
  | [d] => { results := [.lit (.bool false)], args := [d] }
  | _ => none }
def RouteEndsWrongFalsely : Prop := routeEndsRow.holds Try.pinned (OpenSpec.ofChange routeEndsWrong)

/-- 'careenlaw19.RouteApart': WHATEVER THE INPUT: true; the input reads as it did. -/
def routeApartSpec : ChangeSpec := { name := "routeApart", fn := fun _ => fun
  | [d1, d2, d3, d4] => { results := [.lit (.bool true)], args := [d1, d2, d3, d4] }
  | _ => none }
def routeApartRow : OpenClaim := { program := "ytpkcofmoplnahaa", sum := "dd0c80d6c97acd84b56c92d018159047229107367696e4b4aff0730982461c36", func := "careen/careenlaw19.RouteApart", spec := "routeApart", apart := false }
def RouteApartSaid : Prop := routeApartRow.holds Try.pinned (OpenSpec.ofChange routeApartSpec)

/-- ITS FALSE NEIGHBOUR: 'it returns false'. Refute it at one input. -/
def routeApartWrong : ChangeSpec := { name := "routeApart", fn := fun _ => fun
  | [d1, d2, d3, d4] => { results := [.lit (.bool false)], args := [d1, d2, d3, d4] }
  | _ => none }
def RouteApartWrongFalsely : Prop := routeApartRow.holds Try.pinned (OpenSpec.ofChange routeApartWrong)

/- THE SECOND FORM. 'bulk': how many values and letters a reading holds, each counted each time it is reached (what is shared counts as often as it is met; a slice's spare places count too). A statement '..UptoSaid' is the law's where the arguments, and the package variables that the reading takes, are together of bulk at most 1048576: NARROWER than '..Said'. Prove '..Said' where nothing that the law and all that it calls make is longer than what came in: it says more and counts as full. Else prove '..UptoSaid'. A law counts once. -/
mutual
def uptoBulk {H : Type} : DataW H → Nat
  | .lit (.string bytes) => bytes.length + 1
  | .lit _ => 1
  | .nil => 1
  | .ptr d => uptoBulk d + 1
  | .slice elems spare => uptoBulkAll elems + uptoBulkAll spare + 1
  | .agg parts => uptoBulkAll parts + 1
  | .iface _ d => uptoBulk d + 1
  | .map entries => uptoBulkEntries entries + 1
  | .held _ => 1
def uptoBulkAll {H : Type} : List (DataW H) → Nat
  | [] => 0
  | d :: r => uptoBulk d + uptoBulkAll r
def uptoBulkEntries {H : Type} : List (Lit × DataW H) → Nat
  | [] => 0
  | x :: r => uptoBulkEntry x + uptoBulkEntries r
def uptoBulkEntry {H : Type} : Lit × DataW H → Nat
  | (.string bytes, d) => bytes.length + uptoBulk d + 1
  | (_, d) => uptoBulk d + 1
 end
def uptoSmall : (H : Type) → List (DataW H) → Bool := fun _ ds => decide (uptoBulkAll ds ≤ 1048576)
def OpenSpec.upto (s : _root_.Go.ChangeSpec) : _root_.Go.OpenSpec := { _root_.Go.OpenSpec.ofChange s with cond := some uptoSmall }

/-- 'careenlaw19.RouteTells', WHERE WHAT IT READS IS OF BULK AT MOST 1048576: true; the input reads as it did. -/
def routeTellsUptoRow : OpenClaim := { program := "ytpkcofmoplnahaa", sum := "dd0c80d6c97acd84b56c92d018159047229107367696e4b4aff0730982461c36", func := "careen/careenlaw19.RouteTells", spec := "routeTells", apart := false, narrowed := true }
def RouteTellsUptoSaid : Prop := routeTellsUptoRow.holds Try.pinned (OpenSpec.upto routeTellsSpec)

/-- 'careenlaw19.RouteKeys', WHERE WHAT IT READS IS OF BULK AT MOST 1048576: true; the input reads as it did. -/
def routeKeysUptoRow : OpenClaim := { program := "ytpkcofmoplnahaa", sum := "dd0c80d6c97acd84b56c92d018159047229107367696e4b4aff0730982461c36", func := "careen/careenlaw19.RouteKeys", spec := "routeKeys", apart := false, narrowed := true }
def RouteKeysUptoSaid : Prop := routeKeysUptoRow.holds Try.pinned (OpenSpec.upto routeKeysSpec)

/-- 'careenlaw19.RouteLatest', WHERE WHAT IT READS IS OF BULK AT MOST 1048576: true; the input reads as it did. -/
def routeLatestUptoRow : OpenClaim := { program := "ytpkcofmoplnahaa", sum := "dd0c80d6c97acd84b56c92d018159047229107367696e4b4aff0730982461c36", func := "careen/careenlaw19.RouteLatest", spec := "routeLatest", apart := false, narrowed := true }
def RouteLatestUptoSaid : Prop := routeLatestUptoRow.holds Try.pinned (OpenSpec.upto routeLatestSpec)

/-- 'careenlaw19.RouteEnds', WHERE WHAT IT READS IS OF BULK AT MOST 1048576: true; the input reads as it did. -/
def routeEndsUptoRow : OpenClaim := { program := "ytpkcofmoplnahaa", sum := "dd0c80d6c97acd84b56c92d018159047229107367696e4b4aff0730982461c36", func := "careen/careenlaw19.RouteEnds", spec := "routeEnds", apart := false, narrowed := true }
def RouteEndsUptoSaid : Prop := routeEndsUptoRow.holds Try.pinned (OpenSpec.upto routeEndsSpec)

/-- 'careenlaw19.RouteApart', WHERE WHAT IT READS IS OF BULK AT MOST 1048576: true; the input reads as it did. -/
def routeApartUptoRow : OpenClaim := { program := "ytpkcofmoplnahaa", sum := "dd0c80d6c97acd84b56c92d018159047229107367696e4b4aff0730982461c36", func := "careen/careenlaw19.RouteApart", spec := "routeApart", apart := false, narrowed := true }
def RouteApartUptoSaid : Prop := routeApartUptoRow.holds Try.pinned (OpenSpec.upto routeApartSpec)

end Rows
end Go.Proofs.Ytpkcofmoplnahaa
