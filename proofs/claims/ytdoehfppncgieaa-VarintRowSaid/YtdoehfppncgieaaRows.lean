/-
  No cell of these rows narrows 'for every input' (looked for: loops, veiled, ifaces, maps, wideKeys, modest, calm, conditions, laid).
  DERIVED. THE GIVEN ROWS OF THIS SEAT. 6 by the template 'for every input the law returns true; each argument reads behind the call as it read before'; 0 by the template 'total and deterministic' (their statements: YtdoehfppncgieaaTotals.lean).
  GIVEN WITH THE SEED: the statements are not yours to turn. If you find one false, say at which input.
  Laid BY PROGRAM, IN A SANDBOX (cutbox-rows.mjs): the forced cells as the released guide's own fill.sh prints them over the translation e0acd784931fca22… (all of the seat's roots in one cut). By AI agents, Wed Nov 11 2026. No macro, syntax, notation, axiom, sorry.
-/
import Derived.Test.YtdoehfppncgieaaChecked
import GoSem.Claim
import GoSem.ClaimJoined
import GoSem.ClaimMapViews
import Derived.JoinedTies
import Derived.KernelRfl
namespace Go.Proofs.Ytdoehfppncgieaa
/- THE CELL 'sum', in the pinned program and in every row, IS THE sha256 OF THE DUMP (.gsa) THAT YtdoehfppncgieaaProg.lean LOADS. Nothing in Lean hashes anything: it is a label: what it is worth is what the hold of that sum in a sandbox is worth. -/
noncomputable def Try.pinned : Pinned := { name := "ytdoehfppncgieaa", sum := "e0acd784931fca22cf4720498ebaa1c1057b3de0581eeb0cd641acc3c6ebad98", checked := Try.checked }
namespace Rows
def none {H : Type} : Left H := { results := [], args := [] }

/-- 'careenlaw01.VarintTells': WHATEVER THE INPUT: true; the input reads as it did. -/
def varintTellsSpec : ChangeSpec := { name := "varintTells", fn := fun _ => fun
  | [d1, d2, d3, d4] => { results := [.lit (.bool true)], args := [d1, d2, d3, d4] }
  | _ => none }
def varintTellsRow : OpenClaim := { program := "ytdoehfppncgieaa", sum := "e0acd784931fca22cf4720498ebaa1c1057b3de0581eeb0cd641acc3c6ebad98", func := "careen/careenlaw01.VarintTells", spec := "varintTells", unfollowed := true, recurses := true, apart := false }
def VarintTellsSaid : Prop := varintTellsRow.holds Try.pinned (OpenSpec.ofChange varintTellsSpec)

/-- ITS FALSE NEIGHBOUR: 'it returns false'. Refute it at one input. -/
def varintTellsWrong : ChangeSpec := { name := "varintTells", fn := fun _ => fun
  | [d1, d2, d3, d4] => { results := [.lit (.bool false)], args := [d1, d2, d3, d4] }
  | _ => none }
def VarintTellsWrongFalsely : Prop := varintTellsRow.holds Try.pinned (OpenSpec.ofChange varintTellsWrong)

/-- 'careenlaw01.VarintBack': WHATEVER THE INPUT: true; the input reads as it did. -/
def varintBackSpec : ChangeSpec := { name := "varintBack", fn := fun _ => fun
  | [d1, d2, d3] => { results := [.lit (.bool true)], args := [d1, d2, d3] }
  | _ => none }
def varintBackRow : OpenClaim := { program := "ytdoehfppncgieaa", sum := "e0acd784931fca22cf4720498ebaa1c1057b3de0581eeb0cd641acc3c6ebad98", func := "careen/careenlaw01.VarintBack", spec := "varintBack", unfollowed := true, recurses := true, apart := false }
def VarintBackSaid : Prop := varintBackRow.holds Try.pinned (OpenSpec.ofChange varintBackSpec)

/-- ITS FALSE NEIGHBOUR: 'it returns false'. Refute it at one input. -/
def varintBackWrong : ChangeSpec := { name := "varintBack", fn := fun _ => fun
  | [d1, d2, d3] => { results := [.lit (.bool false)], args := [d1, d2, d3] }
  | _ => none }
def VarintBackWrongFalsely : Prop := varintBackRow.holds Try.pinned (OpenSpec.ofChange varintBackWrong)

/-- 'careenlaw01.VarintForth': WHATEVER THE INPUT: true; the input reads as it did. -/
def varintForthSpec : ChangeSpec := { name := "varintForth", fn := fun _ => fun
  | [d] => { results := [.lit (.bool true)], args := [d] }
  | _ => none }
def varintForthRow : OpenClaim := { program := "ytdoehfppncgieaa", sum := "e0acd784931fca22cf4720498ebaa1c1057b3de0581eeb0cd641acc3c6ebad98", func := "careen/careenlaw01.VarintForth", spec := "varintForth", unfollowed := true, recurses := true, apart := false }
def VarintForthSaid : Prop := varintForthRow.holds Try.pinned (OpenSpec.ofChange varintForthSpec)

/-- ITS FALSE NEIGHBOUR: 'it returns false'. Refute it at one input. -/
def varintForthWrong : ChangeSpec := { name := "varintForth", fn := fun _ => fun
  | [d] => { results := [.lit (.bool false)], args := [d] }
  | _ => none }
def VarintForthWrongFalsely : Prop := varintForthRow.holds Try.pinned (OpenSpec.ofChange varintForthWrong)

/-- 'careenlaw01.VarintUnlike': WHATEVER THE INPUT: true; the input reads as it did. -/
def varintUnlikeSpec : ChangeSpec := { name := "varintUnlike", fn := fun _ => fun
  | [d1, d2] => { results := [.lit (.bool true)], args := [d1, d2] }
  | _ => none }
def varintUnlikeRow : OpenClaim := { program := "ytdoehfppncgieaa", sum := "e0acd784931fca22cf4720498ebaa1c1057b3de0581eeb0cd641acc3c6ebad98", func := "careen/careenlaw01.VarintUnlike", spec := "varintUnlike", unfollowed := true, recurses := true, apart := false }
def VarintUnlikeSaid : Prop := varintUnlikeRow.holds Try.pinned (OpenSpec.ofChange varintUnlikeSpec)

/-- ITS FALSE NEIGHBOUR: 'it returns false'. Refute it at one input. -/
def varintUnlikeWrong : ChangeSpec := { name := "varintUnlike", fn := fun _ => fun
  | [d1, d2] => { results := [.lit (.bool false)], args := [d1, d2] }
  | _ => none }
def VarintUnlikeWrongFalsely : Prop := varintUnlikeRow.holds Try.pinned (OpenSpec.ofChange varintUnlikeWrong)

/-- 'careenlaw01.VarintRow': WHATEVER THE INPUT: true; the input reads as it did. -/
def varintRowSpec : ChangeSpec := { name := "varintRow", fn := fun _ => fun
  | [d] => { results := [.lit (.bool true)], args := [d] }
  | _ => none }
def varintRowRow : OpenClaim := { program := "ytdoehfppncgieaa", sum := "e0acd784931fca22cf4720498ebaa1c1057b3de0581eeb0cd641acc3c6ebad98", func := "careen/careenlaw01.VarintRow", spec := "varintRow", unfollowed := true, recurses := true, apart := false }
def VarintRowSaid : Prop := varintRowRow.holds Try.pinned (OpenSpec.ofChange varintRowSpec)

/-- ITS FALSE NEIGHBOUR: 'it returns false'. Refute it at one input. -/
def varintRowWrong : ChangeSpec := { name := "varintRow", fn := fun _ => fun
  | [d] => { results := [.lit (.bool false)], args := [d] }
  | _ => none }
def VarintRowWrongFalsely : Prop := varintRowRow.holds Try.pinned (OpenSpec.ofChange varintRowWrong)

/-- 'careenlaw01.VarintSize': WHATEVER THE INPUT: true; the input reads as it did. -/
def varintSizeSpec : ChangeSpec := { name := "varintSize", fn := fun _ => fun
  | [d1, d2] => { results := [.lit (.bool true)], args := [d1, d2] }
  | _ => none }
def varintSizeRow : OpenClaim := { program := "ytdoehfppncgieaa", sum := "e0acd784931fca22cf4720498ebaa1c1057b3de0581eeb0cd641acc3c6ebad98", func := "careen/careenlaw01.VarintSize", spec := "varintSize", unfollowed := true, recurses := true, apart := false }
def VarintSizeSaid : Prop := varintSizeRow.holds Try.pinned (OpenSpec.ofChange varintSizeSpec)

/-- ITS FALSE NEIGHBOUR: 'it returns false'. Refute it at one input. -/
def varintSizeWrong : ChangeSpec := { name := "varintSize", fn := fun _ => fun
  | [d1, d2] => { results := [.lit (.bool false)], args := [d1, d2] }
  | _ => none }
def VarintSizeWrongFalsely : Prop := varintSizeRow.holds Try.pinned (OpenSpec.ofChange varintSizeWrong)

/- THE SECOND FORM. 'bulk': how many values and letters a reading holds, each counted each time it is reached (what is shared counts as often as it is met; a slice's spare places count too). A statement '..UptoSaid' is the law's where the arguments, and the package variables that the reading takes, are together of bulk at most 1048576: NARROWER than '..Said'. Prove '..Said' where nothing that the law and all that it calls make is longer than what came in: it says more and counts as full. Else prove '..UptoSaid'. A law counts once. -/
mutual
def uptoBulk {H : Type} : DataW H → Nat
  | .lit (.string bytes) => bytes.length + 1
  | .lit _ => 1
  | .nil => 1
  | .ptr d => uptoBulk d + 1
  | .slice elems spare => uptoBulkAll elems + uptoBulkAll spare + 1
  | .agg parts => uptoBulkAll parts + 1
  | .iface _ d => uptoBulk d + 1
  | .map entries => uptoBulkEntries entries + 1
  | .held _ => 1
def uptoBulkAll {H : Type} : List (DataW H) → Nat
  | [] => 0
  | d :: r => uptoBulk d + uptoBulkAll r
def uptoBulkEntries {H : Type} : List (Lit × DataW H) → Nat
  | [] => 0
  | x :: r => uptoBulkEntry x + uptoBulkEntries r
def uptoBulkEntry {H : Type} : Lit × DataW H → Nat
  | (.string bytes, d) => bytes.length + uptoBulk d + 1
  | (_, d) => uptoBulk d + 1
 end
def uptoSmall : (H : Type) → List (DataW H) → Bool := fun _ ds => decide (uptoBulkAll ds ≤ 1048576)
def OpenSpec.upto (s : _root_.Go.ChangeSpec) : _root_.Go.OpenSpec := { _root_.Go.OpenSpec.ofChange s with cond := some uptoSmall }

/-- 'careenlaw01.VarintTells', WHERE WHAT IT READS IS OF BULK AT MOST 1048576: true; the input reads as it did. -/
def varintTellsUptoRow : OpenClaim := { program := "ytdoehfppncgieaa", sum := "e0acd784931fca22cf4720498ebaa1c1057b3de0581eeb0cd641acc3c6ebad98", func := "careen/careenlaw01.VarintTells", spec := "varintTells", unfollowed := true, recurses := true, apart := false, narrowed := true }
def VarintTellsUptoSaid : Prop := varintTellsUptoRow.holds Try.pinned (OpenSpec.upto varintTellsSpec)

/-- 'careenlaw01.VarintBack', WHERE WHAT IT READS IS OF BULK AT MOST 1048576: true; the input reads as it did. -/
def varintBackUptoRow : OpenClaim := { program := "ytdoehfppncgieaa", sum := "e0acd784931fca22cf4720498ebaa1c1057b3de0581eeb0cd641acc3c6ebad98", func := "careen/careenlaw01.VarintBack", spec := "varintBack", unfollowed := true, recurses := true, apart := false, narrowed := true }
def VarintBackUptoSaid : Prop := varintBackUptoRow.holds Try.pinned (OpenSpec.upto varintBackSpec)

/-- 'careenlaw01.VarintForth', WHERE WHAT IT READS IS OF BULK AT MOST 1048576: true; the input reads as it did. -/
def varintForthUptoRow : OpenClaim := { program := "ytdoehfppncgieaa", sum := "e0acd784931fca22cf4720498ebaa1c1057b3de0581eeb0cd641acc3c6ebad98", func := "careen/careenlaw01.VarintForth", spec := "varintForth", unfollowed := true, recurses := true, apart := false, narrowed := true }
def VarintForthUptoSaid : Prop := varintForthUptoRow.holds Try.pinned (OpenSpec.upto varintForthSpec)

/-- 'careenlaw01.VarintUnlike', WHERE WHAT IT READS IS OF BULK AT MOST 1048576: true; the input reads as it did. -/
def varintUnlikeUptoRow : OpenClaim := { program := "ytdoehfppncgieaa", sum := "e0acd784931fca22cf4720498ebaa1c1057b3de0581eeb0cd641acc3c6ebad98", func := "careen/careenlaw01.VarintUnlike", spec := "varintUnlike", unfollowed := true, recurses := true, apart := false, narrowed := true }
def VarintUnlikeUptoSaid : Prop := varintUnlikeUptoRow.holds Try.pinned (OpenSpec.upto varintUnlikeSpec)

/-- 'careenlaw01.VarintRow', WHERE WHAT IT READS IS OF BULK AT MOST 1048576: true; the input reads as it did. -/
def varintRowUptoRow : OpenClaim := { program := "ytdoehfppncgieaa", sum := "e0acd784931fca22cf4720498ebaa1c1057b3de0581eeb0cd641acc3c6ebad98", func := "careen/careenlaw01.VarintRow", spec := "varintRow", unfollowed := true, recurses := true, apart := false, narrowed := true }
def VarintRowUptoSaid : Prop := varintRowUptoRow.holds Try.pinned (OpenSpec.upto varintRowSpec)

/-- 'careenlaw01.VarintSize', WHERE WHAT IT READS IS OF BULK AT MOST 1048576: true; the input reads as it did. -/
def varintSizeUptoRow : OpenClaim := { program := "ytdoehfppncgieaa", sum := "e0acd784931fca22cf4720498ebaa1c1057b3de0581eeb0cd641acc3c6ebad98", func := "careen/careenlaw01.VarintSize", spec := "varintSize", unfollowed := true, recurses := true, apart := false, narrowed := true }
def VarintSizeUptoSaid : Prop := varintSizeUptoRow.holds Try.pinned (OpenSpec.upto varintSizeSpec)

end Rows
end Go.Proofs.Ytdoehfppncgieaa
