/-
  No cell of these rows narrows 'for every input' (looked for: loops, veiled, ifaces, maps, wideKeys, modest, calm, conditions, laid).
  DERIVED. THE GIVEN ROWS OF THIS SEAT. 5 by the template 'for every input the law returns true; each argument reads behind the call as it read before'; 0 by the template 'total and deterministic' (their statements: YthfhoccghbdciaaTotals.lean).
  GIVEN WITH THE SEED: the statements are not yours to turn. If you find one false, say at which input.
  Laid BY PROGRAM, IN A SANDBOX (cutbox-rows.mjs): the forced cells as the released guide's own fill.sh prints them over the translation 44be9f0bdb75b28f… (all of the seat's roots in one cut). By AI agents, Wed Nov 11 2026. No macro, syntax, notation, axiom, sorry.
-/
import Derived.Test.YthfhoccghbdciaaChecked
import GoSem.Claim
import GoSem.ClaimJoined
import GoSem.ClaimMapViews
import Derived.JoinedTies
import Derived.KernelRfl
namespace Go.Proofs.Ythfhoccghbdciaa
/- THE CELL 'sum', in the pinned program and in every row, IS THE sha256 OF THE DUMP (.gsa) THAT YthfhoccghbdciaaProg.lean LOADS. Nothing in Lean hashes anything: it is a label: what it is worth is what the hold of that sum in a sandbox is worth. -/
noncomputable def Try.pinned : Pinned := { name := "ythfhoccghbdciaa", sum := "44be9f0bdb75b28f0148a88f4cd4cd86617703dcf46fd5fcca5d3cd1b18ac4d6", checked := Try.checked }
namespace Rows
def none {H : Type} : Left H := { results := [], args := [] }

/-- 'careenlaw09.NegoTells': WHATEVER THE INPUT: true; the input reads as it did. -/
def negoTellsSpec : ChangeSpec := { name := "negoTells", fn := fun _ => fun
  | [d1, d2, d3, d4, d5] => { results := [.lit (.bool true)], args := [d1, d2, d3, d4, d5] }
  | _ => none }
def negoTellsRow : OpenClaim := { program := "ythfhoccghbdciaa", sum := "44be9f0bdb75b28f0148a88f4cd4cd86617703dcf46fd5fcca5d3cd1b18ac4d6", func := "careen/careenlaw09.NegoTells", spec := "negoTells", apart := false }
def NegoTellsSaid : Prop := negoTellsRow.holds Try.pinned (OpenSpec.ofChange negoTellsSpec)

/-- ITS FALSE NEIGHBOUR: 'it returns false'. Refute it at one input. -/
def negoTellsWrong : ChangeSpec := { name := "negoTells", fn := fun _ => fun
  | [d1, d2, d3, d4, d5] => { results := [.lit (.bool false)], args := [d1, d2, d3, d4, d5] }
  | _ => none }
def NegoTellsWrongFalsely : Prop := negoTellsRow.holds Try.pinned (OpenSpec.ofChange negoTellsWrong)

/-- 'careenlaw09.NegoBoth': WHATEVER THE INPUT: true; the input reads as it did. -/
def negoBothSpec : ChangeSpec := { name := "negoBoth", fn := fun _ => fun
  | [d] => { results := [.lit (.bool true)], args := [d] }
  | _ => none }
def negoBothRow : OpenClaim := { program := "ythfhoccghbdciaa", sum := "44be9f0bdb75b28f0148a88f4cd4cd86617703dcf46fd5fcca5d3cd1b18ac4d6", func := "careen/careenlaw09.NegoBoth", spec := "negoBoth", apart := false }
def NegoBothSaid : Prop := negoBothRow.holds Try.pinned (OpenSpec.ofChange negoBothSpec)

/-- ITS FALSE NEIGHBOUR: 'it returns false'. Refute it at one input. -/
def negoBothWrong : ChangeSpec := { name := "negoBoth", fn := fun _ => fun
  | [d] => { results := [.lit (.bool false)], args := [d] }
  | _ => none }
def NegoBothWrongFalsely : Prop := negoBothRow.holds Try.pinned (OpenSpec.ofChange negoBothWrong)

/-- 'careenlaw09.NegoMore': WHATEVER THE INPUT: true; the input reads as it did. -/
def negoMoreSpec : ChangeSpec := { name := "negoMore", fn := fun _ => fun
  | [d1, d2] => { results := [.lit (.bool true)], args := [d1, d2] }
  | _ => none }
def negoMoreRow : OpenClaim := { program := "ythfhoccghbdciaa", sum := "44be9f0bdb75b28f0148a88f4cd4cd86617703dcf46fd5fcca5d3cd1b18ac4d6", func := "careen/careenlaw09.NegoMore", spec := "negoMore", apart := false }
def NegoMoreSaid : Prop := negoMoreRow.holds Try.pinned (OpenSpec.ofChange negoMoreSpec)

/-- ITS FALSE NEIGHBOUR: 'it returns false'. Refute it at one input. -/
def negoMoreWrong : ChangeSpec := { name := "negoMore", fn := fun _ => fun
  | [d1, d2] => { results := [.lit (.bool false)], args := [d1, d2] }
  | _ => none }
def NegoMoreWrongFalsely : Prop := negoMoreRow.holds Try.pinned (OpenSpec.ofChange negoMoreWrong)

/-- 'careenlaw09.NegoGate': WHATEVER THE INPUT: true; the input reads as it did. -/
def negoGateSpec : ChangeSpec := { name := "negoGate", fn := fun _ => fun
  | [d1, d2] => { results := [.lit (.bool true)], args := [d1, d2] }
  | _ => none }
def negoGateRow : OpenClaim := { program := "ythfhoccghbdciaa", sum := "44be9f0bdb75b28f0148a88f4cd4cd86617703dcf46fd5fcca5d3cd1b18ac4d6", func := "careen/careenlaw09.NegoGate", spec := "negoGate", apart := false }
def NegoGateSaid : Prop := negoGateRow.holds Try.pinned (OpenSpec.ofChange negoGateSpec)

/-- ITS FALSE NEIGHBOUR: 'it returns false'. Refute it at one input. -/
def negoGateWrong : ChangeSpec := { name := "negoGate", fn := fun _ => fun
  | [d1, d2] => { results := [.lit (.bool false)], args := [d1, d2] }
  | _ => none }
def NegoGateWrongFalsely : Prop := negoGateRow.holds Try.pinned (OpenSpec.ofChange negoGateWrong)

/-- 'careenlaw09.NegoThree': WHATEVER THE INPUT: true; the input reads as it did. -/
def negoThreeSpec : ChangeSpec := { name := "negoThree", fn := fun _ => fun
  | [d1, d2] => { results := [.lit (.bool true)], args := [d1, d2] }
  | _ => none }
def negoThreeRow : OpenClaim := { program := "ythfhoccghbdciaa", sum := "44be9f0bdb75b28f0148a88f4cd4cd86617703dcf46fd5fcca5d3cd1b18ac4d6", func := "careen/careenlaw09.NegoThree", spec := "negoThree", apart := false }
def NegoThreeSaid : Prop := negoThreeRow.holds Try.pinned (OpenSpec.ofChange negoThreeSpec)

/-- ITS FALSE NEIGHBOUR: 'it returns false'. Refute it at one input. -/
def negoThreeWrong : ChangeSpec := { name := "negoThree", fn := fun _ => fun
  | [d1, d2] => { results := [.lit (.bool false)], args := [d1, d2] }
  | _ => none }
def NegoThreeWrongFalsely : Prop := negoThreeRow.holds Try.pinned (OpenSpec.ofChange negoThreeWrong)

/- THE SECOND FORM. 'bulk': how many values and letters a reading holds, each counted each time it is reached (what is shared counts as often as it is met; a slice's spare places count too). A statement '..UptoSaid' is the law's where the arguments, and the package variables that the reading takes, are together of bulk at most 1048576: NARROWER than '..Said'. Prove '..Said' where nothing that the law and all that it calls make is longer than what came in: it says more and counts as full. Else prove '..UptoSaid'. A law counts once. -/
mutual
def uptoBulk {H : Type} : DataW H → Nat
  | .lit (.string bytes) => bytes.length + 1
  | .lit _ => 1
  | .nil => 1
  | .ptr d => uptoBulk d + 1
  | .slice elems spare => uptoBulkAll elems + uptoBulkAll spare + 1
  | .agg parts => uptoBulkAll parts + 1
  | .iface _ d => uptoBulk d + 1
  | .map entries => uptoBulkEntries entries + 1
  | .held _ => 1
def uptoBulkAll {H : Type} : List (DataW H) → Nat
  | [] => 0
  | d :: r => uptoBulk d + uptoBulkAll r
def uptoBulkEntries {H : Type} : List (Lit × DataW H) → Nat
  | [] => 0
  | x :: r => uptoBulkEntry x + uptoBulkEntries r
def uptoBulkEntry {H : Type} : Lit × DataW H → Nat
  | (.string bytes, d) => bytes.length + uptoBulk d + 1
  | (_, d) => uptoBulk d + 1
 end
def uptoSmall : (H : Type) → List (DataW H) → Bool := fun _ ds => decide (uptoBulkAll ds ≤ 1048576)
def OpenSpec.upto (s : _root_.Go.ChangeSpec) : _root_.Go.OpenSpec := { _root_.Go.OpenSpec.ofChange s with cond := some uptoSmall }

/-- 'careenlaw09.NegoTells', WHERE WHAT IT READS IS OF BULK AT MOST 1048576: true; the input reads as it did. -/
def negoTellsUptoRow : OpenClaim := { program := "ythfhoccghbdciaa", sum := "44be9f0bdb75b28f0148a88f4cd4cd86617703dcf46fd5fcca5d3cd1b18ac4d6", func := "careen/careenlaw09.NegoTells", spec := "negoTells", apart := false, narrowed := true }
def NegoTellsUptoSaid : Prop := negoTellsUptoRow.holds Try.pinned (OpenSpec.upto negoTellsSpec)

/-- 'careenlaw09.NegoBoth', WHERE WHAT IT READS IS OF BULK AT MOST 1048576: true; the input reads as it did. -/
def negoBothUptoRow : OpenClaim := { program := "ythfhoccghbdciaa", sum := "44be9f0bdb75b28f0148a88f4cd4cd86617703dcf46fd5fcca5d3cd1b18ac4d6", func := "careen/careenlaw09.NegoBoth", spec := "negoBoth", apart := false, narrowed := true }
def NegoBothUptoSaid : Prop := negoBothUptoRow.holds Try.pinned (OpenSpec.upto negoBothSpec)

/-- 'careenlaw09.NegoMore', WHERE WHAT IT READS IS OF BULK AT MOST 1048576: true; the input reads as it did. -/
def negoMoreUptoRow : OpenClaim := { program := "ythfhoccghbdciaa", sum := "44be9f0bdb75b28f0148a88f4cd4cd86617703dcf46fd5fcca5d3cd1b18ac4d6", func := "careen/careenlaw09.NegoMore", spec := "negoMore", apart := false, narrowed := true }
def NegoMoreUptoSaid : Prop := negoMoreUptoRow.holds Try.pinned (OpenSpec.upto negoMoreSpec)

/-- 'careenlaw09.NegoGate', WHERE WHAT IT READS IS OF BULK AT MOST 1048576: true; the input reads as it did. -/
def negoGateUptoRow : OpenClaim := { program := "ythfhoccghbdciaa", sum := "44be9f0bdb75b28f0148a88f4cd4cd86617703dcf46fd5fcca5d3cd1b18ac4d6", func := "careen/careenlaw09.NegoGate", spec := "negoGate", apart := false, narrowed := true }
def NegoGateUptoSaid : Prop := negoGateUptoRow.holds Try.pinned (OpenSpec.upto negoGateSpec)

/-- 'careenlaw09.NegoThree', WHERE WHAT IT READS IS OF BULK AT MOST 1048576: true; the input reads as it did. -/
def negoThreeUptoRow : OpenClaim := { program := "ythfhoccghbdciaa", sum := "44be9f0bdb75b28f0148a88f4cd4cd86617703dcf46fd5fcca5d3cd1b18ac4d6", func := "careen/careenlaw09.NegoThree", spec := "negoThree", apart := false, narrowed := true }
def NegoThreeUptoSaid : Prop := negoThreeUptoRow.holds Try.pinned (OpenSpec.upto negoThreeSpec)

end Rows
end Go.Proofs.Ythfhoccghbdciaa
