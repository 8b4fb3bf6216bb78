/-
  No cell of these rows narrows 'for every input' (looked for: loops, veiled, ifaces, maps, wideKeys, modest, calm, conditions, laid).
  DERIVED. THE GIVEN ROWS OF THIS SEAT. 4 by the template 'for every input the law returns true; each argument reads behind the call as it read before'; 0 by the template 'total and deterministic' (their statements: YtmgfkpeadkfioaaTotals.lean).
  GIVEN WITH THE SEED: the statements are not yours to turn. If you find one false, say at which input.
  Laid BY PROGRAM, IN A SANDBOX (cutbox-rows.mjs): the forced cells as the released guide's own fill.sh prints them over the translation eab4f28c0622f79d… (all of the seat's roots in one cut). By AI agents, Wed Nov 11 2026. No macro, syntax, notation, axiom, sorry.
-/
import Derived.Test.YtmgfkpeadkfioaaChecked
import GoSem.Claim
import GoSem.ClaimJoined
import GoSem.ClaimMapViews
import Derived.JoinedTies
import Derived.KernelRfl
namespace Go.Proofs.Ytmgfkpeadkfioaa
/- THE CELL 'sum', in the pinned program and in every row, IS THE sha256 OF THE DUMP (.gsa) THAT YtmgfkpeadkfioaaProg.lean LOADS. Nothing in Lean hashes anything: it is a label: what it is worth is what the hold of that sum in a sandbox is worth. -/
noncomputable def Try.pinned : Pinned := { name := "ytmgfkpeadkfioaa", sum := "eab4f28c0622f79d5e661393d735a8efc883ea534a246e03a50073d11f8d694e", checked := Try.checked }
namespace Rows
def none {H : Type} : Left H := { results := [], args := [] }

/-- 'careenlaw11.MailFull': WHATEVER THE INPUT: true; the input reads as it did. -/
def mailFullSpec : ChangeSpec := { name := "mailFull", fn := fun _ => fun
  | [d1, d2] => { results := [.lit (.bool true)], args := [d1, d2] }
  | _ => none }
def mailFullRow : OpenClaim := { program := "ytmgfkpeadkfioaa", sum := "eab4f28c0622f79d5e661393d735a8efc883ea534a246e03a50073d11f8d694e", func := "careen/careenlaw11.MailFull", spec := "mailFull", unfollowed := true, recurses := true, apart := false }
def MailFullSaid : Prop := mailFullRow.holds Try.pinned (OpenSpec.ofChange mailFullSpec)

/-- ITS FALSE NEIGHBOUR: 'it returns false'. Refute it at one input. -/
def mailFullWrong : ChangeSpec := { name := "mailFull", fn := fun _ => fun
  | [d1, d2] => { results := [.lit (.bool false)], args := [d1, d2] }
  | _ => none }
def MailFullWrongFalsely : Prop := mailFullRow.holds Try.pinned (OpenSpec.ofChange mailFullWrong)

/-- 'careenlaw11.MailStays': WHATEVER THE INPUT: true; the input reads as it did. -/
def mailStaysSpec : ChangeSpec := { name := "mailStays", fn := fun _ => fun
  | [d1, d2] => { results := [.lit (.bool true)], args := [d1, d2] }
  | _ => none }
def mailStaysRow : OpenClaim := { program := "ytmgfkpeadkfioaa", sum := "eab4f28c0622f79d5e661393d735a8efc883ea534a246e03a50073d11f8d694e", func := "careen/careenlaw11.MailStays", spec := "mailStays", unfollowed := true, recurses := true, apart := false }
def MailStaysSaid : Prop := mailStaysRow.holds Try.pinned (OpenSpec.ofChange mailStaysSpec)

/-- ITS FALSE NEIGHBOUR: 'it returns false'. Refute it at one input. -/
def mailStaysWrong : ChangeSpec := { name := "mailStays", fn := fun _ => fun
  | [d1, d2] => { results := [.lit (.bool false)], args := [d1, d2] }
  | _ => none }
def MailStaysWrongFalsely : Prop := mailStaysRow.holds Try.pinned (OpenSpec.ofChange mailStaysWrong)

/-- 'careenlaw11.MailWhose': WHATEVER THE INPUT: true; the input reads as it did. -/
def mailWhoseSpec : ChangeSpec := { name := "mailWhose", fn := fun _ => fun
  | [d] => { results := [.lit (.bool true)], args := [d] }
  | _ => none }
def mailWhoseRow : OpenClaim := { program := "ytmgfkpeadkfioaa", sum := "eab4f28c0622f79d5e661393d735a8efc883ea534a246e03a50073d11f8d694e", func := "careen/careenlaw11.MailWhose", spec := "mailWhose", unfollowed := true, recurses := true, apart := false }
def MailWhoseSaid : Prop := mailWhoseRow.holds Try.pinned (OpenSpec.ofChange mailWhoseSpec)

/-- ITS FALSE NEIGHBOUR: 'it returns false'. Refute it at one input. -/
def mailWhoseWrong : ChangeSpec := { name := "mailWhose", fn := fun _ => fun
  | [d] => { results := [.lit (.bool false)], args := [d] }
  | _ => none }
def MailWhoseWrongFalsely : Prop := mailWhoseRow.holds Try.pinned (OpenSpec.ofChange mailWhoseWrong)

/-- 'careenlaw11.MailMixed': WHATEVER THE INPUT: true; the input reads as it did. -/
def mailMixedSpec : ChangeSpec := { name := "mailMixed", fn := fun _ => fun
  | [d1, d2] => { results := [.lit (.bool true)], args := [d1, d2] }
  | _ => none }
def mailMixedRow : OpenClaim := { program := "ytmgfkpeadkfioaa", sum := "eab4f28c0622f79d5e661393d735a8efc883ea534a246e03a50073d11f8d694e", func := "careen/careenlaw11.MailMixed", spec := "mailMixed", unfollowed := true, recurses := true, apart := false }
def MailMixedSaid : Prop := mailMixedRow.holds Try.pinned (OpenSpec.ofChange mailMixedSpec)

/-- ITS FALSE NEIGHBOUR: 'it returns false'. Refute it at one input. -/
def mailMixedWrong : ChangeSpec := { name := "mailMixed", fn := fun _ => fun
  | [d1, d2] => { results := [.lit (.bool false)], args := [d1, d2] }
  | _ => none }
def MailMixedWrongFalsely : Prop := mailMixedRow.holds Try.pinned (OpenSpec.ofChange mailMixedWrong)

/- THE SECOND FORM. 'bulk': how many values and letters a reading holds, each counted each time it is reached (what is shared counts as often as it is met; a slice's spare places count too). A statement '..UptoSaid' is the law's where the arguments, and the package variables that the reading takes, are together of bulk at most 1048576: NARROWER than '..Said'. Prove '..Said' where nothing that the law and all that it calls make is longer than what came in: it says more and counts as full. Else prove '..UptoSaid'. A law counts once. -/
mutual
def uptoBulk {H : Type} : DataW H → Nat
  | .lit (.string bytes) => bytes.length + 1
  | .lit _ => 1
  | .nil => 1
  | .ptr d => uptoBulk d + 1
  | .slice elems spare => uptoBulkAll elems + uptoBulkAll spare + 1
  | .agg parts => uptoBulkAll parts + 1
  | .iface _ d => uptoBulk d + 1
  | .map entries => uptoBulkEntries entries + 1
  | .held _ => 1
def uptoBulkAll {H : Type} : List (DataW H) → Nat
  | [] => 0
  | d :: r => uptoBulk d + uptoBulkAll r
def uptoBulkEntries {H : Type} : List (Lit × DataW H) → Nat
  | [] => 0
  | x :: r => uptoBulkEntry x + uptoBulkEntries r
def uptoBulkEntry {H : Type} : Lit × DataW H → Nat
  | (.string bytes, d) => bytes.length + uptoBulk d + 1
  | (_, d) => uptoBulk d + 1
 end
def uptoSmall : (H : Type) → List (DataW H) → Bool := fun _ ds => decide (uptoBulkAll ds ≤ 1048576)
def OpenSpec.upto (s : _root_.Go.ChangeSpec) : _root_.Go.OpenSpec := { _root_.Go.OpenSpec.ofChange s with cond := some uptoSmall }

/-- 'careenlaw11.MailFull', WHERE WHAT IT READS IS OF BULK AT MOST 1048576: true; the input reads as it did. -/
def mailFullUptoRow : OpenClaim := { program := "ytmgfkpeadkfioaa", sum := "eab4f28c0622f79d5e661393d735a8efc883ea534a246e03a50073d11f8d694e", func := "careen/careenlaw11.MailFull", spec := "mailFull", unfollowed := true, recurses := true, apart := false, narrowed := true }
def MailFullUptoSaid : Prop := mailFullUptoRow.holds Try.pinned (OpenSpec.upto mailFullSpec)

/-- 'careenlaw11.MailStays', WHERE WHAT IT READS IS OF BULK AT MOST 1048576: true; the input reads as it did. -/
def mailStaysUptoRow : OpenClaim := { program := "ytmgfkpeadkfioaa", sum := "eab4f28c0622f79d5e661393d735a8efc883ea534a246e03a50073d11f8d694e", func := "careen/careenlaw11.MailStays", spec := "mailStays", unfollowed := true, recurses := true, apart := false, narrowed := true }
def MailStaysUptoSaid : Prop := mailStaysUptoRow.holds Try.pinned (OpenSpec.upto mailStaysSpec)

/-- 'careenlaw11.MailWhose', WHERE WHAT IT READS IS OF BULK AT MOST 1048576: true; the input reads as it did. -/
def mailWhoseUptoRow : OpenClaim := { program := "ytmgfkpeadkfioaa", sum := "eab4f28c0622f79d5e661393d735a8efc883ea534a246e03a50073d11f8d694e", func := "careen/careenlaw11.MailWhose", spec := "mailWhose", unfollowed := true, recurses := true, apart := false, narrowed := true }
def MailWhoseUptoSaid : Prop := mailWhoseUptoRow.holds Try.pinned (OpenSpec.upto mailWhoseSpec)

/-- 'careenlaw11.MailMixed', WHERE WHAT IT READS IS OF BULK AT MOST 1048576: true; the input reads as it did. -/
def mailMixedUptoRow : OpenClaim := { program := "ytmgfkpeadkfioaa", sum := "eab4f28c0622f79d5e661393d735a8efc883ea534a246e03a50073d11f8d694e", func := "careen/careenlaw11.MailMixed", spec := "mailMixed", unfollowed := true, recurses := true, apart := false, narrowed := true }
def MailMixedUptoSaid : Prop := mailMixedUptoRow.holds Try.pinned (OpenSpec.upto mailMixedSpec)

end Rows
end Go.Proofs.Ytmgfkpeadkfioaa
