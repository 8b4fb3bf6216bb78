/- The Go function NegoGate, called with any two numbers, returns true: who speaks both versions speaks with each, the gate alone keeps the first out. No condition. -/
import Derived.Test.YthfhoccghbdciaaPAllx7
import Derived.Test.YthfhoccghbdciaaNegos
namespace Go.Proofs.Ythfhoccghbdciaa.Pure
open Go.RowKit Go.Proofs.Ythfhoccghbdciaa.PAll Go.Proofs.YthfhoccghbdciaaW.PrintWords Go.Proofs.YthfhoccghbdciaaW.PrintLast Go.Proofs.YthfhoccghbdciaaW.PrintMore Go.Proofs.Ythfhoccghbdciaa.Base Go.Proofs.Ythfhoccghbdciaa.Negos


theorem NegoGate : careenlaw09_NegoGate.Pure := by
  intro x y hx hy
  obtain ⟨a0, a1⟩ := pickN_lt (c := x) (n := 2) (by decide)
  obtain ⟨b0, b1⟩ := pickN_lt (c := y) (n := 2) (by decide)
  unfold careenlaw09_NegoGate.f
  rw [pick_eq x 2 hx (by decide), pick_eq y 2 hy (by decide)]
  generalize pickN x 2 = a at *
  generalize pickN y 2 = b at *
  obtain rfl | rfl : a = 0 ∨ a = 1 := by omega
  · obtain rfl | rfl : b = 0 ∨ b = 1 := by omega
    · decide +kernel
    · decide +kernel
  · obtain rfl | rfl : b = 0 ∨ b = 1 := by omega
    · decide +kernel
    · decide +kernel
#print axioms NegoGate
end Go.Proofs.Ythfhoccghbdciaa.Pure
