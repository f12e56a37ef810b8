import Derived.Test.YthnmpkhjpfhloaaDoorNf
namespace Go.Proofs.YthnmpkhjpfhloaaDoor.M
open Go.RowKit
set_option linter.unusedVariables false
def knownF (_k : Nat) : Option Bool := some true
theorem shaKnown_calls (k : Nat) (r : Bool) (w : World) (hG : Tab w) (h : knownF k = some r) : Calls Tryd.prog 3 #[] w fun e w' => e = .returned (.bool r) ∧ Below w.heap.size w w' := by
  cases h
  exact known_core w hG
theorem shaKnown_pure : ∃ k, knownF k = some true := ⟨0, rfl⟩
end Go.Proofs.YthnmpkhjpfhloaaDoor.M
