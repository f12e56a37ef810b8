import Derived.Test.YthnmpkhjpfhloaaDoorNd
import Derived.Test.YthnmpkhjpfhloaaDoorKo
import Derived.Test.YthnmpkhjpfhloaaDoorCp
namespace Go.Proofs.YthnmpkhjpfhloaaDoor.M
open Go.RowKit Go.Proofs.YthnmpkhjpfhloaaDoorW.PrintWords Go.Proofs.YthnmpkhjpfhloaaDoorW.PrintLast Go.Proofs.YthnmpkhjpfhloaaDoorW.PrintMore
set_option linter.unusedVariables false
open Classical in
noncomputable def againF (_k : Nat) (_l0 : List Int) (l1 : List (Int × Int)) : Option Bool := if ∀ x ∈ l1, -9223372036854775808 ≤ x.1 ∧ x.1 ≤ 9223372036854775807 then some true else none
theorem shaAgain_calls (k : Nat) (A0 : Option Addr) (c0 : Nat) (l0 : List Int) (A1 : Option Addr) (c1 : Nat) (l1 : List (Int × Int)) (r : Bool) (w : World) (h0 : Kd.C (Kd.int .u8) w A0 l0.length l0) (hc0 : l0.length ≤ c0) (h1 : Kd.C KT w A1 l1.length l1) (hc1 : l1.length ≤ c1) (hG : Tab w) (h : againF k l0 l1 = some r) : Calls Tryd.prog 8 #[.slice A0 l0.length c0, .slice A1 l1.length c1] w fun e w' => e = .returned (.bool r) ∧ Below w.heap.size w w' := by
  unfold againF at h
  split at h
  · rename_i hb
    cases h
    exact again_core A0 c0 l0 A1 c1 l1 w hG h0 hc0 h1 hc1 hb
  · cases h
theorem shaAgain_pure : ∀ (l0 : List Int) (l1 : List (Int × Int)), l0.length ≤ 140737488351232 → (∀ x ∈ l0, (Lit.int .u8 x).wf = true) → l1.length ≤ 9223372036854775807 → (∀ x ∈ l1, (Lit.int .i64 x.1).wf = true ∧ (Lit.int .i64 x.2).wf = true) → ∃ k, againF k l0 l1 = some true := by
  intro l0 l1 _ _ _ h1
  exact ⟨0, by unfold againF; rw [if_pos (fun x hx => i64_wf (h1 x hx).1)]⟩
end Go.Proofs.YthnmpkhjpfhloaaDoor.M
