import Derived.Test.YthnmpkhjpfhloaaDoorCc
import Derived.Test.YthnmpkhjpfhloaaDoorCp
namespace Go.Proofs.YthnmpkhjpfhloaaDoor.M
open Go.RowKit Go.Proofs.YthnmpkhjpfhloaaDoorW.PrintWords Go.Proofs.YthnmpkhjpfhloaaDoorW.PrintLast Go.Proofs.YthnmpkhjpfhloaaDoorW.PrintMore
open Classical in
noncomputable def cutsF (k : Nat) (l0 l1 : List Int) : Option Bool := if ∀ x ∈ l1, -9223372036854775808 ≤ x ∧ x ≤ 9223372036854775807 then some true else none
theorem shaCuts_calls (k : Nat) (A0 : Option Addr) (c0 : Nat) (l0 : List Int) (A1 : Option Addr) (c1 : Nat) (l1 : List Int) (r : Bool) (w : World) (h0 : Kd.C (Kd.int .u8) w A0 l0.length l0) (hc0 : l0.length ≤ c0) (h1 : Kd.C (Kd.int .i64) w A1 l1.length l1) (hc1 : l1.length ≤ c1) (hG : Tab w) (h : cutsF k l0 l1 = some r) : Calls Tryd.prog 7 #[.slice A0 l0.length c0, .slice A1 l1.length c1] w fun e w' => e = .returned (.bool r) ∧ Below w.heap.size w w' := by
  unfold cutsF at h
  split at h
  · rename_i hb
    cases h
    exact cuts_core A0 c0 l0 A1 c1 l1 w hG h0 hc0 h1 hc1 hb
  · cases h
theorem shaCuts_pure : ∀ (l0 l1 : List Int), l0.length ≤ 140737488351232 → (∀ x ∈ l0, (Lit.int .u8 x).wf = true) → l1.length ≤ 140737488351232 → (∀ x ∈ l1, (Lit.int .i64 x).wf = true) → ∃ k, cutsF k l0 l1 = some true := by
  intro l0 l1 _ _ _ h1
  exact ⟨0, by unfold cutsF; rw [if_pos (fun x hx => i64_wf (h1 x hx))]⟩
end Go.Proofs.YthnmpkhjpfhloaaDoor.M
