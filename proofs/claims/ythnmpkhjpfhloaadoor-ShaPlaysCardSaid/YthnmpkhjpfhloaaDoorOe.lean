import Derived.Test.YthnmpkhjpfhloaaDoorOd
import Derived.Test.YthnmpkhjpfhloaaDoorKo
namespace Go.Proofs.YthnmpkhjpfhloaaDoor.Bulk
open Go.ChangeShapes Go.WideShapes Go.Proofs.YthnmpkhjpfhloaaDoorW.PrintWords Go.Proofs.YthnmpkhjpfhloaaDoor.M
set_option linter.unusedVariables false
section
variable {H : Type} {enc : TypeId × Value → H} {W : World} {base : Nat} {spare : Nat → Bool} {held : Bool}
theorem opens_22 : Opens enc Tryd.prog W base spare held 22 (Kd.slice 5 (Kd.int .u8)) (fun ys n => ys.length ≤ n ∧ ∀ y ∈ ys, (Lit.int .u8 y).wf = true) :=
  opens_slice Tryd.underlying22 (by kernel_rfl) (fun _ _ _ _ h => h) (opens_int Tryd.underlying5)
/-- A row of byte slices that came in. -/
theorem arg_32 {a : Option Addr} {len cap : Nat} {dd : DataW H} {ps : List MemPlace}
    (h : DataW.Trod enc Tryd.prog W base spare held 32 (.slice a len cap) dd ps) : ∃ l, len = l.length ∧ l.length ≤ cap ∧ Kd.C (Kd.slice 5 (Kd.int .u8)) W a l.length l ∧ l.length ≤ 9223372036854775807 ∧ True := by
  obtain ⟨l, h1, h2, h3, h4, _⟩ := arg_full (q := 22) (opens_slice Tryd.underlying32 (by kernel_rfl) (fun _ _ _ h h1 => ⟨Nat.le_trans h1.1 h, h1.2⟩) opens_22) h
  exact ⟨l, h1, h2, h3, h4, trivial⟩
end
end Go.Proofs.YthnmpkhjpfhloaaDoor.Bulk
namespace Go.Proofs.YthnmpkhjpfhloaaDoor.M
open Go.RowKit Go.Proofs.YthnmpkhjpfhloaaDoorW.PrintWords Go.Proofs.YthnmpkhjpfhloaaDoorW.PrintLast Go.Proofs.YthnmpkhjpfhloaaDoorW.PrintMore
set_option linter.unusedVariables false
def sumsF (_k : Nat) (_l : List (List Int)) : Option Bool := some true
theorem shaSums_calls (k : Nat) (A0 : Option Addr) (c0 : Nat) (l0 : List (List Int)) (r : Bool) (w : World) (h0 : Kd.C (Kd.slice 5 (Kd.int .u8)) w A0 l0.length l0) (hc0 : l0.length ≤ c0) (hG : Tab w) (h : sumsF k l0 = some r) : Calls Tryd.prog 4 #[.slice A0 l0.length c0] w fun e w' => e = .returned (.bool r) ∧ Below w.heap.size w w' := by
  cases h
  exact sums_core A0 c0 l0 w h0 hc0 hG
theorem shaSums_pure : ∀ (l0 : List (List Int)), l0.length ≤ 9223372036854775807 → True → ∃ k, sumsF k l0 = some true := fun _ _ _ => ⟨0, rfl⟩
end Go.Proofs.YthnmpkhjpfhloaaDoor.M
