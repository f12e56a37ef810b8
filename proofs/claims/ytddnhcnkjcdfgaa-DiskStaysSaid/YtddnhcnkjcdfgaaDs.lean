-- DiskStays: for the row
import Derived.Test.YtddnhcnkjcdfgaaDr
import Derived.Test.YtddnhcnkjcdfgaaKo
namespace Go.Proofs.Ytddnhcnkjcdfgaa.Bulk
open Go.ChangeShapes Go.WideShapes Go.Proofs.YtddnhcnkjcdfgaaW.PrintWords Go.Proofs.Ytddnhcnkjcdfgaa.M
set_option linter.unusedVariables false
section
variable {H : Type} {enc : TypeId × Value → H} {W : World} {base : Nat} {spare : Nat → Bool} {held : Bool}
theorem opens_22 : Opens enc Try.prog W base spare held 22 (Kd.slice 30 Go.Proofs.Ytddnhcnkjcdfgaa.P.k30) (fun ys n => ys.length ≤ n ∧ ∀ y ∈ ys, True) :=
  opens_slice (q := 30) Try.underlying22 (by kernel_rfl) (fun _ _ _ _ h => h) opens_30
/-- Rounds that came in. -/
theorem arg_50 {a : Option Addr} {len cap : Nat} {dd : DataW H} {ps : List MemPlace}
    (h : DataW.Trod enc Try.prog W base spare held 50 (.slice a len cap) dd ps) : ∃ l, len = l.length ∧ l.length ≤ cap ∧ Kd.C (Kd.slice 30 Go.Proofs.Ytddnhcnkjcdfgaa.P.k30) W a l.length l ∧ l.length ≤ 9223372036854775807 ∧ True := by
  obtain ⟨l, h1, h2, h3, h4, _⟩ := arg_full (q := 22) (opens_slice Try.underlying50 (by kernel_rfl) (fun _ _ _ h h1 => ⟨Nat.le_trans h1.1 h, h1.2⟩) opens_22) h
  exact ⟨l, h1, h2, h3, h4, trivial⟩
end
end Go.Proofs.Ytddnhcnkjcdfgaa.Bulk
namespace Go.Proofs.Ytddnhcnkjcdfgaa.M
open Go.RowKit Go.Proofs.YtddnhcnkjcdfgaaW.PrintWords Go.Proofs.YtddnhcnkjcdfgaaW.PrintLast Go.Proofs.YtddnhcnkjcdfgaaW.PrintMore
open Go.Proofs.Ytddnhcnkjcdfgaa.P
set_option linter.unusedVariables false
def staysF (_k : Nat) (_a _b : Int) (_l : List Int) (_r : List (List S30)) (_f : List Int) : Option Bool := some true
theorem diskStays_row (k : Nat) (a0 a1 : Int) (A2 : Option Addr) (c2 : Nat) (l2 : List Int) (A3 : Option Addr) (c3 : Nat) (l3 : List (List S30)) (A4 : Option Addr) (c4 : Nat) (l4 : List Int) (r : Bool) (w : World)
    (hr2 : Kd.C (Kd.int .u8) w A2 l2.length l2) (hc2 : l2.length ≤ c2) (hr3 : Kd.C (Kd.slice 30 k30) w A3 l3.length l3) (hc3 : l3.length ≤ c3) (hr4 : Kd.C (Kd.int .i64) w A4 l4.length l4) (hc4 : l4.length ≤ c4) (h : staysF k a0 a1 l2 l3 l4 = some r) :
    Calls Try.prog 6 #[.int .i64 a0, .int .i64 a1, .slice A2 l2.length c2, .slice A3 l3.length c3, .slice A4 l4.length c4] w fun e w' => e = .returned (.bool r) ∧ Below w.heap.size w w' := by
  cases h
  obtain ⟨t, ht, hl⟩ := sector_ok l2 0
  exact diskStays_calls 513 a0 a1 A2 c2 l2 A3 c3 l3 A4 c4 l4 w hr2 hc2 hr3 hc3 hr4 hc4 t ht hl
theorem diskStays_pure : ∀ (a0 a1 : Int) (l2 : List Int) (l3 : List (List S30)) (l4 : List Int), (Lit.int .i64 a0).wf = true → (Lit.int .i64 a1).wf = true → l2.length ≤ 9223372036854775807 → (∀ n ∈ l2, (Lit.int .u8 n).wf = true) → l3.length ≤ 9223372036854775807 → True → l4.length ≤ 9223372036854775807 → (∀ n ∈ l4, (Lit.int .i64 n).wf = true) → ∃ k, staysF k a0 a1 l2 l3 l4 = some true := fun _ _ _ _ _ _ _ _ _ _ _ _ _ => ⟨0, rfl⟩
end Go.Proofs.Ytddnhcnkjcdfgaa.M
