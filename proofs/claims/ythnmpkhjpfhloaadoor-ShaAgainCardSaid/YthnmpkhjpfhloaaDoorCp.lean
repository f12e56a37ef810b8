import Derived.Test.YthnmpkhjpfhloaaDoorCl
namespace Go.Proofs.YthnmpkhjpfhloaaDoor.M
open Go.RowKit
theorem i64_wf {x : Int} (h : (Lit.int .i64 x).wf = true) : -9223372036854775808 ≤ x ∧ x ≤ 9223372036854775807 := by
  simp [Lit.wf, IntKind.min, IntKind.max, IntKind.signed, IntKind.bits] at h
  omega
theorem shaLong_pure : ∀ (a0 a1 a2 a3 : Int), (Lit.int .i64 a0).wf = true → (Lit.int .i64 a1).wf = true → (Lit.int .i64 a2).wf = true → (Lit.int .i64 a3).wf = true → ∃ k, longF k a0 a1 a2 a3 = some true := by
  intro a0 a1 a2 a3 h0 _ _ h3
  obtain ⟨p, q⟩ := i64_wf h0
  obtain ⟨r, s⟩ := i64_wf h3
  exact ⟨0, by unfold longF; rw [if_pos ⟨p, by omega, r, by omega⟩]⟩
end Go.Proofs.YthnmpkhjpfhloaaDoor.M
