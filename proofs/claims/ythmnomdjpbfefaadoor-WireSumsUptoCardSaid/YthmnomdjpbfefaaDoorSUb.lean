-- written by programs of this session
import Derived.Test.YthmnomdjpbfefaaDoorSU
import Derived.Test.YthmnomdjpbfefaaDoorSC
namespace Go.Proofs.YthmnomdjpbfefaaDoor.Bulk
open Go.ChangeShapes Go.WideShapes Go.Proofs.YthmnomdjpbfefaaDoorW.PrintWords Go.Proofs.YthmnomdjpbfefaaDoor.A
section
variable {H : Type} {enc : TypeId × Value → H} {W : World} {base : Nat} {spare : Nat → Bool} {held : Bool}
theorem opens_23 : Opens enc Tryd.prog W base spare held 23 (Kd.slice 5 (Kd.int .u8)) (fun ys n => ys.length ≤ n ∧ ∀ y ∈ ys, (Lit.int .u8 y).wf = true) :=
  opens_slice Tryd.underlying23 (by kernel_rfl) (fun _ _ _ _ h => h) (opens_int Tryd.underlying5)
theorem opens_22 : Opens enc Tryd.prog W base spare held 22 (Kd.slice 23 (Kd.slice 5 (Kd.int .u8))) (fun ys n => ys.length ≤ n ∧ ∀ b ∈ ys, b.length ≤ n ∧ ∀ y ∈ b, (Lit.int .u8 y).wf = true) :=
  opens_slice Tryd.underlying22 (by kernel_rfl) (fun _ _ _ h h1 => ⟨Nat.le_trans h1.1 h, h1.2⟩) opens_23
theorem arg_22 {a : Option Addr} {len cap : Nat} {dd : DataW H} {ps : List MemPlace} {ds : List (DataW H)} (hk : Rows.uptoSmall H ds = true) (hd : dd ∈ ds)
    (h : DataW.Trod enc Tryd.prog W base spare held 22 (.slice a len cap) dd ps) : ∃ l, len = l.length ∧ l.length ≤ cap ∧ Kd.C (Kd.slice 5 (Kd.int .u8)) W a l.length l ∧ l.length ≤ 1048576 ∧ ∀ b ∈ l, bytes_ b ∧ b.length ≤ 1048576 := by
  obtain ⟨l, h1, h2, h3, h4, h5⟩ := arg_slice opens_22 (fun _ _ _ h h1 => ⟨Nat.le_trans h1.1 h, fun b hb => ⟨Nat.le_trans (h1.2 b hb).1 h, (h1.2 b hb).2⟩⟩) hk hd h
  exact ⟨l, h1, h2, h3, h4, fun b hb => ⟨bytes_wf (h5 b hb).2, (h5 b hb).1⟩⟩
end
end Go.Proofs.YthmnomdjpbfefaaDoor.Bulk
