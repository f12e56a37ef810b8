-- written by programs of this session
import Derived.Test.YthmnomdjpbfefaaDoorSB
import Derived.Test.YthmnomdjpbfefaaDoorSPx5
import Derived.Test.YthmnomdjpbfefaaDoorSPx6
import Derived.Lib.Strings
namespace Go.Proofs.YthmnomdjpbfefaaDoor.A
open Go.RowKit Go.Proofs.YthmnomdjpbfefaaDoorW.PrintWords Go.Proofs.YthmnomdjpbfefaaDoorW.PrintLast Go.Proofs.YthmnomdjpbfefaaDoorW.PrintMore Go.Proofs.YthmnomdjpbfefaaDoor.P
set_option linter.unusedVariables false
set_option linter.unusedSimpArgs false
theorem started_ev : Ev (fun k => kilnlaw1_started.f k) true := Ev.of kilnlaw1_started.mono (k := 40) (by decide +kernel)
theorem bytes_take {l : List Int} (h : bytes_ l) (n : Nat) : bytes_ (l.take n) := fun x hx => h x (List.mem_of_mem_take hx)
theorem bytes_wf {l : List Int} (h : ∀ x ∈ l, (Lit.int .u8 x).wf = true) : bytes_ l := fun x hx => by
  have := h x hx
  simp [Lit.wf, IntKind.min, IntKind.max, IntKind.signed, IntKind.bits] at this
  omega
end Go.Proofs.YthmnomdjpbfefaaDoor.A
