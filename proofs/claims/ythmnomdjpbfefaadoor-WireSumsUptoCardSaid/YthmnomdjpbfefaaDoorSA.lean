-- written by programs of this session
import Derived.Test.YthmnomdjpbfefaaDoorSPx1
import Derived.Test.YthmnomdjpbfefaaDoorSPx2
import Derived.Test.YthmnomdjpbfefaaDoorSPx3
import Derived.Test.YthmnomdjpbfefaaDoorSPx4
import Derived.Laws.BitsAllLaws
namespace Go.Proofs.YthmnomdjpbfefaaDoor.A
open Go.RowKit Go.Proofs.YthmnomdjpbfefaaDoorW.PrintWords Go.Proofs.YthmnomdjpbfefaaDoorW.PrintLast Go.Proofs.YthmnomdjpbfefaaDoorW.PrintMore Go.Proofs.YthmnomdjpbfefaaDoor.P
set_option linter.unusedVariables false
set_option linter.unusedSimpArgs false
theorem Ev.pos {α : Type} {c : Prop} [Decidable c] {f g : Nat → Option α} {r : α} (h : c) (k : Ev f r) : Ev (fun n => if c then f n else g n) r := by
  simpa only [if_pos h] using k
theorem Ev.some_ {α : Type} {x r : α} (h : x = r) : Ev (fun _ => some x) r := h ▸ Ev.now r
theorem Ev.const {α : Type} {x : Option α} {r : α} (h : x = some r) : Ev (fun _ => x) r := h ▸ Ev.now r
theorem w64 {x : Int} (h0 : -9223372036854775808 ≤ x) (h1 : x ≤ 9223372036854775807) : wrap64 x = x := by unfold wrap64; omega
structure Got where
  v : Nat
  n : Nat
  e : Int
def bytes_ (l : List Int) : Prop := ∀ x ∈ l, 0 ≤ x ∧ x < 256
end Go.Proofs.YthmnomdjpbfefaaDoor.A
