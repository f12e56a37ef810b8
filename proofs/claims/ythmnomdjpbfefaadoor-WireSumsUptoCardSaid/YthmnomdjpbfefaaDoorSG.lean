-- written by programs of this session
import Derived.Test.YthmnomdjpbfefaaDoorSE
import Derived.Test.YthmnomdjpbfefaaDoorSPx9
namespace Go.Proofs.YthmnomdjpbfefaaDoor.A
open Go.RowKit Go.Proofs.YthmnomdjpbfefaaDoorW.PrintWords Go.Proofs.YthmnomdjpbfefaaDoorW.PrintLast Go.Proofs.YthmnomdjpbfefaaDoorW.PrintMore Go.Proofs.YthmnomdjpbfefaaDoor.P
set_option linter.unusedVariables false
set_option linter.unusedSimpArgs false
theorem join_l0 (L : List (List Int)) (hn : L.length ≤ 1000000000) : ∀ (m i : Nat) (xs : List Int), i + m = L.length → xs.length + (L.drop i).flatten.length < 140737488355328 →
    Ev (fun k => kilnlaw1_join.l0 k L xs (i : Int)) (xs ++ (L.drop i).flatten) := by
  intro m
  induction m with
  | zero =>
    intro i xs h hl
    refine Ev.step (fun k => by simp only [kilnlaw1_join.l0]; rw [if_neg (by omega)]) (Ev.some_ ?_)
    rw [List.drop_of_length_le (by omega)]; simp
  | succ m ih =>
    intro i xs h hl
    have hd : L.drop i = rd_L1 L (i : Int) :: L.drop (i + 1) := by
      rw [List.drop_eq_getElem_cons (show i < L.length by omega)]
      unfold rd_L1
      rw [Int.toNat_natCast, List.getD_eq_getElem?_getD, List.getElem?_eq_getElem (show i < L.length by omega)]; rfl
    rw [hd] at hl ⊢
    rw [List.flatten_cons, List.length_append] at hl
    refine Ev.step (fun k => by simp only [kilnlaw1_join.l0]; rfl) ?_
    refine Ev.pos (by omega) (Ev.pos (by omega) (Ev.pos (by omega) ?_))
    rw [w64 (by omega) (by omega), List.flatten_cons, ← List.append_assoc]
    exact ih (i + 1) (xs ++ rd_L1 L (i : Int)) (by omega) (by rw [List.length_append]; omega)
theorem join_ev {L : List (List Int)} (hn : L.length ≤ 1000000000) (hl : L.flatten.length < 140737488355328) : Ev (fun k => kilnlaw1_join.f k L) L.flatten := by
  unfold kilnlaw1_join.f
  have := join_l0 L hn L.length 0 [] (by omega) (by simpa using hl)
  simpa using this
end Go.Proofs.YthmnomdjpbfefaaDoor.A
