import Derived.Test.YthnmpkhjpfhloaaDoorProg
import Derived.Below
import Derived.Deep.Draws
import Derived.Deep.AppendLies
import Derived.Maps.AppendAt
import Derived.OwnWalk
import Derived.Laws.BytesArg
import Derived.Laws.MakeOwn
import Derived.Laws.OwnMore
import Derived.Deep.OwnRows
import Derived.Tactics
import Derived.Lib.ConvBytes
import Derived.Laws.Slices
import Derived.WalkKit
import Derived.KernelRfl
import Derived.RowKit3
import Derived.Deep.LoopGhost
import Derived.Deep.QuietTactic
import Derived.BigQuiet
import Derived.WideLaws
import Derived.Deep.DeepCutAuto
import Derived.Deep.CutBlock
import Derived.Deep.RegionHeld3
import Derived.Laws.Rows
import Derived.Lib.AppendStr
import Derived.ArgAppend
import Derived.Laws.IdiomCopy
import Derived.OrdersHeld
import Derived.Laws.BitsLemmas
import Derived.RowKit
import Derived.Test.YthnmpkhjpfhloaaDoorWWords
import Derived.Test.YthnmpkhjpfhloaaDoorWLast
import Derived.Test.YthnmpkhjpfhloaaDoorWTab
import Derived.Test.YthnmpkhjpfhloaaDoorWFour
import Derived.Test.YthnmpkhjpfhloaaDoorWQPut
import Derived.Test.YthnmpkhjpfhloaaDoorWApart
import Derived.Test.YthnmpkhjpfhloaaDoorWArr
import Derived.Test.YthnmpkhjpfhloaaDoorWZeros
import Derived.Test.YthnmpkhjpfhloaaDoorWFoot
import Derived.Test.YthnmpkhjpfhloaaDoorWKept
import Derived.Test.YthnmpkhjpfhloaaDoorWShare
import Derived.Test.YthnmpkhjpfhloaaDoorWN
import Derived.Test.YthnmpkhjpfhloaaDoorWFootNe
import Derived.Test.YthnmpkhjpfhloaaDoorWAt
import Derived.Test.YthnmpkhjpfhloaaDoorWEqStruct
import Derived.Test.YthnmpkhjpfhloaaDoorWRepsOne
import Derived.Test.YthnmpkhjpfhloaaDoorWInv
import Derived.Test.YthnmpkhjpfhloaaDoorWInvWords
import Derived.Test.YthnmpkhjpfhloaaDoorWGuard
import Derived.Test.YthnmpkhjpfhloaaDoorWNEv
import Derived.Test.YthnmpkhjpfhloaaDoorWMore
import Derived.Laws.BitsAllLaws
import Derived.StillTailTactics
import Derived.Test.YthnmpkhjpfhloaaDoorMs
import Derived.Deep.WholeRow
import Derived.Test.YthnmpkhjpfhloaaDoorMm
import Derived.ChangeKeysEq
namespace Go.Proofs.YthnmpkhjpfhloaaDoor.M
open Go.RowKit Go.Proofs.YthnmpkhjpfhloaaDoorW.PrintWords Go.Proofs.YthnmpkhjpfhloaaDoorW.PrintLast Go.Proofs.YthnmpkhjpfhloaaDoorW.PrintMore
set_option linter.unusedVariables false
set_option linter.unusedSimpArgs false
def abcL : List Int := [186, 120, 22, 191, 143, 1, 207, 234, 65, 65, 64, 222, 93, 174, 34, 35, 176, 3, 97, 163, 150, 23, 122, 156, 180, 16, 255, 97, 242, 0, 21, 173]
theorem sum_abc : sumL [97, 98, 99] = abcL := by kernel_rfl
theorem eqItems_same (d : Nat) (l : List Int) (W : World) : ∀ is : List Nat, (∀ i, i ∈ is → i < l.length) → (Op.eqItems (d + 1) 5 1 (arr8 l) (arr8 l) is).run Tryd.prog W = .ok true W
  | [], _ => by simp [Op.eqItems]
  | i :: is, h => by
    have hu : Tryd.prog.underlying 5 = some (.int .u8) := by kernel_rfl
    have hp : (Go.part 5 (arr8 l) (i * 1)).run Tryd.prog W = .ok (.int .u8 (l.getD i 0)) W := by
      have hagg : (isAgg 5).run Tryd.prog W = .ok false W := by
        unfold isAgg
        rw [Sem.run_bind, run_underlying hu W]
        simp
      unfold Go.part
      rw [Sem.run_bind, hagg]
      simp only [Result.andThen_ok, Nat.mul_one, Bool.false_eq_true, if_false]
      rw [arr8_get l i (h i (by simp))]
      simp
    have he : (Op.equalIn (d + 1) 5 (.int .u8 (l.getD i 0)) (.int .u8 (l.getD i 0))).run Tryd.prog W = .ok true W := by
      simp [Op.equalIn, Sem.run_bind, run_underlying hu]
    simp only [Op.eqItems, Sem.run_bind, hp, he, Result.andThen_ok, Bool.not_true, Bool.false_eq_true, if_false]
    exact eqItems_same d l W is (fun j hj => h j (by simp [hj]))
theorem eq_key (d : Nat) (l : List Int) (hl : l.length = 32) (W : World) : (Op.equalIn (d + 2) 27 (.agg (arr8 l)) (.agg (arr8 l))).run Tryd.prog W = .ok true W := by
  obtain ⟨i, hi, _, hsz, _⟩ := info_parts P.info5
  have hc : Tryd.prog.cellsOf 5 = 1 := by kernel_rfl
  rw [run_equalIn_array W (d + 1) (t := 27) (e := 5) (n := 32) (arr8 l) (arr8 l) Tryd.underlying27 hi, hc]
  exact eqItems_same d l W _ (fun j hj => by rw [hl]; exact List.mem_range.1 hj)
theorem equal_key (l : List Int) (hl : l.length = 32) (W : World) : (Op.equal 27 (.agg (arr8 l)) (.agg (arr8 l))).run Tryd.prog W = .ok true W := eq_key 9998 l hl W
set_option maxHeartbeats 8000000 in
set_option maxRecDepth 100000 in
theorem abc_calls (w : World) : Calls Tryd.prog 27 #[] w fun e w' => e = .returned (.agg (arr8 abcL)) ∧ Below w.heap.size w w' := by
  have HB := Aside0.mk (Below.refl w.heap.size w)
  go_enter Tryd.func27, Tryd.ntmps27
  go_wp2_with (first | (refine wpList_store_row rfl 27 (.tmp 0) (.tmp 1) rfl w.heap.size (arr8 abcL) rfl rfl 27 (arr8 (List.replicate 32 0)) (heap_alloc_new _ _) (by kernel_rfl) rfl (arr8_one _) ?_))
  refine bodyPost_ret (results_cell_row (p := 0) (ty := 27) rfl _ _ w.heap.size 27 (arr8 abcL) (0, 0) _ rfl (setRow_heap _ _ _ _ _ _ (heap_alloc_new _ _)) Tryd.underlying27 rfl (by kernel_rfl)) rfl ⟨rfl, below_setRow' (below_alloc HB.out _) (Nat.le_refl _) _⟩
end Go.Proofs.YthnmpkhjpfhloaaDoor.M
