import Derived.Test.YthnmpkhjpfhloaaDoorProg
import Derived.Below
import Derived.Deep.Draws
import Derived.Deep.AppendLies
import Derived.Maps.AppendAt
import Derived.OwnWalk
import Derived.Laws.BytesArg
import Derived.Laws.MakeOwn
import Derived.Laws.OwnMore
import Derived.Deep.OwnRows
import Derived.Tactics
import Derived.Lib.ConvBytes
import Derived.Laws.Slices
import Derived.WalkKit
import Derived.KernelRfl
import Derived.RowKit3
import Derived.Deep.LoopGhost
import Derived.Deep.QuietTactic
import Derived.BigQuiet
import Derived.WideLaws
import Derived.Deep.DeepCutAuto
import Derived.Deep.CutBlock
import Derived.Deep.RegionHeld3
import Derived.Laws.Rows
import Derived.Lib.AppendStr
import Derived.ArgAppend
import Derived.Laws.IdiomCopy
import Derived.OrdersHeld
import Derived.Laws.BitsLemmas
import Derived.RowKit
import Derived.Test.YthnmpkhjpfhloaaDoorWWords
import Derived.Test.YthnmpkhjpfhloaaDoorWLast
import Derived.Test.YthnmpkhjpfhloaaDoorWTab
import Derived.Test.YthnmpkhjpfhloaaDoorWFour
import Derived.Test.YthnmpkhjpfhloaaDoorWQPut
import Derived.Test.YthnmpkhjpfhloaaDoorWApart
import Derived.Test.YthnmpkhjpfhloaaDoorWArr
import Derived.Test.YthnmpkhjpfhloaaDoorWZeros
import Derived.Test.YthnmpkhjpfhloaaDoorWFoot
import Derived.Test.YthnmpkhjpfhloaaDoorWKept
import Derived.Test.YthnmpkhjpfhloaaDoorWShare
import Derived.Test.YthnmpkhjpfhloaaDoorWN
import Derived.Test.YthnmpkhjpfhloaaDoorWFootNe
import Derived.Test.YthnmpkhjpfhloaaDoorWAt
import Derived.Test.YthnmpkhjpfhloaaDoorWEqStruct
import Derived.Test.YthnmpkhjpfhloaaDoorWRepsOne
import Derived.Test.YthnmpkhjpfhloaaDoorWInv
import Derived.Test.YthnmpkhjpfhloaaDoorWInvWords
import Derived.Test.YthnmpkhjpfhloaaDoorWGuard
import Derived.Test.YthnmpkhjpfhloaaDoorWNEv
import Derived.Test.YthnmpkhjpfhloaaDoorWMore
import Derived.Laws.BitsAllLaws
import Derived.StillTailTactics
import Derived.Test.YthnmpkhjpfhloaaDoorMs
import Derived.Deep.WholeRow
import Derived.Test.YthnmpkhjpfhloaaDoorMr
namespace Go.Proofs.YthnmpkhjpfhloaaDoor.M
open Go.RowKit Go.Proofs.YthnmpkhjpfhloaaDoorW.PrintWords Go.Proofs.YthnmpkhjpfhloaaDoorW.PrintLast Go.Proofs.YthnmpkhjpfhloaaDoorW.PrintMore Go.Proofs.YthnmpkhjpfhloaaDoor.P
set_option linter.unusedVariables false
set_option linter.unusedSimpArgs false
set_option maxHeartbeats 8000000 in
set_option maxRecDepth 100000 in
set_option pp.deepTerms true in
set_option pp.maxSteps 1000000 in
/-- What 64 digits tell. -/
theorem keyOf_calls (s : ByteArray) (key : List Int) (hk : key.length = 32) (kk : Nat) (hf : ∀ i : Nat, i < 32 → kilnlaw2_byteOf.f kk s (i : Int) = some (key.getD i 0)) (w : World) :
    Calls Tryd.prog 12 #[.string s] w fun e w' => e = .returned (.agg (arr8 key)) ∧ Below w.heap.size w w' := by
  have hk32 := Aside0.mk hk
  have HF := Aside0.mk hf
  have HB0 := Aside0.mk (below_alloc (below_alloc (Below.refl w.heap.size w) (.cells (arr8 (List.replicate 32 0)) 27 (0, 0))) (.cells (arr8 (List.replicate 32 0)) 27 (0, 0)))
  have HZ0 := Aside0.mk (show ((w.alloc (.cells (arr8 (List.replicate 32 0)) 27 (0, 0))).alloc (.cells (arr8 (List.replicate 32 0)) 27 (0, 0))).heap[w.heap.size]? = some (.cells (arr8 (List.replicate 32 0)) 27 (0, 0)) from blk_alloc (blk_new _ _) _)
  have HS0 := Aside0.mk (show ((w.alloc (.cells (arr8 (List.replicate 32 0)) 27 (0, 0))).alloc (.cells (arr8 (List.replicate 32 0)) 27 (0, 0))).heap[w.heap.size + 1]? = some (.cells (arr8 (part key 0)) 27 (0, 0)) from heap_alloc2_new _ _ _)
  have hk0 := hk
  clear hk hf
  go_enter Tryd.func12, Tryd.ntmps12
  go_wp2
  go_loopg [4] 32 (fun k v4 wr => ∃ (i : Nat), v4 = .int .i64 i ∧ i + k = 32 ∧ Aside0 (wr.heap[w.heap.size]? = some (.cells (arr8 (List.replicate 32 0)) 27 (0, 0))) ∧ Aside0 (wr.heap[w.heap.size + 1]? = some (.cells (arr8 (part key i)) 27 (0, 0))) ∧ Aside0 (Below w.heap.size w wr))
  case atStart => exact ⟨0, rfl, rfl, HZ0, HS0, HB0⟩
  case round =>
    clear HZ0 HS0 HB0
    obtain ⟨i, rfl, hk, BZ, BO, HB⟩ := hrel
    by_cases hi : i < 32
    · have HK8 := Aside0.mk hk
      have mi : (i : Int) < 32 := by omega
      have mi0 : (0 : Int) ≤ (i : Int) := by omega
      have Hc := Aside0.mk (fun W => kilnlaw2_byteOf.calls kk s (i : Int) (key.getD i 0) W (HF.out i hi))
      have hset := part_set hk32.out hi
      have HSET := Aside0.mk hset
      have HLT := Aside0.mk (blk_lt BO.out)
      have co := blk8_at BO.out i (by rw [part_len hk32.out (by omega)]; exact hi)
      have fo := blk_frozen BO.out i
      generalize (part key i).getD i 0 = ov at co
      generalize key.getD i 0 = kv at Hc HSET
      clear hset hk
      have HI := Aside0.mk hi
      clear hi
      go_wp2_with (first | (go_at_call 26; (with_reducible refine (Hc.out _).mono ?_); rintro e w1 ⟨rfl, hd⟩; have HD := Aside0.mk hd.below; clear hd; replace co := (HD.out.cell HLT.out).trans co; replace fo := (HD.out.frozen HLT.out).trans fo))
      go_roundg (gk - 1)
      case measure => (have h1 := HK8.out; have h2 := HI.out; omega)
      case rel => exact ⟨i + 1, rfl, by have h1 := HK8.out; have h2 := HI.out; omega, ⟨blk_far (blk_below BZ.out HD.out) (p := ⟨w.heap.size + 1, i, none⟩) (by show w.heap.size ≠ w.heap.size + 1; omega) _⟩, ⟨blk_put (blk_below BO.out HD.out) i _ (by rw [arr8_set]; exact congrArg arr8 HSET.out)⟩, ⟨below_set (below_step HB.out HD.out) (by omega)⟩⟩
    · obtain rfl : gk = 0 := by omega
      obtain rfl : i = 32 := by omega
      have hp32 := part_all hk32.out
      have BO2 : Aside0 (wr.heap[w.heap.size + 1]? = some (.cells (arr8 key) 27 (0, 0))) := ⟨by have := BO.out; rwa [hp32] at this⟩
      have hqs : (arr8 key).size = 32 := by rw [arr8_size]; exact hk32.out
      have HQS := Aside0.mk hqs
      have hone8 := Aside0.mk (arr8_one key)
      clear hk hp32 BO
      generalize hcs3 : arr8 key = cs3 at BO2 hqs HQS hone8 ⊢
      have HC3 := Aside0.mk hcs3
      clear hcs3
      obtain ⟨N32, h32⟩ : ∃ N : Nat, 32 = N := ⟨_, rfl⟩
      rw [h32] at hqs
      have hld : Sem.run Tryd.prog (loadCellsFrom ⟨w.heap.size + 1, 0, none⟩ 0 N32 #[]) wr = .ok cs3 wr := ld_row BO2.out hqs
      have hst : Sem.run Tryd.prog (storeCells ⟨w.heap.size, 0, none⟩ cs3.toList) wr = .ok () (wr.setRow w.heap.size cs3) := st_row BZ.out (by rw [HQS.out, arr8_size, List.length_replicate]) hone8.out
      go_wp2
      refine bodyPost_ret (results_cell_row (p := 2) (ty := 27) rfl _ _ w.heap.size 27 cs3 (0, 0) _ rfl (setRow_heap _ _ _ _ _ _ BZ.out) Tryd.underlying27 rfl (by rw [HQS.out]; kernel_rfl)) rfl ⟨by rw [HC3.out], below_setRow' HB.out (Nat.le_refl _) _⟩
end Go.Proofs.YthnmpkhjpfhloaaDoor.M
