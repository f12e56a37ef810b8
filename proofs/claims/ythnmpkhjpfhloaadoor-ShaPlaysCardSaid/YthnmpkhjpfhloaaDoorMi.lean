import Derived.Test.YthnmpkhjpfhloaaDoorProg
import Derived.Below
import Derived.Deep.Draws
import Derived.Deep.AppendLies
import Derived.Maps.AppendAt
import Derived.OwnWalk
import Derived.Laws.BytesArg
import Derived.Laws.MakeOwn
import Derived.Laws.OwnMore
import Derived.Deep.OwnRows
import Derived.Tactics
import Derived.Lib.ConvBytes
import Derived.Laws.Slices
import Derived.WalkKit
import Derived.KernelRfl
import Derived.RowKit3
import Derived.Deep.LoopGhost
import Derived.Deep.QuietTactic
import Derived.BigQuiet
import Derived.WideLaws
import Derived.Deep.DeepCutAuto
import Derived.Deep.CutBlock
import Derived.Deep.RegionHeld3
import Derived.Laws.Rows
import Derived.Lib.AppendStr
import Derived.ArgAppend
import Derived.Laws.IdiomCopy
import Derived.OrdersHeld
import Derived.Laws.BitsLemmas
import Derived.RowKit
import Derived.Test.YthnmpkhjpfhloaaDoorWWords
import Derived.Test.YthnmpkhjpfhloaaDoorWLast
import Derived.Test.YthnmpkhjpfhloaaDoorWTab
import Derived.Test.YthnmpkhjpfhloaaDoorWFour
import Derived.Test.YthnmpkhjpfhloaaDoorWQPut
import Derived.Test.YthnmpkhjpfhloaaDoorWApart
import Derived.Test.YthnmpkhjpfhloaaDoorWArr
import Derived.Test.YthnmpkhjpfhloaaDoorWZeros
import Derived.Test.YthnmpkhjpfhloaaDoorWFoot
import Derived.Test.YthnmpkhjpfhloaaDoorWKept
import Derived.Test.YthnmpkhjpfhloaaDoorWShare
import Derived.Test.YthnmpkhjpfhloaaDoorWN
import Derived.Test.YthnmpkhjpfhloaaDoorWFootNe
import Derived.Test.YthnmpkhjpfhloaaDoorWAt
import Derived.Test.YthnmpkhjpfhloaaDoorWEqStruct
import Derived.Test.YthnmpkhjpfhloaaDoorWRepsOne
import Derived.Test.YthnmpkhjpfhloaaDoorWInv
import Derived.Test.YthnmpkhjpfhloaaDoorWInvWords
import Derived.Test.YthnmpkhjpfhloaaDoorWGuard
import Derived.Test.YthnmpkhjpfhloaaDoorWNEv
import Derived.Test.YthnmpkhjpfhloaaDoorWMore
import Derived.Laws.BitsAllLaws
import Derived.StillTailTactics
import Derived.Test.YthnmpkhjpfhloaaDoorMs
import Derived.Deep.WholeRow
import Derived.Test.YthnmpkhjpfhloaaDoorMh
import Derived.Great.BuildSlice
namespace Go.Proofs.YthnmpkhjpfhloaaDoor.M
open Go.RowKit Go.Proofs.YthnmpkhjpfhloaaDoorW.PrintWords Go.Proofs.YthnmpkhjpfhloaaDoorW.PrintLast Go.Proofs.YthnmpkhjpfhloaaDoorW.PrintMore
set_option linter.unusedVariables false
set_option linter.unusedSimpArgs false
theorem HashAt_new {w : World} {g : Nat} (hb : w.heap[g]? = some (.cells (stA firstN (List.replicate 64 0) 0) 61 (0, 0))) : HashAt w g [] :=
  ⟨firstN, List.replicate 64 0, hb, rfl, by simp, by simp⟩
set_option maxHeartbeats 8000000 in
set_option maxRecDepth 100000 in
theorem new_calls (w : World) : Calls Tryd.prog 9 #[] w fun e w' => ∃ g, e = .returned (.pointer (some ⟨g, 0, none⟩)) ∧ w.heap.size ≤ g ∧ HashAt w' g [] ∧ Below w.heap.size w w' := by
  have Hf := Aside0.mk (first_calls w)
  unfold aggN at Hf
  rw [show arr firstN = #[.int .u32 1779033703, .int .u32 3144134277, .int .u32 1013904242, .int .u32 2773480762, .int .u32 1359893119, .int .u32 2600822924, .int .u32 528734635, .int .u32 1541459225] from rfl] at Hf
  go_enter Tryd.func9, Tryd.ntmps9
  go_wp2_with (first | (go_at_call 24; (refine Hf.out.mono ?_); rintro e w1 ⟨rfl, hb1⟩; have HB1 := Aside0.mk hb1; clear hb1) | (refine wpList_buildTo rfl 61 #[(0, .tmp 1)] rfl (some 2) rfl (stA firstN (List.replicate 64 0) 0) (by kernel_rfl) ?_))
  go_ret
  exact ⟨w1.heap.size, rfl, HB1.out.size, HashAt_new (blk_new w1 _), below_alloc HB1.out _⟩
set_option maxHeartbeats 8000000 in
set_option maxRecDepth 100000 in
theorem len_calls (g : Nat) (m : List Int) (w : World) (hH : HashAt w g m) : Calls Tryd.prog 22 #[.pointer (some ⟨g, 0, none⟩)] w fun e w' => e = .returned (.int .i64 (m.length : Int)) ∧ w' = w := by
  obtain ⟨h, rest, hb, hh, hr, ht⟩ := hH
  have hn := st_n hb (by rw [hh]; exact hashB_len _ _) hr
  clear hb hh hr ht
  generalize m.length = n at hn ⊢
  go_enter Tryd.func22, Tryd.ntmps22
  go_wp2
  go_ret
  exact ⟨rfl, rfl⟩
set_option maxHeartbeats 8000000 in
set_option maxRecDepth 100000 in
theorem copy_calls (g : Nat) (m : List Int) (w : World) (hH : HashAt w g m) : Calls Tryd.prog 23 #[.pointer (some ⟨g, 0, none⟩)] w fun e w' => ∃ g', e = .returned (.pointer (some ⟨g', 0, none⟩)) ∧ w.heap.size ≤ g' ∧ HashAt w' g' m ∧ Below w.heap.size w w' := by
  obtain ⟨h, rest, hb, hh, hr, ht⟩ := hH
  have HB := Aside0.mk hb
  have HH := Aside0.mk (And.intro hh (And.intro hr ht))
  have hs : (stA h rest m.length).size = 73 := stA_size _ (by rw [hh]; exact hashB_len _ _) hr
  have HS := Aside0.mk hs
  have hone := Aside0.mk (stL_one h rest m.length)
  have HBR := Aside0.mk (Below.refl w.heap.size w)
  clear hb hh hr ht
  generalize hcs : stA h rest m.length = cs at *
  have hz := (zero_of_info (P := Tryd.prog) (t := 61) (v := .agg (stA (List.replicate 8 0) (List.replicate 64 0) 0)) (n := 73) (by kernel_rfl)).1
  have hzs := Aside0.mk (show (stA (List.replicate 8 0) (List.replicate 64 0) 0).size = 73 from rfl)
  generalize stA (List.replicate 8 0) (List.replicate 64 0) 0 = zc at hz hzs
  obtain ⟨N73, h73⟩ : ∃ N : Nat, 73 = N := ⟨_, rfl⟩
  rw [h73] at hs
  have hld : Sem.run Tryd.prog (loadCellsFrom ⟨g, 0, none⟩ 0 N73 #[]) w = .ok cs w := ld_row HB.out hs
  have HCS := Aside0.mk hcs
  clear hcs
  go_enter Tryd.func23, Tryd.ntmps23
  go_wp2
  rw [st_new (P := Tryd.prog) (w := w) (t := 61) (c' := cs) rfl (by rw [HS.out]; kernel_rfl) (by rw [HS.out]; exact hzs.out) hone.out]
  go_wp2
  go_ret
  exact ⟨w.heap.size, rfl, Nat.le_refl _, ⟨h, rest, by rw [HCS.out]; exact blk_new w _, HH.out.1, HH.out.2.1, HH.out.2.2⟩, below_alloc HBR.out _⟩
end Go.Proofs.YthnmpkhjpfhloaaDoor.M
