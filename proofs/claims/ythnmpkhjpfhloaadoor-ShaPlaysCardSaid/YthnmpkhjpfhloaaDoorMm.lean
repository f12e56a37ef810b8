import Derived.Test.YthnmpkhjpfhloaaDoorProg
import Derived.Below
import Derived.Deep.Draws
import Derived.Deep.AppendLies
import Derived.Maps.AppendAt
import Derived.OwnWalk
import Derived.Laws.BytesArg
import Derived.Laws.MakeOwn
import Derived.Laws.OwnMore
import Derived.Deep.OwnRows
import Derived.Tactics
import Derived.Lib.ConvBytes
import Derived.Laws.Slices
import Derived.WalkKit
import Derived.KernelRfl
import Derived.RowKit3
import Derived.Deep.LoopGhost
import Derived.Deep.QuietTactic
import Derived.BigQuiet
import Derived.WideLaws
import Derived.Deep.DeepCutAuto
import Derived.Deep.CutBlock
import Derived.Deep.RegionHeld3
import Derived.Laws.Rows
import Derived.Lib.AppendStr
import Derived.ArgAppend
import Derived.Laws.IdiomCopy
import Derived.OrdersHeld
import Derived.Laws.BitsLemmas
import Derived.RowKit
import Derived.Test.YthnmpkhjpfhloaaDoorWWords
import Derived.Test.YthnmpkhjpfhloaaDoorWLast
import Derived.Test.YthnmpkhjpfhloaaDoorWTab
import Derived.Test.YthnmpkhjpfhloaaDoorWFour
import Derived.Test.YthnmpkhjpfhloaaDoorWQPut
import Derived.Test.YthnmpkhjpfhloaaDoorWApart
import Derived.Test.YthnmpkhjpfhloaaDoorWArr
import Derived.Test.YthnmpkhjpfhloaaDoorWZeros
import Derived.Test.YthnmpkhjpfhloaaDoorWFoot
import Derived.Test.YthnmpkhjpfhloaaDoorWKept
import Derived.Test.YthnmpkhjpfhloaaDoorWShare
import Derived.Test.YthnmpkhjpfhloaaDoorWN
import Derived.Test.YthnmpkhjpfhloaaDoorWFootNe
import Derived.Test.YthnmpkhjpfhloaaDoorWAt
import Derived.Test.YthnmpkhjpfhloaaDoorWEqStruct
import Derived.Test.YthnmpkhjpfhloaaDoorWRepsOne
import Derived.Test.YthnmpkhjpfhloaaDoorWInv
import Derived.Test.YthnmpkhjpfhloaaDoorWInvWords
import Derived.Test.YthnmpkhjpfhloaaDoorWGuard
import Derived.Test.YthnmpkhjpfhloaaDoorWNEv
import Derived.Test.YthnmpkhjpfhloaaDoorWMore
import Derived.Laws.BitsAllLaws
import Derived.StillTailTactics
import Derived.Test.YthnmpkhjpfhloaaDoorMs
import Derived.Deep.WholeRow
import Derived.Test.YthnmpkhjpfhloaaDoorMk
namespace Go.Proofs.YthnmpkhjpfhloaaDoor.M
open Go.RowKit Go.Proofs.YthnmpkhjpfhloaaDoorW.PrintWords Go.Proofs.YthnmpkhjpfhloaaDoorW.PrintLast Go.Proofs.YthnmpkhjpfhloaaDoorW.PrintMore
set_option linter.unusedVariables false
set_option linter.unusedSimpArgs false
theorem C_lt {k : IntKind} {A : Option Addr} {n : Nat} {xs : List Int} {w : World} (h : (Kd.int k).C w A n xs) (hn : 0 < n) : ∀ ad, A = some ad → ad.block < w.heap.size := fun ad e => by
  obtain ⟨ad', e', hc⟩ := h.2.2 hn
  rw [e] at e'
  obtain rfl : ad = ad' := by simpa using e'
  have hl := h.1
  obtain ⟨c, hs, hr, hcell⟩ := hc 0 xs[0] (List.getElem?_eq_getElem (by omega))
  have hr' : c = [.int k (xs[0]'(by omega))] := hr
  have h1 := hcell 0 _ (show c[0]? = some (.int k (xs[0]'(by omega))) by rw [hr']; rfl)
  have hlt := World.block_lt_of_cell? w _ h1
  have hb : (ad.add (0 * (Kd.int k).sz + 0)).block = ad.block := by unfold Addr.add; split <;> rfl
  rw [hb] at hlt
  exact hlt
theorem flat_take (l : List (List Int)) (i : Nat) (h : i < l.length) : (l.take (i + 1)).flatten = (l.take i).flatten ++ l.getD i [] := by
  rw [List.take_add_one, List.flatten_append, List.getD_eq_getElem?_getD, List.getElem?_eq_getElem h]
  simp
theorem flat_le (l : List (List Int)) (i : Nat) : (l.take i).flatten.length ≤ l.flatten.length := by
  conv => rhs; rw [← List.take_append_drop i l, List.flatten_append, List.length_append]
  omega
set_option maxHeartbeats 8000000 in
set_option maxRecDepth 100000 in
set_option pp.deepTerms true in
set_option pp.maxSteps 1000000 in
theorem sum_calls (A : Option Addr) (c : Nat) (l : List (List Int)) (w : World) (hC : Kd.C (Kd.slice 5 (Kd.int .u8)) w A l.length l) (hc : l.length ≤ c) (hT : Tab w) (hm : l.flatten.length < 549755813888) :
    Calls Tryd.prog 11 #[.slice A l.length c] w fun e w' => e = .returned (.agg (arr8 (sumL l.flatten))) ∧ Below w.heap.size w w' := by
  have HC := Aside0.mk hC
  have HM := Aside0.mk hm
  have HT := Aside0.mk hT
  have HLX := Aside0.mk (show l.length ≤ 9223372036854775807 from hC.2.1)
  have HN0 := Aside0.mk (show w.heap.size ≠ 0 by have h_ := World.block_lt_of_cell? w _ (hT 0 (by decide)); intro e; rw [e] at h_; exact Nat.not_lt_zero _ h_)
  have HB0 := Aside0.mk (below_alloc (Below.refl w.heap.size w) (.cells (arr8 (List.replicate 32 0)) 27 (0, 0)))
  have BZ0 := Aside0.mk (blk_new w (.cells (arr8 (List.replicate 32 0)) 27 (0, 0)))
  have Hn := Aside0.mk (new_calls (w.alloc (.cells (arr8 (List.replicate 32 0)) 27 (0, 0))))
  clear hC hm hT hc
  go_enter Tryd.func11, Tryd.ntmps11
  go_wp2_with (first | (go_at_call 9; (refine Hn.out.mono ?_); rintro e w1 ⟨g, rfl, hg, hH, hb1⟩; have HH1 := Aside0.mk hH; have HB1 := Aside0.mk hb1; have HG1 := Aside0.mk hg; clear hH hb1 hg))
  have BZ1 := Aside0.mk (blk_below BZ0.out HB1.out)
  have HBB1 := Aside0.mk (below_step HB0.out HB1.out)
  have HGG := Aside0.mk (show w.heap.size + 1 ≤ g by have := HG1.out; rw [size_alloc1] at this; exact this)
  clear Hn HB0 BZ0 HB1 HG1
  go_loopg [9] l.length (fun k v9 wr => ∃ (i : Nat), v9 = .int .i64 i ∧ i + k = l.length ∧ Aside0 (HashAt wr g (l.take i).flatten) ∧ Aside0 (wr.heap[w.heap.size]? = some (.cells (arr8 (List.replicate 32 0)) 27 (0, 0))) ∧ Aside0 (Below w.heap.size w wr))
  case atStart => exact ⟨0, rfl, Nat.zero_add _, HH1, BZ1, HBB1⟩
  case round =>
    clear HH1 BZ1 HBB1
    obtain ⟨i, rfl, hk, HH, BZ, HB⟩ := hrel
    have HK := Aside0.mk hk
    by_cases hi : i < l.length
    · obtain ⟨ad, A1, c1, rfl, hx, hl1, hC1⟩ := P.at_L1 HC.out (i : Int) (by omega) (by omega)
      have HF := Aside0.mk (flat_take l i hi)
      rw [Int.toNat_natCast] at hx
      rw [show P.rd_L1 l (i : Int) = l.getD i [] from rfl] at hx hl1 hC1
      have HFL := Aside0.mk (flat_le l (i + 1))
      rw [HF.out, List.length_append] at HFL
      generalize l.getD i [] = row at hx hl1 hC1 HF HFL
      have hxr : wr.cell? (ad.add i) = some (.slice A1 row.length c1) := (HB.out.cell (World.block_lt_of_cell? w _ hx)).trans hx
      have Hw := Aside0.mk (write_calls g A1 c1 (l.take i).flatten row wr HH.out (Kd.C_below hC1 HB.out) (fun hp ad e => by have := C_lt hC1 hp ad e; have := HGG.out; omega) hl1 (HT.out.below HB.out) (by have := HGG.out; omega) (by have h1 := HFL.out; have h2 := HM.out; omega))
      rw [← HF.out] at Hw
      have HI := Aside0.mk hi
      clear hk hx hl1 hC1
      have hlx := HLX.out
      go_wp2_with (first | (go_at_call 10; (refine Hw.out.mono ?_); rintro e w5 ⟨⟨v5_, rfl⟩, hh5, hbut5⟩; have HH5 := Aside0.mk hh5; have HBut5 := Aside0.mk hbut5; clear hh5 hbut5))
      go_roundg (gk - 1)
      case measure => (have h1 := HK.out; have h2 := HI.out; omega)
      case rel =>
        have h1 := HK.out
        have h2 := HI.out
        have h3 := HGG.out
        exact ⟨i + 1, by go_num, by omega, HH5, ⟨(HBut5.out.block _ (blk_lt BZ.out) (by omega)).trans BZ.out⟩, ⟨But.below HB.out HBut5.out (by omega)⟩⟩
    · obtain rfl : gk = 0 := by omega
      obtain rfl : i = l.length := by omega
      rw [List.take_length] at HH
      have Hk := Aside0.mk (key_calls g l.flatten wr HH.out (HT.out.below HB.out) HM.out)
      have hs32 : (arr8 (sumL l.flatten)).size = 32 := by rw [arr8_size]; exact sumL_len _
      have HS32 := Aside0.mk hs32
      have hone := Aside0.mk (arr8_one (sumL l.flatten))
      clear hk
      generalize hcs : arr8 (sumL l.flatten) = cs at Hk hs32 HS32 hone
      have HCS := Aside0.mk hcs
      clear hcs
      go_wp2_with (first | (go_at_call 13; (refine Hk.out.mono ?_); rintro e w6 ⟨rfl, hb6⟩; have HB6 := Aside0.mk hb6; clear hb6; have hst : Sem.run Tryd.prog (storeCells ⟨w.heap.size, 0, none⟩ cs.toList) w6 = .ok () (w6.setRow w.heap.size cs) := st_row (blk_below BZ.out HB6.out) (by rw [HS32.out, arr8_size, List.length_replicate]) hone.out))
      refine bodyPost_ret (results_cell_row (p := 2) (ty := 27) rfl _ _ w.heap.size 27 cs (0, 0) _ rfl (setRow_heap _ _ _ _ _ _ (blk_below BZ.out HB6.out)) Tryd.underlying27 rfl (by rw [HS32.out]; kernel_rfl)) rfl ⟨by rw [HCS.out], below_setRow' (below_step HB.out HB6.out) (Nat.le_refl _) _⟩
end Go.Proofs.YthnmpkhjpfhloaaDoor.M
