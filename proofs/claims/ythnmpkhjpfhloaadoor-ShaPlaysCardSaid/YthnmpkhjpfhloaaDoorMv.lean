import Derived.Test.YthnmpkhjpfhloaaDoorProg
import Derived.Below
import Derived.Deep.Draws
import Derived.Deep.AppendLies
import Derived.Maps.AppendAt
import Derived.OwnWalk
import Derived.Laws.BytesArg
import Derived.Laws.MakeOwn
import Derived.Laws.OwnMore
import Derived.Deep.OwnRows
import Derived.Tactics
import Derived.Lib.ConvBytes
import Derived.Laws.Slices
import Derived.WalkKit
import Derived.KernelRfl
import Derived.RowKit3
import Derived.Deep.LoopGhost
import Derived.Deep.QuietTactic
import Derived.BigQuiet
import Derived.WideLaws
import Derived.Deep.DeepCutAuto
import Derived.Deep.CutBlock
import Derived.Deep.RegionHeld3
import Derived.Laws.Rows
import Derived.Lib.AppendStr
import Derived.ArgAppend
import Derived.Laws.IdiomCopy
import Derived.OrdersHeld
import Derived.Laws.BitsLemmas
import Derived.RowKit
import Derived.Test.YthnmpkhjpfhloaaDoorWWords
import Derived.Test.YthnmpkhjpfhloaaDoorWLast
import Derived.Test.YthnmpkhjpfhloaaDoorWTab
import Derived.Test.YthnmpkhjpfhloaaDoorWFour
import Derived.Test.YthnmpkhjpfhloaaDoorWQPut
import Derived.Test.YthnmpkhjpfhloaaDoorWApart
import Derived.Test.YthnmpkhjpfhloaaDoorWArr
import Derived.Test.YthnmpkhjpfhloaaDoorWZeros
import Derived.Test.YthnmpkhjpfhloaaDoorWFoot
import Derived.Test.YthnmpkhjpfhloaaDoorWKept
import Derived.Test.YthnmpkhjpfhloaaDoorWShare
import Derived.Test.YthnmpkhjpfhloaaDoorWN
import Derived.Test.YthnmpkhjpfhloaaDoorWFootNe
import Derived.Test.YthnmpkhjpfhloaaDoorWAt
import Derived.Test.YthnmpkhjpfhloaaDoorWEqStruct
import Derived.Test.YthnmpkhjpfhloaaDoorWRepsOne
import Derived.Test.YthnmpkhjpfhloaaDoorWInv
import Derived.Test.YthnmpkhjpfhloaaDoorWInvWords
import Derived.Test.YthnmpkhjpfhloaaDoorWGuard
import Derived.Test.YthnmpkhjpfhloaaDoorWNEv
import Derived.Test.YthnmpkhjpfhloaaDoorWMore
import Derived.Laws.BitsAllLaws
import Derived.StillTailTactics
import Derived.Test.YthnmpkhjpfhloaaDoorMs
import Derived.Deep.WholeRow
import Derived.Test.YthnmpkhjpfhloaaDoorMu
namespace Go.Proofs.YthnmpkhjpfhloaaDoor.M
open Go.RowKit Go.Proofs.YthnmpkhjpfhloaaDoorW.PrintWords Go.Proofs.YthnmpkhjpfhloaaDoorW.PrintLast Go.Proofs.YthnmpkhjpfhloaaDoorW.PrintMore
set_option linter.unusedVariables false
set_option linter.unusedSimpArgs false
def cut64 (b : List Int) (at_ : Nat) : List Int := (b.drop at_).take 64
theorem cut64_len {b : List Int} {at_ : Nat} (h : at_ + 64 ≤ b.length) : (cut64 b at_).length = 64 := by unfold cut64; rw [List.length_take, List.length_drop]; omega
theorem cut64_at (b : List Int) (at_ j : Nat) (h : j < 64) : byteAt (cut64 b at_) j = byteAt b (at_ + j) := by
  unfold byteAt cut64
  rw [List.getD_eq_getElem?_getD, List.getD_eq_getElem?_getD, List.getElem?_take_of_lt h, List.getElem?_drop]
theorem word_at (b : List Int) (at_ t : Nat) (h : at_ + 64 ≤ b.length) (ht : t < 16) (hb : b.length < 4611686018427387904) : P.kilnref2_word.f b ((at_ + 4 * t : Nat) : Int) = some ((wordAt (cut64 b at_) t : Nat) : Int) := by
  have w1 : wrap64 (((at_ + 4 * t : Nat) : Int) + 1) = ((at_ + (4 * t + 1) : Nat) : Int) := by unfold wrap64; omega
  have w2 : wrap64 (((at_ + 4 * t : Nat) : Int) + 2) = ((at_ + (4 * t + 2) : Nat) : Int) := by unfold wrap64; omega
  have w3 : wrap64 (((at_ + 4 * t : Nat) : Int) + 3) = ((at_ + (4 * t + 3) : Nat) : Int) := by unfold wrap64; omega
  unfold P.kilnref2_word.f
  rw [w1, w2, w3, if_pos (by omega), if_pos (by omega), if_pos (by omega), if_pos (by omega), if_pos (by omega), if_pos (by omega), if_pos (by omega), if_pos (by omega), word4_eq]
  unfold wordAt
  rw [cut64_at _ _ _ (by omega), cut64_at _ _ _ (by omega), cut64_at _ _ _ (by omega), cut64_at _ _ _ (by omega)]
  rfl
set_option maxHeartbeats 8000000 in
set_option maxRecDepth 100000 in
set_option pp.deepTerms true in
set_option pp.maxSteps 1000000 in
theorem block_calls (A : Option Addr) (c : Nat) (p : List Nat) (b : List Int) (at_ : Nat) (w : World) (hh : p.length = 8) (hw : W32 p) (hC : Kd.C (Kd.int .u8) w A b.length b) (hl : at_ + 64 ≤ b.length) (hb : b.length < 4611686018427387904) (hc : b.length ≤ c) :
    Calls Tryd.prog 30 #[aggN p, .slice A b.length c, .int .i64 (at_ : Int), aggN tableL] w fun e w' => e = .returned (aggN (overN p (cut64 b at_))) ∧ Below w.heap.size w w' := by
  have HW := Aside0.mk hw
  have HH := Aside0.mk hh
  have HC := Aside0.mk hC
  have HL := Aside0.mk hl
  have HBL := Aside0.mk hb
  have HCC := Aside0.mk hc
  clear hw hh hC hl hb hc
  unfold aggN
  generalize hcs : arr p = cs
  have Hcs := Aside0.mk hcs
  have H8 := Aside0.mk (show cs.size = 8 by rw [← hcs, arr_size, HH.out])
  clear hcs
  generalize hcsK : arr tableL = csK
  have HcsK := Aside0.mk hcsK
  have H64 := Aside0.mk (show csK.size = 64 by rw [← hcsK, arr_size]; rfl)
  clear hcsK
  have HB0 := Aside0.mk (below_alloc (below_alloc (below_alloc (below_alloc (Below.refl w.heap.size w) (.cells cs 56 (0, 0))) (.cells csK 66 (0, 0))) (.cells (arr (List.replicate 8 0)) 56 (0, 0))) (.cells (arr (List.replicate 64 0)) 66 (0, 0)))
  have HA0 := Aside0.mk (show ((((w.alloc (.cells cs 56 (0, 0))).alloc (.cells csK 66 (0, 0))).alloc (.cells (arr (List.replicate 8 0)) 56 (0, 0))).alloc (.cells (arr (List.replicate 64 0)) 66 (0, 0))).heap[w.heap.size]? = some (.cells cs 56 (0, 0)) from blk_alloc (blk_alloc (blk_alloc (blk_new _ _) _) _) _)
  have HK0 := Aside0.mk (show ((((w.alloc (.cells cs 56 (0, 0))).alloc (.cells csK 66 (0, 0))).alloc (.cells (arr (List.replicate 8 0)) 56 (0, 0))).alloc (.cells (arr (List.replicate 64 0)) 66 (0, 0))).heap[w.heap.size + 1]? = some (.cells csK 66 (0, 0)) from blk_alloc (blk_alloc (heap_alloc2_new _ _ _) _) _)
  have HZ0 := Aside0.mk (show ((((w.alloc (.cells cs 56 (0, 0))).alloc (.cells csK 66 (0, 0))).alloc (.cells (arr (List.replicate 8 0)) 56 (0, 0))).alloc (.cells (arr (List.replicate 64 0)) 66 (0, 0))).heap[w.heap.size + 1 + 1]? = some (.cells (arr (List.replicate 8 0)) 56 (0, 0)) from blk_alloc (by have := blk_new ((w.alloc (.cells cs 56 (0, 0))).alloc (.cells csK 66 (0, 0))) (.cells (arr (List.replicate 8 0)) 56 (0, 0)); rw [size_alloc1, size_alloc1] at this; exact this) _)
  have HW0 := Aside0.mk (show ((((w.alloc (.cells cs 56 (0, 0))).alloc (.cells csK 66 (0, 0))).alloc (.cells (arr (List.replicate 8 0)) 56 (0, 0))).alloc (.cells (arr (List.replicate 64 0)) 66 (0, 0))).heap[w.heap.size + 1 + 1 + 1]? = some (.cells (arr (List.replicate 64 0)) 66 (0, 0)) from by have := blk_new (((w.alloc (.cells cs 56 (0, 0))).alloc (.cells csK 66 (0, 0))).alloc (.cells (arr (List.replicate 8 0)) 56 (0, 0))) (.cells (arr (List.replicate 64 0)) 66 (0, 0)); rw [size_alloc1, size_alloc1, size_alloc1] at this; exact this)
  go_enter Tryd.func30, Tryd.ntmps30
  go_wp2
  go_loopg [10] 16 (fun k v10 wr => ∃ (t : Nat) (l : List Nat), v10 = .int .i64 t ∧ t + k = 16 ∧ l.length = 64 ∧ Aside0 (l = s1 (cut64 b at_) t) ∧ Aside0 (wr.heap[w.heap.size]? = some (.cells cs 56 (0, 0))) ∧ Aside0 (wr.heap[w.heap.size + 1]? = some (.cells csK 66 (0, 0))) ∧ Aside0 (wr.heap[w.heap.size + 1 + 1]? = some (.cells (arr (List.replicate 8 0)) 56 (0, 0))) ∧ Aside0 (wr.heap[w.heap.size + 1 + 1 + 1]? = some (.cells (arr l) 66 (0, 0))) ∧ Aside0 (Below w.heap.size w wr))
  case atStart => exact ⟨0, List.replicate 64 0, rfl, rfl, by simp, ⟨rfl⟩, HA0, HK0, HZ0, HW0, HB0⟩
  case round =>
    clear HA0 HK0 HZ0 HW0 HB0
    obtain ⟨t, l, rfl, hk, hl64, HS, BA, BK, BZ, BW, HB⟩ := hrel
    by_cases ht : t < 16
    · have hc := blk_at BW.out t (by omega)
      have hf := blk_frozen BW.out t
      generalize get l t = v0 at hc
      have hwd := Aside0.mk (word_at b at_ t HL.out ht HBL.out)
      generalize hwx : wordAt (cut64 b at_) t = wt at hwd
      have HWX := Aside0.mk hwx
      clear hwx
      have mt : (t : Int) < 64 := by omega
      go_wp2_with (first | (go_at_call 34; refine calls_of_args (args' := #[.slice A b.length c, .int .i64 ((at_ + 4 * t : Nat) : Int)]) (by have h1 := HL.out; have h2 := HBL.out; have h3 : t < 16 := ht; rw [show wrap64 ((at_ : Int) + 4 * (t : Int)) = ((at_ + 4 * t : Nat) : Int) by unfold wrap64; omega]) ?_; refine (P.kilnref2_word.calls A c b _ _ _ (Kd.C_below HC.out HB.out) HCC.out hwd.out).mono ?_; rintro e w' ⟨rfl, ⟨nd, rfl⟩⟩))
      go_roundg (gk - 1)
      case measure => omega
      case rel =>
        refine ⟨t + 1, l.set t wt, by go_num, by omega, by rw [List.length_set]; exact hl64, ⟨by rw [HS.out, ← HWX.out]; rfl⟩, ⟨blk_far (blk_drewN BA.out nd) (p := ⟨w.heap.size + 1 + 1 + 1, t, none⟩) (by show w.heap.size ≠ w.heap.size + 1 + 1 + 1; omega) _⟩, ⟨blk_far (blk_drewN BK.out nd) (p := ⟨w.heap.size + 1 + 1 + 1, t, none⟩) (by show w.heap.size + 1 ≠ w.heap.size + 1 + 1 + 1; omega) _⟩, ⟨blk_far (blk_drewN BZ.out nd) (p := ⟨w.heap.size + 1 + 1 + 1, t, none⟩) (by show w.heap.size + 1 + 1 ≠ w.heap.size + 1 + 1 + 1; omega) _⟩, ⟨blk_put (blk_drewN BW.out nd) t _ (arr_set l t wt)⟩, ⟨below_set (below_drewN' HB.out nd) (by omega)⟩⟩
    · obtain rfl : gk = 0 := by omega
      obtain rfl : t = 16 := by omega
      have HSX := HS
      have HAX := BA
      have HKX := BK
      have HZX := BZ
      have HWX := BW
      have HBX := HB
      clear HS BA BK BZ BW HB
      go_wp2
      go_loopg [11] 48 (fun k v11 wr => ∃ (t : Nat) (n : Nat) (l : List Nat), v11 = .int .i64 t ∧ n + k = 48 ∧ t = 16 + n ∧ l.length = 64 ∧ Aside0 (l = s2 (cut64 b at_) n) ∧ Aside0 (wr.heap[w.heap.size]? = some (.cells cs 56 (0, 0))) ∧ Aside0 (wr.heap[w.heap.size + 1]? = some (.cells csK 66 (0, 0))) ∧ Aside0 (wr.heap[w.heap.size + 1 + 1]? = some (.cells (arr (List.replicate 8 0)) 56 (0, 0))) ∧ Aside0 (wr.heap[w.heap.size + 1 + 1 + 1]? = some (.cells (arr l) 66 (0, 0))) ∧ Aside0 (Below w.heap.size w wr))
      case atStart => exact ⟨16, 0, l, rfl, rfl, rfl, hl64, HSX, HAX, HKX, HZX, HWX, HBX⟩
      case round =>
        clear hl64 HSX HAX HKX HZX HWX HBX
        clear l
        obtain ⟨t, n, l, rfl, hk2, htn, hl64, HS, BA, BK, BZ, BW, HB⟩ := hrel
        by_cases hn : t < 64
        · have HTN := Aside0.mk htn
          have HK := Aside0.mk hk2
          have n15 : IntKind.i64.wrap ((t : Int) - 15) = ((t - 15 : Nat) : Int) := by rw [i64w (by omega) (by omega)]; omega
          have n2 : IntKind.i64.wrap ((t : Int) - 2) = ((t - 2 : Nat) : Int) := by rw [i64w (by omega) (by omega)]; omega
          have n7 : IntKind.i64.wrap ((t : Int) - 7) = ((t - 7 : Nat) : Int) := by rw [i64w (by omega) (by omega)]; omega
          have n16 : IntKind.i64.wrap ((t : Int) - 16) = ((t - 16 : Nat) : Int) := by rw [i64w (by omega) (by omega)]; omega
          have c15 := blk_at BW.out (t - 15) (by omega)
          have c2 := blk_at BW.out (t - 2) (by omega)
          have c7 := blk_at BW.out (t - 7) (by omega)
          have c16 := blk_at BW.out (t - 16) (by omega)
          have c0 := blk_at BW.out t (by omega)
          have f0 := blk_frozen BW.out t
          have l15 : ((t - 15 : Nat) : Int) < 64 := by omega
          have l2 : ((t - 2 : Nat) : Int) < 64 := by omega
          have l7 : ((t - 7 : Nat) : Int) < 64 := by omega
          have l16 : ((t - 16 : Nat) : Int) < 64 := by omega
          have l0 : (t : Int) < 64 := by omega
          have hx := (s2_lt (cut64 b at_) n) (t - 15)
          have hy := (s2_lt (cut64 b at_) n) (t - 2)
          rw [← HS.out] at hx hy
          have HX := Aside0.mk hx
          have HY := Aside0.mk hy
          have HL64 := Aside0.mk hl64
          clear htn hk2 hx hy hl64
          have HST := Aside0.mk (show s2step l t = addN (addN (ssig1 (get l (t - 2))) (addN (get l (t - 7)) (get l (t - 16)))) (ssig0 (get l (t - 15))) from rfl)
          generalize get l (t - 15) = x at c15 HX HST
          generalize get l (t - 2) = y at c2 HY HST
          generalize get l (t - 7) = v7 at c7 HST
          generalize get l (t - 16) = v16 at c16 HST
          generalize get l t = v0 at c0
          generalize t - 15 = p15 at n15 c15 l15
          generalize t - 2 = p2 at n2 c2 l2
          generalize t - 7 = p7 at n7 c7 l7
          generalize t - 16 = p16 at n16 c16 l16
          go_wp2
          go_quiet (fail)
          have r7 := fun w => rotr_still x 7 7 w rfl HX.out (by decide) (by decide)
          have r18 := fun w => rotr_still x 18 18 w rfl HX.out (by decide) (by decide)
          have r17 := fun w => rotr_still y 17 17 w rfl HY.out (by decide) (by decide)
          have r19 := fun w => rotr_still y 19 19 w rfl HY.out (by decide) (by decide)
          go_wp2_with (first | (go_at_call 35; (with_reducible refine (r7 _).mono ?_); rintro e w' ⟨rfl, rfl⟩) | (go_at_call 35; (with_reducible refine (r18 _).mono ?_); rintro e w' ⟨rfl, rfl⟩) | (go_at_call 35; (with_reducible refine (r17 _).mono ?_); rintro e w' ⟨rfl, rfl⟩) | (go_at_call 35; (with_reducible refine (r19 _).mono ?_); rintro e w' ⟨rfl, rfl⟩))
          have E0 : bits .xor .u32 (bits .xor .u32 ((rotN 7 x : Nat) : Int) ((rotN 18 x : Nat) : Int)) ((x : Int) / 8) = ((ssig0 x : Nat) : Int) := by
            rw [show (x : Int) / 8 = ((x / 8 : Nat) : Int) by omega]; exact sig_eq (rotN_lt _ HX.out) (rotN_lt _ HX.out) (div_lt32 _ HX.out)
          have E1 : bits .xor .u32 (bits .xor .u32 ((rotN 17 y : Nat) : Int) ((rotN 19 y : Nat) : Int)) ((y : Int) / 1024) = ((ssig1 y : Nat) : Int) := by
            rw [show (y : Int) / 1024 = ((y / 1024 : Nat) : Int) by omega]; exact sig_eq (rotN_lt _ HY.out) (rotN_lt _ HY.out) (div_lt32 _ HY.out)
          rw [E0, E1]
          clear E0 E1 r7 r18 r17 r19
          generalize ssig0 x = g0 at HST ⊢
          generalize ssig1 y = g1 at HST ⊢
          replace c7 : (wr.drewN nq).cell? ⟨w.heap.size + 1 + 1 + 1, p7, none⟩ = some (.int .u32 (v7 : Int)) := c7
          replace c16 : (wr.drewN nq).cell? ⟨w.heap.size + 1 + 1 + 1, p16, none⟩ = some (.int .u32 (v16 : Int)) := c16
          replace c0 : (wr.drewN nq).cell? ⟨w.heap.size + 1 + 1 + 1, t, none⟩ = some (.int .u32 (v0 : Int)) := c0
          replace f0 : (wr.drewN nq).frozen? ⟨w.heap.size + 1 + 1 + 1, t, none⟩ = false := f0
          replace BA : Aside0 ((wr.drewN nq).heap[w.heap.size]? = some (.cells cs 56 (0, 0))) := BA
          replace BK : Aside0 ((wr.drewN nq).heap[w.heap.size + 1]? = some (.cells csK 66 (0, 0))) := BK
          replace BZ : Aside0 ((wr.drewN nq).heap[w.heap.size + 1 + 1]? = some (.cells (arr (List.replicate 8 0)) 56 (0, 0))) := BZ
          replace BW : Aside0 ((wr.drewN nq).heap[w.heap.size + 1 + 1 + 1]? = some (.cells (arr l) 66 (0, 0))) := BW
          replace HB := Aside0.mk (below_drewN' HB.out nq)
          generalize wr.drewN nq = wa at c7 c16 c0 f0 BA BK BZ BW HB ⊢
          clear c15 c2
          go_wp2
          go_still_tail 15, (by kernel_rfl)
          change wpList _ _ _ _ _ wa.drew
          replace c0 : (wa.drew).cell? ⟨w.heap.size + 1 + 1 + 1, t, none⟩ = some (.int .u32 (v0 : Int)) := c0
          replace f0 : (wa.drew).frozen? ⟨w.heap.size + 1 + 1 + 1, t, none⟩ = false := f0
          replace BA : Aside0 ((wa.drew).heap[w.heap.size]? = some (.cells cs 56 (0, 0))) := BA
          replace BK : Aside0 ((wa.drew).heap[w.heap.size + 1]? = some (.cells csK 66 (0, 0))) := BK
          replace BZ : Aside0 ((wa.drew).heap[w.heap.size + 1 + 1]? = some (.cells (arr (List.replicate 8 0)) 56 (0, 0))) := BZ
          replace BW : Aside0 ((wa.drew).heap[w.heap.size + 1 + 1 + 1]? = some (.cells (arr l) 66 (0, 0))) := BW
          replace HB := Aside0.mk (below_drew1 HB.out)
          generalize wa.drew = wb at c0 f0 BA BK BZ BW HB ⊢
          clear c7 c16
          go_wp2
          have E3 : ((g1 : Int) + (v7 : Int) + (g0 : Int) + (v16 : Int)) % 4294967296 = ((s2step l t : Nat) : Int) := by rw [HST.out]; unfold addN; omega
          rw [E3]
          go_roundg (gk - 1)
          case measure => (have hk2 := HK.out; have htn := HTN.out; omega)
          case rel =>
            have hk2 := HK.out
            have htn := HTN.out
            refine ⟨t + 1, n + 1, l.set t (s2step l t), by go_num, by omega, by omega, by rw [List.length_set]; exact HL64.out, ⟨by rw [s2, ← HS.out, htn]⟩, ⟨blk_far (BA.out) (p := ⟨w.heap.size + 1 + 1 + 1, t, none⟩) (by show w.heap.size ≠ w.heap.size + 1 + 1 + 1; omega) _⟩, ⟨blk_far (BK.out) (p := ⟨w.heap.size + 1 + 1 + 1, t, none⟩) (by show w.heap.size + 1 ≠ w.heap.size + 1 + 1 + 1; omega) _⟩, ⟨blk_far (BZ.out) (p := ⟨w.heap.size + 1 + 1 + 1, t, none⟩) (by show w.heap.size + 1 + 1 ≠ w.heap.size + 1 + 1 + 1; omega) _⟩, ⟨blk_put BW.out t _ (arr_set l t _)⟩, ⟨below_set HB.out (by omega)⟩⟩
        · obtain rfl : t = 64 := by omega
          obtain rfl : n = 48 := by omega
          have HS2 := HS
          rw [show s2 (cut64 b at_) 48 = spreadN (cut64 b at_) from rfl] at HS2
          have HLS := Aside0.mk hl64
          clear htn hk2 hl64 HS
          obtain ⟨N8, h8⟩ : ∃ N : Nat, 8 = N := ⟨_, rfl⟩
          have hs8 := H8.out
          rw [h8] at hs8
          have hld : Sem.run Tryd.prog (loadCellsFrom ⟨w.heap.size, 0, none⟩ 0 N8 #[]) wr = .ok cs wr := ld_row BA.out hs8
          go_wp2
          rw [st_new (P := Tryd.prog) (w := wr) (t := 56) (c' := cs) rfl (by rw [H8.out]; kernel_rfl) (by rw [H8.out]; rfl) (by rw [← Hcs.out]; exact arr_one _)]
          clear hld h8 hs8
          have BA' := Aside0.mk (blk_alloc BA.out (.cells cs 56))
          have BK' := Aside0.mk (blk_alloc BK.out (.cells cs 56))
          have BZ' := Aside0.mk (blk_alloc BZ.out (.cells cs 56))
          have BW' := Aside0.mk (blk_alloc BW.out (.cells cs 56))
          have BS' := Aside0.mk (blk_new wr (.cells cs 56))
          have HB' := Aside0.mk (below_alloc HB.out (.cells cs 56))
          have HNS := Aside0.mk (blk_lt BW.out)
          clear BA BK BZ BW HB
          generalize wr.alloc (.cells cs 56) = wq at BA' BK' BZ' BW' BS' HB' ⊢
          generalize wr.heap.size = nS at BS' HNS ⊢
          rw [HS2.out] at BW'
          rw [← Hcs.out] at BA' BS'
          rw [← HcsK.out] at BK'
          clear HS2 HLS
          clear l
          go_wp2
          go_loopg [17] 64 (fun k v17 wr => ∃ (t : Nat) (s : List Nat), v17 = .int .i64 t ∧ t + k = 64 ∧ Aside0 (s = rnds p (spreadN (cut64 b at_)) t) ∧ Aside0 (wr.heap[nS]? = some (.cells (arr s) 56 (0, 0))) ∧ Aside0 (wr.heap[w.heap.size]? = some (.cells (arr p) 56 (0, 0))) ∧ Aside0 (wr.heap[w.heap.size + 1]? = some (.cells (arr tableL) 66 (0, 0))) ∧ Aside0 (wr.heap[w.heap.size + 1 + 1]? = some (.cells (arr (List.replicate 8 0)) 56 (0, 0))) ∧ Aside0 (wr.heap[w.heap.size + 1 + 1 + 1]? = some (.cells (arr (spreadN (cut64 b at_))) 66 (0, 0))) ∧ Aside0 (Below w.heap.size w wr))
          case atStart => exact ⟨0, p, rfl, rfl, ⟨rfl⟩, BS', BA', BK', BZ', BW', HB'⟩
          case round =>
            clear BA' BK' BZ' BW' BS' HB'
            obtain ⟨t, s, rfl, hk, HS, BS, BA, BK, BZ, BW, HB⟩ := hrel
            by_cases ht : t < 64
            · have hs8 : s.length = 8 := by rw [HS.out]; exact rnds_len HH.out _ t
              have hsl : W32 s := by rw [HS.out]; exact rnds_lt HW.out _ t
              have c0 := blk_at BS.out 0 (by rw [hs8]; decide)
              have c1 := blk_at BS.out 1 (by rw [hs8]; decide)
              have c2 := blk_at BS.out 2 (by rw [hs8]; decide)
              have c3 := blk_at BS.out 3 (by rw [hs8]; decide)
              have c4 := blk_at BS.out 4 (by rw [hs8]; decide)
              have c5 := blk_at BS.out 5 (by rw [hs8]; decide)
              have c6 := blk_at BS.out 6 (by rw [hs8]; decide)
              have c7 := blk_at BS.out 7 (by rw [hs8]; decide)
              have f0 := blk_frozen BS.out 0
              have f1 := blk_frozen BS.out 1
              have f2 := blk_frozen BS.out 2
              have f3 := blk_frozen BS.out 3
              have f4 := blk_frozen BS.out 4
              have f5 := blk_frozen BS.out 5
              have f6 := blk_frozen BS.out 6
              have f7 := blk_frozen BS.out 7
              have q0 := hsl 0
              have q1 := hsl 1
              have q2 := hsl 2
              have q3 := hsl 3
              have q4 := hsl 4
              have q5 := hsl 5
              have q6 := hsl 6
              have q7 := hsl 7
              have ct := blk_at BW.out t (by rw [spreadN_len]; exact ht)
              have cK := blk_at BK.out t (show t < 64 from ht)
              have hwl := spreadN_lt (cut64 b at_) t
              have hkl := tableL_lt t
              have HK := Aside0.mk hk
              clear hk hs8 hsl
              generalize hg0 : get s 0 = s0 at c0
              rw [hg0] at q0
              have G0 := Aside0.mk hg0
              have Q0 := Aside0.mk q0
              clear hg0 q0
              generalize hg1 : get s 1 = s1 at c1
              rw [hg1] at q1
              have G1 := Aside0.mk hg1
              have Q1 := Aside0.mk q1
              clear hg1 q1
              generalize hg2 : get s 2 = s2 at c2
              rw [hg2] at q2
              have G2 := Aside0.mk hg2
              have Q2 := Aside0.mk q2
              clear hg2 q2
              generalize hg3 : get s 3 = s3 at c3
              rw [hg3] at q3
              have G3 := Aside0.mk hg3
              have Q3 := Aside0.mk q3
              clear hg3 q3
              generalize hg4 : get s 4 = s4 at c4
              rw [hg4] at q4
              have G4 := Aside0.mk hg4
              have Q4 := Aside0.mk q4
              clear hg4 q4
              generalize hg5 : get s 5 = s5 at c5
              rw [hg5] at q5
              have G5 := Aside0.mk hg5
              have Q5 := Aside0.mk q5
              clear hg5 q5
              generalize hg6 : get s 6 = s6 at c6
              rw [hg6] at q6
              have G6 := Aside0.mk hg6
              have Q6 := Aside0.mk q6
              clear hg6 q6
              generalize hg7 : get s 7 = s7 at c7
              rw [hg7] at q7
              have G7 := Aside0.mk hg7
              have Q7 := Aside0.mk q7
              clear hg7 q7
              generalize hgw : get (spreadN (cut64 b at_)) t = wt at ct hwl
              have Gwt := Aside0.mk hgw
              have Qwt := Aside0.mk hwl
              clear hgw hwl
              generalize hgk : get tableL t = kt at cK hkl
              have Gkt := Aside0.mk hgk
              have Qkt := Aside0.mk hkl
              clear hgk hkl
              have mt : (t : Int) < 64 := by omega
              go_wp2
              go_quiet (fail)
              have r6 := fun w => rotr_still s4 6 6 w rfl Q4.out (by decide) (by decide)
              have r11 := fun w => rotr_still s4 11 11 w rfl Q4.out (by decide) (by decide)
              have r25 := fun w => rotr_still s4 25 25 w rfl Q4.out (by decide) (by decide)
              have r2 := fun w => rotr_still s0 2 2 w rfl Q0.out (by decide) (by decide)
              have r13 := fun w => rotr_still s0 13 13 w rfl Q0.out (by decide) (by decide)
              have r22 := fun w => rotr_still s0 22 22 w rfl Q0.out (by decide) (by decide)
              go_wp2_with (first | (go_at_call 35; (with_reducible refine (r6 _).mono ?_); rintro e w' ⟨rfl, rfl⟩) | (go_at_call 35; (with_reducible refine (r11 _).mono ?_); rintro e w' ⟨rfl, rfl⟩) | (go_at_call 35; (with_reducible refine (r25 _).mono ?_); rintro e w' ⟨rfl, rfl⟩) | (go_at_call 35; (with_reducible refine (r2 _).mono ?_); rintro e w' ⟨rfl, rfl⟩) | (go_at_call 35; (with_reducible refine (r13 _).mono ?_); rintro e w' ⟨rfl, rfl⟩) | (go_at_call 35; (with_reducible refine (r22 _).mono ?_); rintro e w' ⟨rfl, rfl⟩))
              clear r6 r11 r25 r2 r13 r22
              have E0 : bits .xor .u32 (bits .xor .u32 ((rotN 6 s4 : Nat) : Int) ((rotN 11 s4 : Nat) : Int)) ((rotN 25 s4 : Nat) : Int) = ((bsig1 s4 : Nat) : Int) := sig_eq (rotN_lt _ Q4.out) (rotN_lt _ Q4.out) (rotN_lt _ Q4.out)
              have E1 : bits .xor .u32 (bits .xor .u32 ((rotN 2 s0 : Nat) : Int) ((rotN 13 s0 : Nat) : Int)) ((rotN 22 s0 : Nat) : Int) = ((bsig0 s0 : Nat) : Int) := sig_eq (rotN_lt _ Q0.out) (rotN_lt _ Q0.out) (rotN_lt _ Q0.out)
              rw [E0, E1]
              clear E0 E1
              generalize hx1 : bsig1 s4 = b1
              have X1 := Aside0.mk hx1
              clear hx1
              generalize hx3 : bsig0 s0 = x3
              have X3 := Aside0.mk hx3
              clear hx3
              generalize rotN 6 s4 = j1
              generalize rotN 11 s4 = j2
              generalize rotN 25 s4 = j3
              generalize rotN 2 s0 = j4
              generalize rotN 13 s0 = j5
              generalize rotN 22 s0 = j6
              replace c0 : (wr.drewN nq).cell? ⟨nS, 0, none⟩ = some (.int .u32 (s0 : Int)) := c0
              replace c1 : (wr.drewN nq).cell? ⟨nS, 1, none⟩ = some (.int .u32 (s1 : Int)) := c1
              replace c2 : (wr.drewN nq).cell? ⟨nS, 2, none⟩ = some (.int .u32 (s2 : Int)) := c2
              replace c3 : (wr.drewN nq).cell? ⟨nS, 3, none⟩ = some (.int .u32 (s3 : Int)) := c3
              replace c4 : (wr.drewN nq).cell? ⟨nS, 4, none⟩ = some (.int .u32 (s4 : Int)) := c4
              replace c5 : (wr.drewN nq).cell? ⟨nS, 5, none⟩ = some (.int .u32 (s5 : Int)) := c5
              replace c6 : (wr.drewN nq).cell? ⟨nS, 6, none⟩ = some (.int .u32 (s6 : Int)) := c6
              replace c7 : (wr.drewN nq).cell? ⟨nS, 7, none⟩ = some (.int .u32 (s7 : Int)) := c7
              replace ct : (wr.drewN nq).cell? ⟨w.heap.size + 1 + 1 + 1, t, none⟩ = some (.int .u32 (wt : Int)) := ct
              replace cK : (wr.drewN nq).cell? ⟨w.heap.size + 1, t, none⟩ = some (.int .u32 (kt : Int)) := cK
              replace f0 : (wr.drewN nq).frozen? ⟨nS, 0, none⟩ = false := f0
              replace f1 : (wr.drewN nq).frozen? ⟨nS, 1, none⟩ = false := f1
              replace f2 : (wr.drewN nq).frozen? ⟨nS, 2, none⟩ = false := f2
              replace f3 : (wr.drewN nq).frozen? ⟨nS, 3, none⟩ = false := f3
              replace f4 : (wr.drewN nq).frozen? ⟨nS, 4, none⟩ = false := f4
              replace f5 : (wr.drewN nq).frozen? ⟨nS, 5, none⟩ = false := f5
              replace f6 : (wr.drewN nq).frozen? ⟨nS, 6, none⟩ = false := f6
              replace f7 : (wr.drewN nq).frozen? ⟨nS, 7, none⟩ = false := f7
              replace BS : Aside0 ((wr.drewN nq).heap[nS]? = some (.cells (arr s) 56 (0, 0))) := BS
              replace BA : Aside0 ((wr.drewN nq).heap[w.heap.size]? = some (.cells (arr p) 56 (0, 0))) := BA
              replace BK : Aside0 ((wr.drewN nq).heap[w.heap.size + 1]? = some (.cells (arr tableL) 66 (0, 0))) := BK
              replace BZ : Aside0 ((wr.drewN nq).heap[w.heap.size + 1 + 1]? = some (.cells (arr (List.replicate 8 0)) 56 (0, 0))) := BZ
              replace BW : Aside0 ((wr.drewN nq).heap[w.heap.size + 1 + 1 + 1]? = some (.cells (arr (spreadN (cut64 b at_))) 66 (0, 0))) := BW
              replace HB := Aside0.mk (below_drewN' HB.out nq)
              generalize wr.drewN nq = wa at c0 c1 c2 c3 c4 c5 c6 c7 ct cK f0 f1 f2 f3 f4 f5 f6 f7 BS BA BK BZ BW HB ⊢
              clear nq
              go_quiet (fail)
              rw [show (if IntKind.u32.signed = true then (-1 : Int) else IntKind.u32.max) = IntKind.u32.max from rfl, ch_eq Q4.out Q5.out Q6.out]
              have E2 : (((s7 : Int) + (b1 : Int) + ((chN s4 s5 s6 : Nat) : Int) + (kt : Int)) % 4294967296 + (wt : Int)) % 4294967296 = ((addN (addN (addN (addN s7 wt) kt) b1) (chN s4 s5 s6) : Nat) : Int) := by unfold addN; omega
              rw [E2]
              clear E2 ct cK
              generalize hx2 : addN (addN (addN (addN s7 wt) kt) b1) (chN s4 s5 s6) = x2
              have X2 := Aside0.mk hx2
              clear hx2
              generalize chN s4 s5 s6 = j7
              replace c0 : (wa.drewN nq).cell? ⟨nS, 0, none⟩ = some (.int .u32 (s0 : Int)) := c0
              replace c1 : (wa.drewN nq).cell? ⟨nS, 1, none⟩ = some (.int .u32 (s1 : Int)) := c1
              replace c2 : (wa.drewN nq).cell? ⟨nS, 2, none⟩ = some (.int .u32 (s2 : Int)) := c2
              replace c3 : (wa.drewN nq).cell? ⟨nS, 3, none⟩ = some (.int .u32 (s3 : Int)) := c3
              replace c4 : (wa.drewN nq).cell? ⟨nS, 4, none⟩ = some (.int .u32 (s4 : Int)) := c4
              replace c5 : (wa.drewN nq).cell? ⟨nS, 5, none⟩ = some (.int .u32 (s5 : Int)) := c5
              replace c6 : (wa.drewN nq).cell? ⟨nS, 6, none⟩ = some (.int .u32 (s6 : Int)) := c6
              replace c7 : (wa.drewN nq).cell? ⟨nS, 7, none⟩ = some (.int .u32 (s7 : Int)) := c7
              replace f0 : (wa.drewN nq).frozen? ⟨nS, 0, none⟩ = false := f0
              replace f1 : (wa.drewN nq).frozen? ⟨nS, 1, none⟩ = false := f1
              replace f2 : (wa.drewN nq).frozen? ⟨nS, 2, none⟩ = false := f2
              replace f3 : (wa.drewN nq).frozen? ⟨nS, 3, none⟩ = false := f3
              replace f4 : (wa.drewN nq).frozen? ⟨nS, 4, none⟩ = false := f4
              replace f5 : (wa.drewN nq).frozen? ⟨nS, 5, none⟩ = false := f5
              replace f6 : (wa.drewN nq).frozen? ⟨nS, 6, none⟩ = false := f6
              replace f7 : (wa.drewN nq).frozen? ⟨nS, 7, none⟩ = false := f7
              replace BS : Aside0 ((wa.drewN nq).heap[nS]? = some (.cells (arr s) 56 (0, 0))) := BS
              replace BA : Aside0 ((wa.drewN nq).heap[w.heap.size]? = some (.cells (arr p) 56 (0, 0))) := BA
              replace BK : Aside0 ((wa.drewN nq).heap[w.heap.size + 1]? = some (.cells (arr tableL) 66 (0, 0))) := BK
              replace BZ : Aside0 ((wa.drewN nq).heap[w.heap.size + 1 + 1]? = some (.cells (arr (List.replicate 8 0)) 56 (0, 0))) := BZ
              replace BW : Aside0 ((wa.drewN nq).heap[w.heap.size + 1 + 1 + 1]? = some (.cells (arr (spreadN (cut64 b at_))) 66 (0, 0))) := BW
              replace HB := Aside0.mk (below_drewN' HB.out nq)
              generalize wa.drewN nq = wb at c0 c1 c2 c3 c4 c5 c6 c7 f0 f1 f2 f3 f4 f5 f6 f7 BS BA BK BZ BW HB ⊢
              clear nq
              go_wp2
              go_roundg (gk - 1)
              case measure => (have hk := HK.out; omega)
              case rel =>
                have hk := HK.out
                have hs8 : s.length = 8 := by rw [HS.out]; exact rnds_len HH.out _ t
                have hss := HNS.out
                have E4 : ((x2 : Int) + ((x3 : Int) + bits .xor .u32 (bits .xor .u32 (bits .and .u32 (s0 : Int) (s1 : Int)) (bits .and .u32 (s0 : Int) (s2 : Int))) (bits .and .u32 (s1 : Int) (s2 : Int)))) % 4294967296 = ((addN x2 (addN x3 (majN s0 s1 s2)) : Nat) : Int) := by
                  rw [maj_eq Q0.out Q1.out Q2.out]; unfold addN; omega
                rw [E4, add_eq s3 x2]
                refine ⟨t + 1, rnds p (spreadN (cut64 b at_)) (t + 1), by go_num, by omega, ⟨rfl⟩, ⟨?_⟩, ⟨blk_far (blk_far (blk_far (blk_far (blk_far (blk_far (blk_far (blk_far (BA.out) (p := ⟨nS, 0, none⟩) (by show w.heap.size ≠ nS; omega) _) (p := ⟨nS, 1, none⟩) (by show w.heap.size ≠ nS; omega) _) (p := ⟨nS, 2, none⟩) (by show w.heap.size ≠ nS; omega) _) (p := ⟨nS, 3, none⟩) (by show w.heap.size ≠ nS; omega) _) (p := ⟨nS, 4, none⟩) (by show w.heap.size ≠ nS; omega) _) (p := ⟨nS, 5, none⟩) (by show w.heap.size ≠ nS; omega) _) (p := ⟨nS, 6, none⟩) (by show w.heap.size ≠ nS; omega) _) (p := ⟨nS, 7, none⟩) (by show w.heap.size ≠ nS; omega) _⟩, ⟨blk_far (blk_far (blk_far (blk_far (blk_far (blk_far (blk_far (blk_far (BK.out) (p := ⟨nS, 0, none⟩) (by show w.heap.size + 1 ≠ nS; omega) _) (p := ⟨nS, 1, none⟩) (by show w.heap.size + 1 ≠ nS; omega) _) (p := ⟨nS, 2, none⟩) (by show w.heap.size + 1 ≠ nS; omega) _) (p := ⟨nS, 3, none⟩) (by show w.heap.size + 1 ≠ nS; omega) _) (p := ⟨nS, 4, none⟩) (by show w.heap.size + 1 ≠ nS; omega) _) (p := ⟨nS, 5, none⟩) (by show w.heap.size + 1 ≠ nS; omega) _) (p := ⟨nS, 6, none⟩) (by show w.heap.size + 1 ≠ nS; omega) _) (p := ⟨nS, 7, none⟩) (by show w.heap.size + 1 ≠ nS; omega) _⟩, ⟨blk_far (blk_far (blk_far (blk_far (blk_far (blk_far (blk_far (blk_far (BZ.out) (p := ⟨nS, 0, none⟩) (by show w.heap.size + 1 + 1 ≠ nS; omega) _) (p := ⟨nS, 1, none⟩) (by show w.heap.size + 1 + 1 ≠ nS; omega) _) (p := ⟨nS, 2, none⟩) (by show w.heap.size + 1 + 1 ≠ nS; omega) _) (p := ⟨nS, 3, none⟩) (by show w.heap.size + 1 + 1 ≠ nS; omega) _) (p := ⟨nS, 4, none⟩) (by show w.heap.size + 1 + 1 ≠ nS; omega) _) (p := ⟨nS, 5, none⟩) (by show w.heap.size + 1 + 1 ≠ nS; omega) _) (p := ⟨nS, 6, none⟩) (by show w.heap.size + 1 + 1 ≠ nS; omega) _) (p := ⟨nS, 7, none⟩) (by show w.heap.size + 1 + 1 ≠ nS; omega) _⟩, ⟨blk_far (blk_far (blk_far (blk_far (blk_far (blk_far (blk_far (blk_far (BW.out) (p := ⟨nS, 0, none⟩) (by show w.heap.size + 1 + 1 + 1 ≠ nS; omega) _) (p := ⟨nS, 1, none⟩) (by show w.heap.size + 1 + 1 + 1 ≠ nS; omega) _) (p := ⟨nS, 2, none⟩) (by show w.heap.size + 1 + 1 + 1 ≠ nS; omega) _) (p := ⟨nS, 3, none⟩) (by show w.heap.size + 1 + 1 + 1 ≠ nS; omega) _) (p := ⟨nS, 4, none⟩) (by show w.heap.size + 1 + 1 + 1 ≠ nS; omega) _) (p := ⟨nS, 5, none⟩) (by show w.heap.size + 1 + 1 + 1 ≠ nS; omega) _) (p := ⟨nS, 6, none⟩) (by show w.heap.size + 1 + 1 + 1 ≠ nS; omega) _) (p := ⟨nS, 7, none⟩) (by show w.heap.size + 1 + 1 + 1 ≠ nS; omega) _⟩, ⟨below_set (below_set (below_set (below_set (below_set (below_set (below_set (below_set (HB.out) (g := nS) (by omega)) (g := nS) (by omega)) (g := nS) (by omega)) (g := nS) (by omega)) (g := nS) (by omega)) (g := nS) (by omega)) (g := nS) (by omega)) (g := nS) (by omega)⟩⟩
                have hr : rnds p (spreadN (cut64 b at_)) (t + 1) = [addN x2 (addN x3 (majN s0 s1 s2)), s0, s1, s2, addN s3 x2, s4, s5, s6] := by
                  rw [rnds, ← HS.out, Gwt.out, Gkt.out]
                  unfold rnd
                  simp only [G0.out, G1.out, G2.out, G3.out, G4.out, G5.out, G6.out, G7.out, X1.out, X2.out, X3.out]
                rw [hr]
                exact blk_put (blk_put (blk_put (blk_put (blk_put (blk_put (blk_put (blk_put (BS.out) 0 _ (arr_set _ 0 _)) 1 _ (arr_set _ 1 _)) 2 _ (arr_set _ 2 _)) 3 _ (arr_set _ 3 _)) 4 _ (arr_set _ 4 _)) 5 _ (arr_set _ 5 _)) 6 _ (arr_set _ 6 _)) 7 _ ((arr_set _ 7 _).trans (congrArg arr (set_eight hs8 _ _ _ _ _ _ _ _)))
            · obtain rfl : gk = 0 := by omega
              obtain rfl : t = 64 := by omega
              have HS1 := HS
              have HSX := BS
              have HAX := BA
              have HZX := BZ
              have HBX := HB
              clear BS BA BZ HB BK BW HS hk
              go_wp2
              go_loopg [24] 8 (fun k v24 wr => ∃ (i : Nat) (q : List Nat), v24 = .int .i64 i ∧ i + k = 8 ∧ Aside0 (q = fin p s i) ∧ Aside0 (wr.heap[nS]? = some (.cells (arr s) 56 (0, 0))) ∧ Aside0 (wr.heap[w.heap.size]? = some (.cells (arr q) 56 (0, 0))) ∧ Aside0 (wr.heap[w.heap.size + 1 + 1]? = some (.cells (arr (List.replicate 8 0)) 56 (0, 0))) ∧ Aside0 (Below w.heap.size w wr))
              case atStart => exact ⟨0, p, rfl, rfl, ⟨rfl⟩, HSX, HAX, HZX, HBX⟩
              case round =>
                clear HSX HAX HZX HBX
                obtain ⟨i, q, rfl, hk, HQ, BS, BA, BZ, HB⟩ := hrel
                by_cases hi : i < 8
                · have hq8 : q.length = 8 := by rw [HQ.out, fin_len]; exact HH.out
                  have hs8 : s.length = 8 := by rw [HS1.out]; exact rnds_len HH.out _ _
                  have ca := blk_at BA.out i (by omega)
                  have cb := blk_at BS.out i (by omega)
                  have fa := blk_frozen BA.out i
                  have HK := Aside0.mk hk
                  have hn : ¬ (w.heap.size = nS) := by have := HNS.out; omega
                  clear hk hq8 hs8
                  generalize hga : get q i = va at ca
                  have GA := Aside0.mk hga
                  generalize hgb : get s i = vb at cb
                  have GB := Aside0.mk hgb
                  clear hga hgb
                  have mi : (i : Int) < 8 := by omega
                  go_wp2
                  go_still_tail 9, (by kernel_rfl)
                  change wpList _ _ _ _ _ wr.drew
                  replace ca : (wr.drew).cell? ⟨w.heap.size, i, none⟩ = some (.int .u32 (va : Int)) := ca
                  replace fa : (wr.drew).frozen? ⟨w.heap.size, i, none⟩ = false := fa
                  replace BS : Aside0 ((wr.drew).heap[nS]? = some (.cells (arr s) 56 (0, 0))) := BS
                  replace BA : Aside0 ((wr.drew).heap[w.heap.size]? = some (.cells (arr q) 56 (0, 0))) := BA
                  replace BZ : Aside0 ((wr.drew).heap[w.heap.size + 1 + 1]? = some (.cells (arr (List.replicate 8 0)) 56 (0, 0))) := BZ
                  replace HB := Aside0.mk (below_drew1 HB.out)
                  generalize wr.drew = wd at ca fa BS BA BZ HB ⊢
                  clear cb
                  go_wp2
                  go_roundg (gk - 1)
                  case measure => (have hk := HK.out; omega)
                  case rel =>
                    have hk := HK.out
                    have hss := HNS.out
                    rw [add_eq va vb]
                    refine ⟨i + 1, fin p s (i + 1), by go_num, by omega, ⟨rfl⟩, ⟨blk_far BS.out (p := ⟨w.heap.size, i, none⟩) (by show nS ≠ w.heap.size; omega) _⟩, ⟨blk_put BA.out i _ ?_⟩, ⟨blk_far BZ.out (p := ⟨w.heap.size, i, none⟩) (by show w.heap.size + 1 + 1 ≠ w.heap.size; omega) _⟩, ⟨below_set HB.out (by omega)⟩⟩
                    rw [arr_set, fin, ← HQ.out, GA.out, GB.out]
                · obtain rfl : gk = 0 := by omega
                  obtain rfl : i = 8 := by omega
                  have hq8 : q.length = 8 := by rw [HQ.out, fin_len]; exact HH.out
                  have HQ8 := Aside0.mk hq8
                  have a0 := blk_at BA.out 0 (by rw [hq8]; decide)
                  have a1 := blk_at BA.out 1 (by rw [hq8]; decide)
                  have a2 := blk_at BA.out 2 (by rw [hq8]; decide)
                  have a3 := blk_at BA.out 3 (by rw [hq8]; decide)
                  have a4 := blk_at BA.out 4 (by rw [hq8]; decide)
                  have a5 := blk_at BA.out 5 (by rw [hq8]; decide)
                  have a6 := blk_at BA.out 6 (by rw [hq8]; decide)
                  have a7 := blk_at BA.out 7 (by rw [hq8]; decide)
                  have z0 := blk_at BZ.out 0 (by rw [List.length_replicate]; decide)
                  have z1 := blk_at BZ.out 1 (by rw [List.length_replicate]; decide)
                  have z2 := blk_at BZ.out 2 (by rw [List.length_replicate]; decide)
                  have z3 := blk_at BZ.out 3 (by rw [List.length_replicate]; decide)
                  have z4 := blk_at BZ.out 4 (by rw [List.length_replicate]; decide)
                  have z5 := blk_at BZ.out 5 (by rw [List.length_replicate]; decide)
                  have z6 := blk_at BZ.out 6 (by rw [List.length_replicate]; decide)
                  have z7 := blk_at BZ.out 7 (by rw [List.length_replicate]; decide)
                  have y0 := blk_frozen BZ.out 0
                  have y1 := blk_frozen BZ.out 1
                  have y2 := blk_frozen BZ.out 2
                  have y3 := blk_frozen BZ.out 3
                  have y4 := blk_frozen BZ.out 4
                  have y5 := blk_frozen BZ.out 5
                  have y6 := blk_frozen BZ.out 6
                  have y7 := blk_frozen BZ.out 7
                  clear hk hq8
                  generalize hg0 : get q 0 = v0 at a0
                  have V0 := Aside0.mk hg0
                  clear hg0
                  generalize get (List.replicate 8 0) 0 = x0 at z0
                  generalize hg1 : get q 1 = v1 at a1
                  have V1 := Aside0.mk hg1
                  clear hg1
                  generalize get (List.replicate 8 0) 1 = x1 at z1
                  generalize hg2 : get q 2 = v2 at a2
                  have V2 := Aside0.mk hg2
                  clear hg2
                  generalize get (List.replicate 8 0) 2 = x2 at z2
                  generalize hg3 : get q 3 = v3 at a3
                  have V3 := Aside0.mk hg3
                  clear hg3
                  generalize get (List.replicate 8 0) 3 = x3 at z3
                  generalize hg4 : get q 4 = v4 at a4
                  have V4 := Aside0.mk hg4
                  clear hg4
                  generalize get (List.replicate 8 0) 4 = x4 at z4
                  generalize hg5 : get q 5 = v5 at a5
                  have V5 := Aside0.mk hg5
                  clear hg5
                  generalize get (List.replicate 8 0) 5 = x5 at z5
                  generalize hg6 : get q 6 = v6 at a6
                  have V6 := Aside0.mk hg6
                  clear hg6
                  generalize get (List.replicate 8 0) 6 = x6 at z6
                  generalize hg7 : get q 7 = v7 at a7
                  have V7 := Aside0.mk hg7
                  clear hg7
                  generalize get (List.replicate 8 0) 7 = x7 at z7
                  go_wp2
                  refine bodyPost_ret (results_cell_row (p := 8) (ty := 56) rfl _ _ (w.heap.size + 1 + 1) 56 (arr [v0, v1, v2, v3, v4, v5, v6, v7]) (0, 0) _ rfl (blk_put (blk_put (blk_put (blk_put (blk_put (blk_put (blk_put (blk_put (BZ.out) 0 _ (arr_set _ 0 _)) 1 _ (arr_set _ 1 _)) 2 _ (arr_set _ 2 _)) 3 _ (arr_set _ 3 _)) 4 _ (arr_set _ 4 _)) 5 _ (arr_set _ 5 _)) 6 _ (arr_set _ 6 _)) 7 _ ((arr_set _ 7 _).trans (congrArg arr (set_eight List.length_replicate _ _ _ _ _ _ _ _)))) Tryd.underlying56 rfl (by rw [arr_size]; kernel_rfl)) rfl ⟨?_, below_set (below_set (below_set (below_set (below_set (below_set (below_set (below_set (HB.out) (g := w.heap.size + 1 + 1) (by omega)) (g := w.heap.size + 1 + 1) (by omega)) (g := w.heap.size + 1 + 1) (by omega)) (g := w.heap.size + 1 + 1) (by omega)) (g := w.heap.size + 1 + 1) (by omega)) (g := w.heap.size + 1 + 1) (by omega)) (g := w.heap.size + 1 + 1) (by omega)) (g := w.heap.size + 1 + 1) (by omega)⟩
                  rw [show overN p (cut64 b at_) = q by rw [HQ.out, HS1.out]; rfl, eight_get HQ8.out]
                  simp only [V0.out, V1.out, V2.out, V3.out, V4.out, V5.out, V6.out, V7.out]
end Go.Proofs.YthnmpkhjpfhloaaDoor.M
