import Derived.Test.YthnmpkhjpfhloaaDoorProg
import Derived.Below
import Derived.Deep.Draws
import Derived.Deep.AppendLies
import Derived.Maps.AppendAt
import Derived.OwnWalk
import Derived.Laws.BytesArg
import Derived.Laws.MakeOwn
import Derived.Laws.OwnMore
import Derived.Deep.OwnRows
import Derived.Tactics
import Derived.Lib.ConvBytes
import Derived.Laws.Slices
import Derived.WalkKit
import Derived.KernelRfl
import Derived.RowKit3
import Derived.Deep.LoopGhost
import Derived.Deep.QuietTactic
import Derived.BigQuiet
import Derived.WideLaws
import Derived.Deep.DeepCutAuto
import Derived.Deep.CutBlock
import Derived.Deep.RegionHeld3
import Derived.Laws.Rows
import Derived.Lib.AppendStr
import Derived.ArgAppend
import Derived.Laws.IdiomCopy
import Derived.OrdersHeld
import Derived.Laws.BitsLemmas
import Derived.RowKit
import Derived.Test.YthnmpkhjpfhloaaDoorWWords
import Derived.Test.YthnmpkhjpfhloaaDoorWLast
import Derived.Test.YthnmpkhjpfhloaaDoorWTab
import Derived.Test.YthnmpkhjpfhloaaDoorWFour
import Derived.Test.YthnmpkhjpfhloaaDoorWQPut
import Derived.Test.YthnmpkhjpfhloaaDoorWApart
import Derived.Test.YthnmpkhjpfhloaaDoorWArr
import Derived.Test.YthnmpkhjpfhloaaDoorWZeros
import Derived.Test.YthnmpkhjpfhloaaDoorWFoot
import Derived.Test.YthnmpkhjpfhloaaDoorWKept
import Derived.Test.YthnmpkhjpfhloaaDoorWShare
import Derived.Test.YthnmpkhjpfhloaaDoorWN
import Derived.Test.YthnmpkhjpfhloaaDoorWFootNe
import Derived.Test.YthnmpkhjpfhloaaDoorWAt
import Derived.Test.YthnmpkhjpfhloaaDoorWEqStruct
import Derived.Test.YthnmpkhjpfhloaaDoorWRepsOne
import Derived.Test.YthnmpkhjpfhloaaDoorWInv
import Derived.Test.YthnmpkhjpfhloaaDoorWInvWords
import Derived.Test.YthnmpkhjpfhloaaDoorWGuard
import Derived.Test.YthnmpkhjpfhloaaDoorWNEv
import Derived.Test.YthnmpkhjpfhloaaDoorWMore
import Derived.Laws.BitsAllLaws
import Derived.StillTailTactics
import Derived.Test.YthnmpkhjpfhloaaDoorMs
namespace Go.Proofs.YthnmpkhjpfhloaaDoor.M
open Go.RowKit Go.Proofs.YthnmpkhjpfhloaaDoorW.PrintWords Go.Proofs.YthnmpkhjpfhloaaDoorW.PrintLast Go.Proofs.YthnmpkhjpfhloaaDoorW.PrintMore
set_option linter.unusedVariables false
set_option linter.unusedSimpArgs false
def aggN (l : List Nat) : Value := .agg (arr l)
theorem below_drewN' {B : Nat} {a w : World} (h : Below B a w) (n : Nat) : Below B a (w.drewN n) := ⟨h.os, h.tape, h.output, h.size, h.block⟩
theorem below_setRow' {B g : Nat} {w0 w : World} (hb : Below B w0 w) (hBg : B ≤ g) (cs : Array Value) : Below B w0 (w.setRow g cs) :=
  ⟨hb.os, hb.tape, hb.output, by rw [setRow_size]; exact hb.size, fun i hi => (setRow_other w g i cs (by omega)).trans (hb.block i hi)⟩
theorem i64w {x : Int} (h0 : 0 ≤ x) (h1 : x < 9223372036854775808) : IntKind.i64.wrap x = x := by unfold IntKind.wrap; simp [IntKind.signed, IntKind.bits]; omega
theorem blk_at {w : World} {n : Nat} {l : List Nat} {ty : Nat} (h : w.heap[n]? = some (.cells (arr l) ty)) (t : Nat) (ht : t < l.length) : w.cell? ⟨n, t, none⟩ = some (.int .u32 ((get l t : Nat) : Int)) := by
  rw [blk_cell h t, arr_get l t ht]
theorem ld_row {P : Program} {W : World} {g : Nat} {ty : TypeId} {cs : Array Value} {n : Nat} (h : W.heap[g]? = some (.cells cs ty)) (hn : cs.size = n) : Sem.run P (loadCellsFrom ⟨g, 0, none⟩ 0 n #[]) W = .ok cs W := by
  have := run_loadCells_list (P := P) (w := W) ⟨g, 0, none⟩ cs.toList (fun j v hv => by
    have hadd : (⟨g, 0, none⟩ : Addr).add j = ⟨g, j, none⟩ := by unfold Addr.add; split <;> simp_all
    rw [hadd, cell_of_row W g j cs ty (0, 0) h]
    simpa using hv)
  subst hn
  simpa [loadCells] using this
theorem st_row {P : Program} {W : World} {g : Nat} {ty : TypeId} {cs cs' : Array Value} (h : W.heap[g]? = some (.cells cs ty)) (hn : cs'.size = cs.size) (h1 : cs'.all (·.oneCell') = true) : Sem.run P (storeCells ⟨g, 0, none⟩ cs'.toList) W = .ok () (W.setRow g cs') := by
  have := run_storeCells_from (P := P) g ty cs'.toList 0 cs W h (by simp [hn]) (fun v hv => by rw [Array.all_eq_true'] at h1; exact h1 v (by simpa using hv))
  simpa using this
theorem arr_one (l : List Nat) : (arr l).all (·.oneCell') = true := by simp [arr, Value.oneCell']
set_option maxHeartbeats 8000000 in
set_option maxRecDepth 100000 in
theorem spread_calls (A : Option Addr) (c : Nat) (b : List Int) (w : World) (hC : Kd.C (Kd.int .u8) w A b.length b) (hl : b.length = 64) (hc : b.length ≤ c) : Calls Tryd.prog 32 #[.slice A b.length c] w fun e w' => e = .returned (aggN (spreadN b)) ∧ Below w.heap.size w w' := by
  have HB := Aside0.mk (below_alloc (below_alloc (Below.refl w.heap.size w) (.cells (arr (List.replicate 64 0)) 66 (0, 0))) (.cells (arr (List.replicate 64 0)) 66 (0, 0)))
  have BK : ((w.alloc (.cells (arr (List.replicate 64 0)) 66 (0, 0))).alloc (.cells (arr (List.replicate 64 0)) 66 (0, 0))).heap[w.heap.size + 1]? = some (.cells (arr (List.replicate 64 0)) 66 (0, 0)) := heap_alloc2_new _ _ _
  have BZ : ((w.alloc (.cells (arr (List.replicate 64 0)) 66 (0, 0))).alloc (.cells (arr (List.replicate 64 0)) 66 (0, 0))).heap[w.heap.size]? = some (.cells (arr (List.replicate 64 0)) 66 (0, 0)) := blk_alloc (blk_new _ _) _
  have HL := Aside0.mk hl
  clear hl
  go_enter Tryd.func32, Tryd.ntmps32
  go_wp2
  go_loopg [8] 16 (fun k v8 wr => ∃ (t : Nat) (l : List Nat), v8 = .int .i64 t ∧ t + k = 16 ∧ l.length = 64 ∧ Aside0 (l = s1 b t) ∧ Aside0 (wr.heap[w.heap.size + 1]? = some (.cells (arr l) 66 (0, 0))) ∧ Aside0 (wr.heap[w.heap.size]? = some (.cells (arr (List.replicate 64 0)) 66 (0, 0))) ∧ Aside0 (Below w.heap.size w wr))
  case atStart => exact ⟨0, List.replicate 64 0, rfl, rfl, by simp, ⟨rfl⟩, ⟨BK⟩, ⟨BZ⟩, HB⟩
  case round =>
    obtain ⟨t, l, rfl, hk, hl64, HS, BKr, BZr, HBr⟩ := hrel
    by_cases ht : t < 16
    · have hl := HL.out
      obtain ⟨ad, rfl, hx0⟩ := Kd.at_int (Kd.C_below hC HBr.out) ((4 * t : Nat) : Int) (by omega) (by omega)
      obtain ⟨ad1, he1, hx1⟩ := Kd.at_int (Kd.C_below hC HBr.out) ((4 * t + 1 : Nat) : Int) (by omega) (by omega)
      obtain rfl : ad = ad1 := by simpa using he1
      obtain ⟨ad2, he2, hx2⟩ := Kd.at_int (Kd.C_below hC HBr.out) ((4 * t + 2 : Nat) : Int) (by omega) (by omega)
      obtain rfl : ad = ad2 := by simpa using he2
      obtain ⟨ad3, he3, hx3⟩ := Kd.at_int (Kd.C_below hC HBr.out) ((4 * t + 3 : Nat) : Int) (by omega) (by omega)
      obtain rfl : ad = ad3 := by simpa using he3
      clear he1 he2 he3
      rw [Int.toNat_natCast] at hx0 hx1 hx2 hx3
      have hW := Aside0.mk (show word4 (rd b ((4 * t : Nat) : Int)) (rd b ((4 * t + 1 : Nat) : Int)) (rd b ((4 * t + 2 : Nat) : Int)) (rd b ((4 * t + 3 : Nat) : Int)) = wordAt b t from rfl)
      have hc64 := blk_at BKr.out t (by omega)
      have hf64 := blk_frozen BKr.out t
      have w0 : IntKind.i64.wrap (4 * (t : Int)) = ((4 * t : Nat) : Int) := by rw [i64w (by omega) (by omega)]; omega
      have w1 : IntKind.i64.wrap (((4 * t : Nat) : Int) + 1) = ((4 * t + 1 : Nat) : Int) := by rw [i64w (by omega) (by omega)]; omega
      have w2 : IntKind.i64.wrap (((4 * t : Nat) : Int) + 2) = ((4 * t + 2 : Nat) : Int) := by rw [i64w (by omega) (by omega)]; omega
      have w3 : IntKind.i64.wrap (((4 * t : Nat) : Int) + 3) = ((4 * t + 3 : Nat) : Int) := by rw [i64w (by omega) (by omega)]; omega
      have l0 : 4 * t < b.length := by omega
      have l1 : 4 * t + 1 < b.length := by omega
      have l2 : 4 * t + 2 < b.length := by omega
      have l3 : 4 * t + 3 < b.length := by omega
      generalize 4 * t + 1 = p1 at hx1 w1 l1 hW
      generalize 4 * t + 2 = p2 at hx2 w2 l2 hW
      generalize 4 * t + 3 = p3 at hx3 w3 l3 hW
      generalize 4 * t = p0 at hx0 w0 l0 w1 w2 w3 hW
      have m0 : (p0 : Int) < b.length := by omega
      have m1 : (p1 : Int) < b.length := by omega
      have m2 : (p2 : Int) < b.length := by omega
      have m3 : (p3 : Int) < b.length := by omega
      have mt : (t : Int) < 64 := by omega
      clear hl
      generalize rd b _ = b0 at hx0 hW
      generalize rd b _ = b1 at hx1 hW
      generalize rd b _ = b2 at hx2 hW
      generalize rd b _ = b3 at hx3 hW
      generalize get l t = v0 at hc64
      go_wp2
      go_still_tail 35, (by kernel_rfl)
      have BKd := Aside0.mk (blk_drew BKr.out)
      have hc64d : wr.drew.cell? ⟨w.heap.size + 1, t, none⟩ = some (.int .u32 (v0 : Int)) := hc64
      have hf64d : wr.drew.frozen? ⟨w.heap.size + 1, t, none⟩ = false := hf64
      have BZd := Aside0.mk (blk_drew BZr.out)
      have HBd := Aside0.mk (below_drew1 HBr.out)
      change wpList _ _ _ _ _ wr.drew
      generalize wr.drew = wd at BKd hc64d hf64d BZd HBd ⊢
      go_wp2
      go_roundg (gk - 1)
      case measure => omega
      case rel =>
        refine ⟨t + 1, l.set t (wordAt b t), by simp, by omega, by rw [List.length_set]; exact hl64, ⟨by rw [HS.out]; rfl⟩, ⟨blk_put BKd.out t _ ?_⟩, ⟨blk_far BZd.out (by simp) _⟩, ⟨below_set HBd.out (by omega)⟩⟩
        rw [← arr_set, ← hW.out, ← word4_eq]
    · obtain rfl : gk = 0 := by omega
      obtain rfl : t = 16 := by omega
      have HSr := HS
      have BZr' := BZr
      go_wp2
      go_loopg [5] 48 (fun k v5 wr => ∃ (t : Nat) (n : Nat) (l : List Nat), v5 = .int .i64 t ∧ n + k = 48 ∧ t = 16 + n ∧ l.length = 64 ∧ Aside0 (l = s2 b n) ∧ Aside0 (wr.heap[w.heap.size + 1]? = some (.cells (arr l) 66 (0, 0))) ∧ Aside0 (wr.heap[w.heap.size]? = some (.cells (arr (List.replicate 64 0)) 66 (0, 0))) ∧ Aside0 (Below w.heap.size w wr))
      case atStart => exact ⟨16, 0, l, rfl, rfl, rfl, hl64, HSr, BKr, BZr', HBr⟩
      case round =>
        clear hl64 BKr HBr HSr HS BZr BZr'
        clear l
        obtain ⟨t, n, l, rfl, hk2, htn, hl64, HS, BKr, BZr, HBr⟩ := hrel
        by_cases hn : t < 64
        · have HT := Aside0.mk htn
          have n15 : IntKind.i64.wrap ((t : Int) - 15) = ((t - 15 : Nat) : Int) := by rw [i64w (by omega) (by omega)]; omega
          have n2 : IntKind.i64.wrap ((t : Int) - 2) = ((t - 2 : Nat) : Int) := by rw [i64w (by omega) (by omega)]; omega
          have c15 := blk_at BKr.out (t - 15) (by omega)
          have c2 := blk_at BKr.out (t - 2) (by omega)
          have c0 := blk_at BKr.out t (by omega)
          have f0 := blk_frozen BKr.out t
          have l15 : ((t - 15 : Nat) : Int) < 64 := by omega
          have l2 : ((t - 2 : Nat) : Int) < 64 := by omega
          have l0 : (t : Int) < 64 := by omega
          have hx := (s2_lt b n) (t - 15)
          have hy := (s2_lt b n) (t - 2)
          rw [← HS.out] at hx hy
          have HX := Aside0.mk hx
          have HY := Aside0.mk hy
          have HK := Aside0.mk hk2
          clear htn hk2 hx hy
          generalize hgx : get l (t - 15) = x at c15 HX
          generalize hgy : get l (t - 2) = y at c2 HY
          have HG := Aside0.mk (And.intro hgx hgy)
          clear hgx hgy
          generalize t - 15 = p15 at n15 c15 l15
          generalize t - 2 = p2 at n2 c2 l2
          generalize get l t = v0 at c0
          go_wp2
          go_quiet (fail)
          have r17 := fun w => turned_still y 17 17 w rfl HY.out (by decide) (by decide)
          have r19 := fun w => turned_still y 19 19 w rfl HY.out (by decide) (by decide)
          have ex1 := u32_xor_nat (rotN 17 y) (rotN 19 y) (rotN_lt _ HY.out) (rotN_lt _ HY.out)
          have ex2 : (y : Int) / 1024 = ((y / 1024 : Nat) : Int) := by omega
          have ex3 := u32_xor_nat (rotN 17 y ^^^ rotN 19 y) (y / 1024) (xor32 (rotN_lt _ HY.out) (rotN_lt _ HY.out)) (div_lt32 _ HY.out)
          have HA := Aside0.mk (show (rotN 17 y ^^^ rotN 19 y) ^^^ (y / 1024) = ssig1 y from rfl)
          have HAl := Aside0.mk (ssig1_lt HY.out)
          rw [← HA.out] at HAl
          generalize hq3 : (rotN 17 y ^^^ rotN 19 y) ^^^ (y / 1024) = a1 at ex3 HA HAl
          generalize hq1 : rotN 17 y ^^^ rotN 19 y = q1 at ex1 ex3
          generalize hq2 : y / 1024 = q2 at ex2 ex3
          generalize hq4 : rotN 17 y = q4 at ex1 r17
          generalize hq5 : rotN 19 y = q5 at ex1 r19
          clear hq1 hq2 hq3 hq4 hq5
          go_wp2_with (first | (go_at_call 33; (with_reducible refine (r17 _).mono ?_); rintro e w' ⟨rfl, rfl⟩) | (go_at_call 33; (with_reducible refine (r19 _).mono ?_); rintro e w' ⟨rfl, rfl⟩))
          have htn := HT.out
          have BK1 := blk_put (blk_drewN BKr.out nq) t (.int .u32 (a1 : Int)) (arr_set l t a1)
          have BZ1 := blk_far (blk_drewN BZr.out nq) (p := ⟨w.heap.size + 1, t, none⟩) (by simp) (.int .u32 (a1 : Int))
          have HB1 := below_set (below_drewN' HBr.out nq) (g := w.heap.size + 1) (j := t) (v := .int .u32 (a1 : Int)) (by omega)
          generalize hw1 : (wr.drewN nq).setCell ⟨w.heap.size + 1, t, none⟩ (.int .u32 (a1 : Int)) = w1 at BK1 BZ1 HB1 ⊢
          clear hw1 c15 c2 c0 f0 r17 r19 ex1 ex2 ex3 n15 n2 l15 l2
          have HBK1 := Aside0.mk BK1
          have HBZ1 := Aside0.mk BZ1
          have HHB1 := Aside0.mk HB1
          have hl1 : (l.set t a1).length = 64 := by rw [List.length_set]; exact hl64
          have n7 : IntKind.i64.wrap ((t : Int) - 7) = ((t - 7 : Nat) : Int) := by rw [i64w (by omega) (by omega)]; omega
          have n16 : IntKind.i64.wrap ((t : Int) - 16) = ((t - 16 : Nat) : Int) := by rw [i64w (by omega) (by omega)]; omega
          have c0 := blk_at BK1 t (by omega)
          have c7 := blk_at BK1 (t - 7) (by omega)
          have c16 := blk_at BK1 (t - 16) (by omega)
          rw [get_set_eq l t a1 (by omega)] at c0
          rw [get_set_ne l t a1 _ (by omega)] at c7 c16
          have f0 := blk_frozen BK1 t
          have l7 : ((t - 7 : Nat) : Int) < 64 := by omega
          have l16 : ((t - 16 : Nat) : Int) < 64 := by omega
          clear htn BK1 BZ1 HB1 hl1
          generalize hg7 : get l (t - 7) = v7 at c7
          generalize hg16 : get l (t - 16) = v16 at c16
          have HG7 := Aside0.mk (And.intro hg7 hg16)
          clear hg7 hg16
          generalize t - 7 = p7 at n7 c7 l7
          generalize t - 16 = p16 at n16 c16 l16
          have e2 : ((a1 : Int) + ((v7 : Int) + (v16 : Int)) % 4294967296) % 4294967296 = ((addN a1 (addN v7 v16) : Nat) : Int) := by unfold addN; omega
          have HA2l := Aside0.mk (addN_lt a1 (addN v7 v16))
          generalize hq2 : addN a1 (addN v7 v16) = a2 at e2 HA2l
          have HA2 := Aside0.mk hq2
          clear hq2
          go_wp2
          go_still_tail 14, (by kernel_rfl)
          have HBK2 := Aside0.mk (blk_drew HBK1.out)
          have HBZ2 := Aside0.mk (blk_drew HBZ1.out)
          have HHB2 := Aside0.mk (below_drew1 HHB1.out)
          have c0d : w1.drew.cell? ⟨w.heap.size + 1, t, none⟩ = some (.int .u32 (a1 : Int)) := c0
          have f0d : w1.drew.frozen? ⟨w.heap.size + 1, t, none⟩ = false := f0
          change wpList _ _ _ _ _ w1.drew
          generalize w1.drew = w2 at HBK2 HBZ2 HHB2 c0d f0d ⊢
          clear c0 f0 c7 c16 HBK1 HBZ1 HHB1
          have E2 := Aside0.mk e2
          clear e2
          go_wp2
          rw [E2.out]
          have htn := HT.out
          have BK3 := blk_put HBK2.out t (.int .u32 (a2 : Int)) (arr_set (l.set t a1) t a2)
          rw [List.set_set] at BK3
          have BZ3 := blk_far HBZ2.out (p := ⟨w.heap.size + 1, t, none⟩) (by simp) (.int .u32 (a2 : Int))
          have HB3 := below_set HHB2.out (g := w.heap.size + 1) (j := t) (v := .int .u32 (a2 : Int)) (by omega)
          generalize hw3 : w2.setCell ⟨w.heap.size + 1, t, none⟩ (.int .u32 (a2 : Int)) = w3 at BK3 BZ3 HB3 ⊢
          have hl3 : (l.set t a2).length = 64 := by rw [List.length_set]; exact hl64
          have c0 := blk_at BK3 t (by omega)
          rw [get_set_eq l t a2 (by omega)] at c0
          have f0 := blk_frozen BK3 t
          have HBK3 := Aside0.mk BK3
          have HBZ3 := Aside0.mk BZ3
          have HHB3 := Aside0.mk HB3
          clear hw3 c0d f0d htn BK3 BZ3 HB3 hl3 n7 n16 l7 l16 HBK2 HBZ2 HHB2
          have r7 := fun w => turned_still x 7 7 w rfl HX.out (by decide) (by decide)
          have r18 := fun w => turned_still x 18 18 w rfl HX.out (by decide) (by decide)
          have ex1 := u32_xor_nat (rotN 7 x) (rotN 18 x) (rotN_lt _ HX.out) (rotN_lt _ HX.out)
          have ex2 : (x : Int) / 8 = ((x / 8 : Nat) : Int) := by omega
          have ex3 := u32_xor_nat (rotN 7 x ^^^ rotN 18 x) (x / 8) (xor32 (rotN_lt _ HX.out) (rotN_lt _ HX.out)) (div_lt32 _ HX.out)
          have ex4 := add_eq a2 (ssig0 x)
          have HA3 := Aside0.mk (show (rotN 7 x ^^^ rotN 18 x) ^^^ (x / 8) = ssig0 x from rfl)
          generalize ha4 : addN a2 (ssig0 x) = a4 at ex4
          have HA4 := Aside0.mk ha4
          clear ha4
          rw [← HA3.out] at ex4
          generalize hq3 : (rotN 7 x ^^^ rotN 18 x) ^^^ (x / 8) = a3 at ex3 ex4 HA3
          generalize hq1 : rotN 7 x ^^^ rotN 18 x = q1 at ex1 ex3
          generalize hq2 : x / 8 = q2 at ex2 ex3
          generalize hq4 : rotN 7 x = q4 at ex1 r7
          generalize hq5 : rotN 18 x = q5 at ex1 r18
          clear hq1 hq2 hq3 hq4 hq5
          refine wp_region_still_tail 13 (by kernel_rfl) (by kernel_rfl) ?_
          simp only [List.take_succ_cons, List.take_zero, List.drop_succ_cons, List.drop_zero]
          repeat (first | still_step | still_call (r7 _) | still_call (r18 _))
          refine wpStill_nil ?_
          have HBK4 := Aside0.mk (blk_drew HBK3.out)
          have HBZ4 := Aside0.mk (blk_drew HBZ3.out)
          have HHB4 := Aside0.mk (below_drew1 HHB3.out)
          have c0d : w3.drew.cell? ⟨w.heap.size + 1, t, none⟩ = some (.int .u32 (a2 : Int)) := c0
          have f0d : w3.drew.frozen? ⟨w.heap.size + 1, t, none⟩ = false := f0
          change wpList _ _ _ _ _ w3.drew
          generalize w3.drew = w4 at HBK4 HBZ4 HHB4 c0d f0d ⊢
          clear c0 f0 HBK3 HBZ3 HHB3
          go_wp2
          go_roundg (gk - 1)
          case measure => (have hk2 := HK.out; have htn := HT.out; omega)
          case rel =>
            have htn := HT.out
            have hk2 := HK.out
            refine ⟨t + 1, n + 1, l.set t a4, by first | rfl | go_num, by omega, by omega, by rw [List.length_set]; exact hl64, ⟨?_⟩, ⟨blk_put HBK4.out t _ ?_⟩, ⟨blk_far HBZ4.out (by simp) _⟩, ⟨below_set HHB4.out (by omega)⟩⟩
            · rw [HS.out, s2, ← htn]; congr 1
              rw [← HA4.out, ← HA2.out, HA.out, ← HG7.out.1, ← HG7.out.2, ← HG.out.1, ← HG.out.2, HS.out]; rfl
            · rw [arr_set, List.set_set]
        · obtain rfl : t = 64 := by omega
          obtain rfl : n = 48 := by omega
          have HZ := Aside0.mk hl64
          clear htn
          generalize hcs : arr l = cs at BKr
          have Hcs := Aside0.mk hcs
          have hsz : cs.size = 64 := by rw [← hcs, arr_size, hl64]
          clear hcs hl64
          have H64 := Aside0.mk hsz
          obtain ⟨N64, h64⟩ : ∃ N : Nat, 64 = N := ⟨_, rfl⟩
          rw [h64] at hsz
          have hld : Sem.run Tryd.prog (loadCellsFrom ⟨w.heap.size + 1, 0, none⟩ 0 N64 #[]) wr = .ok cs wr := ld_row BKr.out hsz
          have hst : Sem.run Tryd.prog (storeCells ⟨w.heap.size, 0, none⟩ cs.toList) wr = .ok () (wr.setRow w.heap.size cs) := st_row BZr.out (by rw [H64.out, arr_size, List.length_replicate]) (by rw [← Hcs.out]; exact arr_one l)
          go_wp2
          refine bodyPost_ret (results_cell_row (p := 2) (ty := 66) rfl _ _ w.heap.size 66 cs (0, 0) _ rfl (setRow_heap _ _ _ _ _ _ BZr.out) Tryd.underlying66 rfl (by rw [H64.out]; kernel_rfl)) rfl ⟨?_, below_setRow' HBr.out (Nat.le_refl _) _⟩
          rw [← Hcs.out, HS.out]; rfl
end Go.Proofs.YthnmpkhjpfhloaaDoor.M
