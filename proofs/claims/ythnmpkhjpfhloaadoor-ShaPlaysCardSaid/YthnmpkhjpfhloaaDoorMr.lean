import Derived.Test.YthnmpkhjpfhloaaDoorProg
import Derived.Below
import Derived.Deep.Draws
import Derived.Deep.AppendLies
import Derived.Maps.AppendAt
import Derived.OwnWalk
import Derived.Laws.BytesArg
import Derived.Laws.MakeOwn
import Derived.Laws.OwnMore
import Derived.Deep.OwnRows
import Derived.Tactics
import Derived.Lib.ConvBytes
import Derived.Laws.Slices
import Derived.WalkKit
import Derived.KernelRfl
import Derived.RowKit3
import Derived.Deep.LoopGhost
import Derived.Deep.QuietTactic
import Derived.BigQuiet
import Derived.WideLaws
import Derived.Deep.DeepCutAuto
import Derived.Deep.CutBlock
import Derived.Deep.RegionHeld3
import Derived.Laws.Rows
import Derived.Lib.AppendStr
import Derived.ArgAppend
import Derived.Laws.IdiomCopy
import Derived.OrdersHeld
import Derived.Laws.BitsLemmas
import Derived.RowKit
import Derived.Test.YthnmpkhjpfhloaaDoorWWords
import Derived.Test.YthnmpkhjpfhloaaDoorWLast
import Derived.Test.YthnmpkhjpfhloaaDoorWTab
import Derived.Test.YthnmpkhjpfhloaaDoorWFour
import Derived.Test.YthnmpkhjpfhloaaDoorWQPut
import Derived.Test.YthnmpkhjpfhloaaDoorWApart
import Derived.Test.YthnmpkhjpfhloaaDoorWArr
import Derived.Test.YthnmpkhjpfhloaaDoorWZeros
import Derived.Test.YthnmpkhjpfhloaaDoorWFoot
import Derived.Test.YthnmpkhjpfhloaaDoorWKept
import Derived.Test.YthnmpkhjpfhloaaDoorWShare
import Derived.Test.YthnmpkhjpfhloaaDoorWN
import Derived.Test.YthnmpkhjpfhloaaDoorWFootNe
import Derived.Test.YthnmpkhjpfhloaaDoorWAt
import Derived.Test.YthnmpkhjpfhloaaDoorWEqStruct
import Derived.Test.YthnmpkhjpfhloaaDoorWRepsOne
import Derived.Test.YthnmpkhjpfhloaaDoorWInv
import Derived.Test.YthnmpkhjpfhloaaDoorWInvWords
import Derived.Test.YthnmpkhjpfhloaaDoorWGuard
import Derived.Test.YthnmpkhjpfhloaaDoorWNEv
import Derived.Test.YthnmpkhjpfhloaaDoorWMore
import Derived.Laws.BitsAllLaws
import Derived.StillTailTactics
import Derived.Test.YthnmpkhjpfhloaaDoorMs
import Derived.Deep.WholeRow
import Derived.Test.YthnmpkhjpfhloaaDoorMq
namespace Go.Proofs.YthnmpkhjpfhloaaDoor.M
open Go.RowKit Go.Proofs.YthnmpkhjpfhloaaDoorW.PrintWords Go.Proofs.YthnmpkhjpfhloaaDoorW.PrintLast Go.Proofs.YthnmpkhjpfhloaaDoorW.PrintMore
set_option linter.unusedVariables false
set_option linter.unusedSimpArgs false
def arr8 (l : List Int) : Array Value := (l.map (Value.int .u8)).toArray
theorem arr8_set (l : List Int) (t : Nat) (v : Int) : (arr8 l).setIfInBounds t (.int .u8 v) = arr8 (l.set t v) := by simp [arr8, List.map_set]
theorem arr8_get (l : List Int) (t : Nat) (h : t < l.length) : (arr8 l)[t]? = some (.int .u8 (l.getD t 0)) := by simp [arr8, List.getElem?_eq_getElem h]
theorem arr8_size (l : List Int) : (arr8 l).size = l.length := by simp [arr8]
theorem arr8_one (l : List Int) : (arr8 l).all (·.oneCell') = true := by simp [arr8, Value.oneCell']
theorem blk8_at {w : World} {n : Nat} {l : List Int} {ty : Nat} (h : w.heap[n]? = some (.cells (arr8 l) ty)) (t : Nat) (ht : t < l.length) : w.cell? ⟨n, t, none⟩ = some (.int .u8 (l.getD t 0)) := by
  rw [blk_cell h t, arr8_get l t ht]
theorem C_but {k : IntKind} {A : Option Addr} {n : Nat} {xs : List Int} {w w' : World} {g : Nat} (h : (Kd.int k).C w A n xs) (hne : 0 < n → ∀ ad, A = some ad → ad.block ≠ g) (hk : ∀ j, j ≠ g → j < w.heap.size → w'.heap[j]? = w.heap[j]?) : (Kd.int k).C w' A n xs := by
  refine ⟨h.1, h.2.1, fun hn => ?_⟩
  obtain ⟨ad, e, hc⟩ := h.2.2 hn
  refine ⟨ad, e, fun j p hp => ?_⟩
  obtain ⟨c, hs, hr, hcell⟩ := hc j p hp
  refine ⟨c, hs, hr, fun i u hu => ?_⟩
  have h1 := hcell i u hu
  have hb : (ad.add (j * (Kd.int k).sz + i)).block = ad.block := by unfold Addr.add; split <;> rfl
  have hlt := World.block_lt_of_cell? w _ h1
  rw [World.cell?_of_block (w := w) (hk _ (by rw [hb]; exact hne hn ad e) hlt)]
  exact h1
def part (l : List Int) (n : Nat) : List Int := l.take n ++ List.replicate (32 - n) 0
theorem part_len {l : List Int} (h : l.length = 32) {n : Nat} (hn : n ≤ 32) : (part l n).length = 32 := by simp [part, h]; omega
theorem part_set {l : List Int} (h : l.length = 32) {n : Nat} (hn : n < 32) : (part l n).set n (l.getD n 0) = part l (n + 1) := by
  apply List.ext_getElem?
  intro j
  rw [List.getElem?_set]
  unfold part
  by_cases e : n = j
  · subst e
    rw [if_pos rfl, if_pos (by simp [h]; omega), List.getElem?_append_left (by simp [h]; omega), List.getElem?_take_of_lt (by omega), List.getD_eq_getElem?_getD, List.getElem?_eq_getElem (by omega)]
    rfl
  · rw [if_neg e]
    rcases Nat.lt_or_gt_of_ne e with g | g
    · by_cases hj : j < 32
      · rw [List.getElem?_append_right (by simp [h]; omega), List.getElem?_append_right (by simp [h]; omega)]
        simp only [List.length_take, h, List.getElem?_replicate]
        rw [if_pos (by omega), if_pos (by omega)]
      · rw [List.getElem?_eq_none (by simp [h]; omega), List.getElem?_eq_none (by simp [h]; omega)]
    · rw [List.getElem?_append_left (by simp [h]; omega), List.getElem?_append_left (by simp [h]; omega), List.getElem?_take_of_lt g, List.getElem?_take_of_lt (by omega)]
theorem part_all {l : List Int} (h : l.length = 32) : part l 32 = l := by simp [part, List.take_of_length_le, h]
theorem keyL_at {s : List Nat} (h : s.length = 8) (i : Nat) (hi : i < 8) : (keyL s).getD (4 * i) 0 = ((get s i / 16777216 % 256 : Nat) : Int) ∧ (keyL s).getD (4 * i + 1) 0 = ((get s i / 65536 % 256 : Nat) : Int) ∧ (keyL s).getD (4 * i + 2) 0 = ((get s i / 256 % 256 : Nat) : Int) ∧ (keyL s).getD (4 * i + 3) 0 = ((get s i % 256 : Nat) : Int) := by
  match s, h with
  | [a, b, c, d, e, f, g, x], _ =>
    have : i = 0 ∨ i = 1 ∨ i = 2 ∨ i = 3 ∨ i = 4 ∨ i = 5 ∨ i = 6 ∨ i = 7 := by omega
    rcases this with rfl | rfl | rfl | rfl | rfl | rfl | rfl | rfl <;> exact ⟨rfl, rfl, rfl, rfl⟩
set_option maxHeartbeats 8000000 in
set_option maxRecDepth 100000 in
set_option pp.deepTerms true in
set_option pp.maxSteps 1000000 in
theorem refSum_calls (A : Option Addr) (c : Nat) (m : List Int) (w : World) (hC : Kd.C (Kd.int .u8) w A m.length m) (hm : m.length < 549755813888) (hc : m.length ≤ c) :
    Calls Tryd.prog 16 #[.slice A m.length c] w fun e w' => e = .returned (.agg (arr8 (sumL m))) ∧ Below w.heap.size w w' := by
  have HC := Aside0.mk hC
  have HM := Aside0.mk hm
  have HCC := Aside0.mk hc
  have HLL := Aside0.mk (show sumL m = keyL (hashB (padB m) ((padB m).length / 64)) from rfl)
  have HLE := Aside0.mk (laid_eq m hm)
  have HPM := Aside0.mk (padB_mod m)
  have HPL := Aside0.mk (show (padB m).length < 4611686018427387904 by rw [padB_len]; unfold zlen; omega)
  clear hC hm hc
  generalize hlm : m.length = lm at *
  generalize padB m = pb at *
  generalize sumL m = key at *
  have HB0 := Aside0.mk (below_alloc (below_alloc (Below.refl w.heap.size w) (.cells (arr8 (List.replicate 32 0)) 27 (0, 0))) (.cells (arr firstN) 56 (0, 0)))
  have HZ0 := Aside0.mk (show ((w.alloc (.cells (arr8 (List.replicate 32 0)) 27 (0, 0))).alloc (.cells (arr firstN) 56 (0, 0))).heap[w.heap.size]? = some (.cells (arr8 (List.replicate 32 0)) 27 (0, 0)) from blk_alloc (blk_new _ _) _)
  have HS0 := Aside0.mk (show ((w.alloc (.cells (arr8 (List.replicate 32 0)) 27 (0, 0))).alloc (.cells (arr firstN) 56 (0, 0))).heap[w.heap.size + 1]? = some (.cells (arr firstN) 56 (0, 0)) from heap_alloc2_new _ _ _)
  have Ht := Aside0.mk (table_calls ((w.alloc (.cells (arr8 (List.replicate 32 0)) 27 (0, 0))).alloc (.cells (arr firstN) 56 (0, 0))))
  unfold aggN at Ht
  have H64 := Aside0.mk (show (arr tableL).size = 64 by rw [arr_size]; rfl)
  have HTL := Aside0.mk (show arr tableL = arr tableL from rfl)
  generalize hcsK : arr tableL = csK at Ht H64
  have HcsK := Aside0.mk hcsK
  have hone := Aside0.mk (arr_one tableL)
  rw [hcsK] at hone
  clear hcsK HTL
  have HLM := Aside0.mk hlm
  clear hlm
  obtain ⟨N64, h64⟩ : ∃ N : Nat, 64 = N := ⟨_, rfl⟩
  have hs64 := H64.out
  rw [h64] at hs64
  go_enter Tryd.func16, Tryd.ntmps16
  go_wp2_with (first | (go_at_call 28; (refine Ht.out.mono ?_); rintro e w1 ⟨rfl, hb1⟩; have HB1 := Aside0.mk hb1; clear hb1))
  have e1 : ((w.alloc (.cells (arr8 (List.replicate 32 0)) 27 (0, 0))).alloc (.cells (arr firstN) 56 (0, 0))).heap.size = w.heap.size + 2 := by rw [size_alloc1, size_alloc1]
  have HSZ1 := Aside0.mk (show w.heap.size + 2 ≤ w1.heap.size by have h_ := HB1.out.size; omega)
  have BZ1 := Aside0.mk (blk_alloc (blk_below HZ0.out HB1.out) (.cells csK 66))
  have BS1 := Aside0.mk (blk_alloc (blk_below HS0.out HB1.out) (.cells csK 66))
  have BK1 := Aside0.mk (blk_new w1 (.cells csK 66))
  have HBB1 := Aside0.mk (below_alloc (below_step HB0.out HB1.out) (.cells csK 66))
  rw [st_new (P := Tryd.prog) (w := w1) (t := 66) (c' := csK) rfl (by rw [H64.out]; kernel_rfl) (by rw [H64.out]; rfl) hone.out]
  clear HB1 HZ0 HS0 HB0 Ht e1
  generalize w1.alloc (.cells csK 66) = w2 at BZ1 BS1 BK1 HBB1 ⊢
  generalize w1.heap.size = nK at BK1 HSZ1 ⊢
  have Hl := Aside0.mk (P.kilnref2_laid.calls 80 A c m pb w2 (HLM.out ▸ Kd.C_below HC.out HBB1.out) (HLM.out ▸ HCC.out) HLE.out)
  rw [HLM.out] at Hl
  go_wp2_with (first | (go_at_call 29; (refine Hl.out.mono ?_); rintro e w3 ⟨v, rfl, hR, hb3⟩; have HR := Aside0.mk hR; have HB3 := Aside0.mk hb3; clear hR hb3; obtain ⟨A2, c2, rfl⟩ := Kd.R_slice HR.out))
  have BZ3 := Aside0.mk (blk_below BZ1.out HB3.out)
  have BS3 := Aside0.mk (blk_below BS1.out HB3.out)
  have BK3 := Aside0.mk (blk_below BK1.out HB3.out)
  have HBB3 := Aside0.mk (below_step HBB1.out HB3.out)
  obtain ⟨_, hc2, hC2⟩ := Kd.R_reads' HR.out
  have HC2 := Aside0.mk hC2
  have Hc2 := Aside0.mk hc2
  have HNE := Aside0.mk (show ∀ ad, A2 = some ad → ad.block ≠ w.heap.size + 1 from fun ad e => by have h1 := Kd.R_base HR.out ad.block (by rw [e]; rfl); have h2 := blk_lt BK1.out; have h3 := HSZ1.out; omega)
  clear hC2 hc2 BZ1 BS1 BK1 HBB1 HB3 HR Hl h64 hs64
  clear w2 w1
  generalize hK : pb.length / 64 = K at HLL
  have HK := Aside0.mk hK
  have HPL64 := Aside0.mk (show pb.length = 64 * K by have := HPM.out; omega)
  clear hK
  go_loopg [6] K (fun k v6 wr => ∃ (a i : Nat) (h : List Nat), v6 = .int .i64 a ∧ Aside0 (i + k = K) ∧ Aside0 (a = 64 * i) ∧ Aside0 (h = hashB pb i) ∧ Aside0 (wr.heap[w.heap.size]? = some (.cells (arr8 (List.replicate 32 0)) 27 (0, 0))) ∧ Aside0 (wr.heap[w.heap.size + 1]? = some (.cells (arr h) 56 (0, 0))) ∧ Aside0 (wr.heap[nK]? = some (.cells csK 66 (0, 0))) ∧ Aside0 (Kd.C (Kd.int .u8) wr A2 pb.length pb) ∧ Aside0 (Below w.heap.size w wr))
  case atStart => exact ⟨0, 0, firstN, rfl, ⟨by omega⟩, ⟨rfl⟩, ⟨rfl⟩, BZ3, BS3, BK3, HC2, HBB3⟩
  case round =>
    clear BZ3 BS3 BK3 HC2 HBB3
    obtain ⟨a, i, h, rfl, HI, HA, HH, BZ, BS, BK, HCr, HB⟩ := hrel
    by_cases hlt : a < pb.length
    · have hs : (arr h).size = 8 := by rw [arr_size, HH.out]; exact hashB_len _ _
      have hv : arr (overN h (cut64 pb a)) = arr (overN h (cut64 pb a)) := rfl
      have hvs := Aside0.mk (show (arr (overN h (cut64 pb a))).size = 8 by rw [arr_size, overN_len (by rw [HH.out]; exact hashB_len _ _)])
      have hv1 := Aside0.mk (arr_one (overN h (cut64 pb a)))
      have Hbl := Aside0.mk (fun W hC_ => block_calls A2 c2 h pb a W (by rw [HH.out]; exact hashB_len _ _) (by rw [HH.out]; exact hashB_lt _ _) hC_ (by have h1 := HPL64.out; have h2 := HA.out; omega) HPL.out Hc2.out)
      unfold aggN at Hbl
      rw [HcsK.out] at Hbl
      have HS8 := Aside0.mk hs
      have HRS := Aside0.mk (show hashB pb (i + 1) = overN h (cut64 pb a) by rw [hashB, ← HH.out, HA.out])
      generalize hcs : arr h = cs at BS Hbl hs HS8
      generalize hcv : arr (overN h (cut64 pb a)) = cv at Hbl hvs hv1
      have HCV := Aside0.mk hcv
      clear hv hcs hcv
      have hvs2 := hvs.out
      obtain ⟨N8, h8⟩ : ∃ N : Nat, 8 = N := ⟨_, rfl⟩
      obtain ⟨N64b, h64b⟩ : ∃ N : Nat, 64 = N := ⟨_, rfl⟩
      rw [h8] at hs hvs2
      have h64s := H64.out
      rw [h64b] at h64s
      have hld : Sem.run Tryd.prog (loadCellsFrom ⟨w.heap.size + 1, 0, none⟩ 0 N8 #[]) wr = .ok cs wr := ld_row BS.out hs
      have hld2 : Sem.run Tryd.prog (loadCellsFrom ⟨nK, 0, none⟩ 0 N64b #[]) wr = .ok csK wr := ld_row BK.out h64s
      have HPLT := Aside0.mk hlt
      go_wp2_with (first | (go_at_call 30; (refine (Hbl.out wr HCr.out).mono ?_); rintro e w4 ⟨rfl, hb4⟩; have HB4 := Aside0.mk hb4; clear hb4; have hst : Sem.run Tryd.prog (storeCells ⟨w.heap.size + 1, 0, none⟩ cv.toList) w4 = .ok () (w4.setRow (w.heap.size + 1) cv) := st_row (blk_below BS.out HB4.out) (by rw [hvs.out, HS8.out]) hv1.out))
      clear hld hld2 h8 h64b hs h64s hvs2
      have hw64 : wrap64 ((a : Int) + 64) = ((a + 64 : Nat) : Int) := by have h1 := HPL.out; have h2 := HPLT.out; unfold wrap64; omega
      rw [hw64]
      have hi2 : i + 1 ≤ K := by have h1 := HPL64.out; have h2 := HA.out; omega
      have hgk := HI.out
      go_roundg (gk - 1)
      case measure => omega
      case rel =>
        have hne := HSZ1.out
        have hlt1 := blk_lt BS.out
        refine ⟨a + 64, i + 1, hashB pb (i + 1), rfl, ⟨by omega⟩, ⟨by rw [HA.out]; omega⟩, ⟨rfl⟩, ⟨(setRow_other _ _ _ _ (by omega)).trans (blk_below BZ.out HB4.out)⟩, ⟨?_⟩, ⟨(setRow_other _ _ _ _ (by omega)).trans (blk_below BK.out HB4.out)⟩, ⟨C_but (Kd.C_below HCr.out HB4.out) (fun _ => HNE.out) (fun j hj _ => setRow_other _ _ _ _ hj)⟩, ⟨below_setRow' (below_step HB.out HB4.out) (by omega) _⟩⟩
        rw [HRS.out, HCV.out]
        exact setRow_heap _ _ _ _ _ _ (blk_below BS.out HB4.out)
    · obtain rfl : i = K := by have h1 := HPL64.out; have h2 := HA.out; have h3 := HI.out; omega
      have hlt2 : ¬ ((a : Int) < (pb.length : Int)) := by omega
      have BZ1 := Aside0.mk (blk_alloc BZ.out (.cells (arr8 (List.replicate 32 0)) 27))
      have BS1 := Aside0.mk (blk_alloc BS.out (.cells (arr8 (List.replicate 32 0)) 27))
      have BO1 := Aside0.mk (blk_new wr (.cells (arr8 (List.replicate 32 0)) 27))
      have HB1 := Aside0.mk (below_alloc HB.out (.cells (arr8 (List.replicate 32 0)) 27))
      have HNO := Aside0.mk (blk_lt BS.out)
      have hh8 := Aside0.mk (show h.length = 8 by rw [HH.out]; exact hashB_len _ _)
      have HKY := HLL
      rw [← HH.out] at HKY
      have hk32 := Aside0.mk (show key.length = 32 by rw [HKY.out]; exact keyL_len hh8.out)
      go_wp2
      generalize hnO : wr.heap.size = nO at BO1 HNO ⊢
      clear hnO
      go_loopg [8] 8 (fun k v8 wr => ∃ (i : Nat), v8 = .int .i64 i ∧ i + k = 8 ∧ Aside0 (wr.heap[w.heap.size]? = some (.cells (arr8 (List.replicate 32 0)) 27 (0, 0))) ∧ Aside0 (wr.heap[w.heap.size + 1]? = some (.cells (arr h) 56 (0, 0))) ∧ Aside0 (wr.heap[nO]? = some (.cells (arr8 (part key (4 * i))) 27 (0, 0))) ∧ Aside0 (Below w.heap.size w wr))
      case atStart => exact ⟨0, rfl, rfl, BZ1, BS1, BO1, HB1⟩
      case round =>
        clear BZ1 BS1 BO1 HB1 BZ BS HB BK HCr
        obtain ⟨i, rfl, hk, BZ, BS, BO, HB⟩ := hrel
        by_cases hi : i < 8
        · have HK8 := Aside0.mk hk
          have HI8 := Aside0.mk hi
          go_wp2
          go_loopg [9] 4 (fun k v9 wr => ∃ (c : Nat), v9 = .int .i64 c ∧ c + k = 4 ∧ Aside0 (wr.heap[w.heap.size]? = some (.cells (arr8 (List.replicate 32 0)) 27 (0, 0))) ∧ Aside0 (wr.heap[w.heap.size + 1]? = some (.cells (arr h) 56 (0, 0))) ∧ Aside0 (wr.heap[nO]? = some (.cells (arr8 (part key (4 * i + c))) 27 (0, 0))) ∧ Aside0 (Below w.heap.size w wr))
          case atStart => exact ⟨0, rfl, rfl, BZ, BS, BO, HB⟩
          case round =>
            clear BZ BS BO HB
            obtain ⟨c, rfl, hk4, BZ, BS, BO, HB⟩ := hrel
            by_cases hc : c < 4
            · have HK4 := Aside0.mk hk4
              have hpc : 4 * i + c < 32 := by omega
              have cx := blk_at BS.out i (by rw [hh8.out]; exact hi)
              have co := blk8_at BO.out (4 * i + c) (by rw [part_len hk32.out (by omega)]; exact hpc)
              have fo := blk_frozen BO.out (4 * i + c)
              have hset := part_set hk32.out hpc
              have HKA := Aside0.mk (keyL_at hh8.out i hi)
              rw [← HKY.out] at HKA
              generalize (part key (4 * i + c)).getD (4 * i + c) 0 = ov at co
              have HSET := Aside0.mk hset
              clear hset
              generalize hgx : get h i = x at cx HKA
              have mi : (i : Int) < 8 := by omega
              have HPC := Aside0.mk hpc
              have hcc : c = 0 ∨ c = 1 ∨ c = 2 ∨ c = 3 := by omega
              clear hgx hk hk4
              have mp : ((4 * i + c : Nat) : Int) < 32 := by omega
              have e1 : True := trivial
              have e2 : True := trivial
              clear hpc mp
              rcases hcc with rfl | rfl | rfl | rfl
              · rw [Nat.add_zero] at co fo
                replace co : wr.cell? ⟨nO, 4 * i, none⟩ = some (.int .u8 ov) := co
                replace fo : wr.frozen? ⟨nO, 4 * i, none⟩ = false := fo
                clear e1 e2
                have mp2 : ((4 * i : Nat) : Int) < 32 := by omega
                go_wp2
                have E : (x : Int) / 16777216 % 256 = ((x / 16777216 % 256 : Nat) : Int) := by omega
                rw [E]
                go_roundg (gk - 1)
                case measure => (have h4 := HK4.out; omega)
                case rel =>
                  have h4 := HK4.out
                  have hn2 := HNO.out
                  refine ⟨0 + 1, by first | rfl | go_num, by omega, ⟨blk_far BZ.out (p := ⟨nO, 4 * i, none⟩) (by show w.heap.size ≠ nO; omega) _⟩, ⟨blk_far BS.out (p := ⟨nO, 4 * i, none⟩) (by show w.heap.size + 1 ≠ nO; omega) _⟩, ⟨blk_put BO.out (4 * i) _ ?_⟩, ⟨below_set HB.out (by omega)⟩⟩
                  have h5 := HSET.out
                  rw [show key.getD (4 * i + 0) 0 = ((x / 16777216 % 256 : Nat) : Int) from HKA.out.1] at h5
                  rw [arr8_set]
                  exact congrArg arr8 h5
              · skip
                replace co : wr.cell? ⟨nO, 4 * i + 1, none⟩ = some (.int .u8 ov) := co
                replace fo : wr.frozen? ⟨nO, 4 * i + 1, none⟩ = false := fo
                clear e1 e2
                have mp2 : ((4 * i + 1 : Nat) : Int) < 32 := by omega
                go_wp2
                have E : (x : Int) / 65536 % 256 = ((x / 65536 % 256 : Nat) : Int) := by omega
                rw [E]
                go_roundg (gk - 1)
                case measure => (have h4 := HK4.out; omega)
                case rel =>
                  have h4 := HK4.out
                  have hn2 := HNO.out
                  refine ⟨1 + 1, by first | rfl | go_num, by omega, ⟨blk_far BZ.out (p := ⟨nO, 4 * i + 1, none⟩) (by show w.heap.size ≠ nO; omega) _⟩, ⟨blk_far BS.out (p := ⟨nO, 4 * i + 1, none⟩) (by show w.heap.size + 1 ≠ nO; omega) _⟩, ⟨blk_put BO.out (4 * i + 1) _ ?_⟩, ⟨below_set HB.out (by omega)⟩⟩
                  have h5 := HSET.out
                  rw [show key.getD (4 * i + 1) 0 = ((x / 65536 % 256 : Nat) : Int) from HKA.out.2.1] at h5
                  rw [arr8_set]
                  exact congrArg arr8 h5
              · skip
                replace co : wr.cell? ⟨nO, 4 * i + 2, none⟩ = some (.int .u8 ov) := co
                replace fo : wr.frozen? ⟨nO, 4 * i + 2, none⟩ = false := fo
                clear e1 e2
                have mp2 : ((4 * i + 2 : Nat) : Int) < 32 := by omega
                go_wp2
                have E : (x : Int) / 256 % 256 = ((x / 256 % 256 : Nat) : Int) := by omega
                rw [E]
                go_roundg (gk - 1)
                case measure => (have h4 := HK4.out; omega)
                case rel =>
                  have h4 := HK4.out
                  have hn2 := HNO.out
                  refine ⟨2 + 1, by first | rfl | go_num, by omega, ⟨blk_far BZ.out (p := ⟨nO, 4 * i + 2, none⟩) (by show w.heap.size ≠ nO; omega) _⟩, ⟨blk_far BS.out (p := ⟨nO, 4 * i + 2, none⟩) (by show w.heap.size + 1 ≠ nO; omega) _⟩, ⟨blk_put BO.out (4 * i + 2) _ ?_⟩, ⟨below_set HB.out (by omega)⟩⟩
                  have h5 := HSET.out
                  rw [show key.getD (4 * i + 2) 0 = ((x / 256 % 256 : Nat) : Int) from HKA.out.2.2.1] at h5
                  rw [arr8_set]
                  exact congrArg arr8 h5
              · skip
                replace co : wr.cell? ⟨nO, 4 * i + 3, none⟩ = some (.int .u8 ov) := co
                replace fo : wr.frozen? ⟨nO, 4 * i + 3, none⟩ = false := fo
                clear e1 e2
                have mp2 : ((4 * i + 3 : Nat) : Int) < 32 := by omega
                go_wp2
                have E : (x : Int) % 256 = ((x % 256 : Nat) : Int) := by omega
                rw [E]
                go_roundg (gk - 1)
                case measure => (have h4 := HK4.out; omega)
                case rel =>
                  have h4 := HK4.out
                  have hn2 := HNO.out
                  refine ⟨3 + 1, by first | rfl | go_num, by omega, ⟨blk_far BZ.out (p := ⟨nO, 4 * i + 3, none⟩) (by show w.heap.size ≠ nO; omega) _⟩, ⟨blk_far BS.out (p := ⟨nO, 4 * i + 3, none⟩) (by show w.heap.size + 1 ≠ nO; omega) _⟩, ⟨blk_put BO.out (4 * i + 3) _ ?_⟩, ⟨below_set HB.out (by omega)⟩⟩
                  have h5 := HSET.out
                  rw [show key.getD (4 * i + 3) 0 = ((x % 256 : Nat) : Int) from HKA.out.2.2.2] at h5
                  rw [arr8_set]
                  exact congrArg arr8 h5
            · obtain rfl : gk = 0 := by omega
              obtain rfl : c = 4 := by omega
              go_wp2
              go_roundg (gk - 1)
              case measure => (have h8 := HK8.out; have h9 := HI8.out; omega)
              case rel => exact ⟨i + 1, by go_num, by have h8 := HK8.out; have h9 := HI8.out; omega, BZ, BS, BO, HB⟩
        · obtain rfl : gk = 0 := by omega
          obtain rfl : i = 8 := by omega
          have hp32 := part_all hk32.out
          have BO2 : Aside0 (wr.heap[nO]? = some (.cells (arr8 key) 27 (0, 0))) := ⟨by have := BO.out; rwa [show 4 * 8 = 32 from rfl, hp32] at this⟩
          have hqs : (arr8 key).size = 32 := by rw [arr8_size]; exact hk32.out
          have HQS := Aside0.mk hqs
          have hone8 := Aside0.mk (arr8_one key)
          clear hk hp32 BO
          generalize hcs3 : arr8 key = cs3 at BO2 hqs HQS hone8 ⊢
          have HC3 := Aside0.mk hcs3
          clear hcs3
          obtain ⟨N32, h32⟩ : ∃ N : Nat, 32 = N := ⟨_, rfl⟩
          rw [h32] at hqs
          have hld : Sem.run Tryd.prog (loadCellsFrom ⟨nO, 0, none⟩ 0 N32 #[]) wr = .ok cs3 wr := ld_row BO2.out hqs
          have hst : Sem.run Tryd.prog (storeCells ⟨w.heap.size, 0, none⟩ cs3.toList) wr = .ok () (wr.setRow w.heap.size cs3) := st_row BZ.out (by rw [HQS.out, arr8_size, List.length_replicate]) hone8.out
          go_wp2
          refine bodyPost_ret (results_cell_row (p := 2) (ty := 27) rfl _ _ w.heap.size 27 cs3 (0, 0) _ rfl (setRow_heap _ _ _ _ _ _ BZ.out) Tryd.underlying27 rfl (by rw [HQS.out]; kernel_rfl)) rfl ⟨by rw [HC3.out], below_setRow' HB.out (Nat.le_refl _) _⟩
end Go.Proofs.YthnmpkhjpfhloaaDoor.M
