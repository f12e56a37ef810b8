import Derived.Test.YthnmpkhjpfhloaaDoorProg
import Derived.Below
import Derived.Deep.Draws
import Derived.Deep.AppendLies
import Derived.Maps.AppendAt
import Derived.OwnWalk
import Derived.Laws.BytesArg
import Derived.Laws.MakeOwn
import Derived.Laws.OwnMore
import Derived.Deep.OwnRows
import Derived.Tactics
import Derived.Lib.ConvBytes
import Derived.Laws.Slices
import Derived.WalkKit
import Derived.KernelRfl
import Derived.RowKit3
import Derived.Deep.LoopGhost
import Derived.Deep.QuietTactic
import Derived.BigQuiet
import Derived.WideLaws
import Derived.Deep.DeepCutAuto
import Derived.Deep.CutBlock
import Derived.Deep.RegionHeld3
import Derived.Laws.Rows
import Derived.Lib.AppendStr
import Derived.ArgAppend
import Derived.Laws.IdiomCopy
import Derived.OrdersHeld
import Derived.Laws.BitsLemmas
import Derived.RowKit
import Derived.Test.YthnmpkhjpfhloaaDoorWWords
import Derived.Test.YthnmpkhjpfhloaaDoorWLast
import Derived.Test.YthnmpkhjpfhloaaDoorWTab
import Derived.Test.YthnmpkhjpfhloaaDoorWFour
import Derived.Test.YthnmpkhjpfhloaaDoorWQPut
import Derived.Test.YthnmpkhjpfhloaaDoorWApart
import Derived.Test.YthnmpkhjpfhloaaDoorWArr
import Derived.Test.YthnmpkhjpfhloaaDoorWZeros
import Derived.Test.YthnmpkhjpfhloaaDoorWFoot
import Derived.Test.YthnmpkhjpfhloaaDoorWKept
import Derived.Test.YthnmpkhjpfhloaaDoorWShare
import Derived.Test.YthnmpkhjpfhloaaDoorWN
import Derived.Test.YthnmpkhjpfhloaaDoorWFootNe
import Derived.Test.YthnmpkhjpfhloaaDoorWAt
import Derived.Test.YthnmpkhjpfhloaaDoorWEqStruct
import Derived.Test.YthnmpkhjpfhloaaDoorWRepsOne
import Derived.Test.YthnmpkhjpfhloaaDoorWInv
import Derived.Test.YthnmpkhjpfhloaaDoorWInvWords
import Derived.Test.YthnmpkhjpfhloaaDoorWGuard
import Derived.Test.YthnmpkhjpfhloaaDoorWNEv
import Derived.Test.YthnmpkhjpfhloaaDoorWMore
import Derived.Laws.BitsAllLaws
import Derived.StillTailTactics
import Derived.Test.YthnmpkhjpfhloaaDoorMs
import Derived.Deep.WholeRow
import Derived.Test.YthnmpkhjpfhloaaDoorMt
namespace Go.Proofs.YthnmpkhjpfhloaaDoor.M
open Go.RowKit Go.Proofs.YthnmpkhjpfhloaaDoorW.PrintWords Go.Proofs.YthnmpkhjpfhloaaDoorW.PrintLast Go.Proofs.YthnmpkhjpfhloaaDoorW.PrintMore
set_option linter.unusedVariables false
set_option linter.unusedSimpArgs false
theorem size_alloc1 (w : World) (o : Obj) : (w.alloc o).heap.size = w.heap.size + 1 := by
  show (w.heap.push o).size = _
  simp
theorem st_new {P : Program} {w : World} {n : Nat} {t : TypeId} {c c' : Array Value} (hn : w.heap.size = n) (hi : (P.info? t).map (·.size) = some c'.size) (ho : c.size = c'.size) (h1 : c'.all (·.oneCell') = true) :
    (storeCells ⟨n, 0, none⟩ c'.toList 0).run P (w.alloc (.cells c t)) = .ok () (w.alloc (.cells c' t)) := by
  subst hn
  exact run_storeCells_new w t c c' hi ho h1
theorem set_eight {s : List Nat} (h : s.length = 8) (a0 a1 a2 a3 a4 a5 a6 a7 : Nat) : (((((((s.set 0 a0).set 1 a1).set 2 a2).set 3 a3).set 4 a4).set 5 a5).set 6 a6).set 7 a7 = [a0, a1, a2, a3, a4, a5, a6, a7] := by
  match s, h with
  | [_, _, _, _, _, _, _, _], _ => rfl
theorem sig_eq {a b c : Nat} (ha : a < 4294967296) (hb : b < 4294967296) (hc : c < 4294967296) : Go.bits .xor .u32 (Go.bits .xor .u32 (a : Int) (b : Int)) (c : Int) = (((a ^^^ b) ^^^ c : Nat) : Int) := by
  rw [u32_xor_nat _ _ ha hb, u32_xor_nat _ _ (xor32 ha hb) hc]
theorem ch_eq {e f g : Nat} (he : e < 4294967296) (hf : f < 4294967296) (hg : g < 4294967296) : Go.bits .xor .u32 (Go.bits .and .u32 (e : Int) (f : Int)) (Go.bits .and .u32 (Go.bits .xor .u32 IntKind.u32.max (e : Int)) (g : Int)) = ((chN e f g : Nat) : Int) := by
  rw [show IntKind.u32.max = ((4294967295 : Nat) : Int) from rfl, u32_and_nat _ _ he hf, u32_xor_nat _ _ (by decide) he, u32_and_nat _ _ (xor32 (by decide) he) hg, u32_xor_nat _ _ (and32 _ he) (and32 _ (xor32 (by decide) he))]
  unfold chN
  rw [Nat.xor_comm 4294967295 e]
theorem maj_eq {a b c : Nat} (ha : a < 4294967296) (hb : b < 4294967296) (hc : c < 4294967296) : Go.bits .xor .u32 (Go.bits .xor .u32 (Go.bits .and .u32 (a : Int) (b : Int)) (Go.bits .and .u32 (a : Int) (c : Int))) (Go.bits .and .u32 (b : Int) (c : Int)) = ((majN a b c : Nat) : Int) := by
  rw [u32_and_nat _ _ ha hb, u32_and_nat _ _ ha hc, u32_and_nat _ _ hb hc, sig_eq (and32 _ ha) (and32 _ ha) (and32 _ hb)]
  rfl
set_option maxHeartbeats 8000000 in
set_option maxRecDepth 100000 in
set_option pp.deepTerms true in
set_option pp.maxSteps 1000000 in
theorem over_calls (A : Option Addr) (c : Nat) (p : List Nat) (b : List Int) (w : World) (hh : p.length = 8) (hw : W32 p) (hC : Kd.C (Kd.int .u8) w A b.length b) (hl : b.length = 64) (hc : b.length ≤ c) (hT : Tab w) :
    Calls Tryd.prog 25 #[aggN p, .slice A b.length c] w fun e w' => e = .returned (aggN (overN p b)) ∧ Below w.heap.size w w' := by
  have HT := Aside0.mk hT
  have HW := Aside0.mk hw
  have HH := Aside0.mk hh
  have HC := Aside0.mk hC
  have HL := Aside0.mk hl
  have HCC := Aside0.mk hc
  clear hT hw hh hC hl hc
  unfold aggN
  generalize hcs : arr p = cs
  have Hcs := Aside0.mk hcs
  have hsz : cs.size = 8 := by rw [← hcs, arr_size, HH.out]
  have H8 := Aside0.mk hsz
  clear hcs
  have HB0 := Aside0.mk (below_alloc (below_alloc (Below.refl w.heap.size w) (.cells cs 57 (0, 0))) (.cells (arr (List.replicate 8 0)) 57 (0, 0)))
  have HA0 := Aside0.mk (show ((w.alloc (.cells cs 57 (0, 0))).alloc (.cells (arr (List.replicate 8 0)) 57 (0, 0))).heap[w.heap.size]? = some (.cells cs 57 (0, 0)) from blk_alloc (blk_new _ _) _)
  have HZ0 := Aside0.mk (show ((w.alloc (.cells cs 57 (0, 0))).alloc (.cells (arr (List.replicate 8 0)) 57 (0, 0))).heap[w.heap.size + 1]? = some (.cells (arr (List.replicate 8 0)) 57 (0, 0)) from heap_alloc2_new _ _ _)
  have Hsp := Aside0.mk (spread_calls A c b ((w.alloc (.cells cs 57 (0, 0))).alloc (.cells (arr (List.replicate 8 0)) 57 (0, 0))) (Kd.C_below HC.out HB0.out) HL.out HCC.out)
  unfold aggN at Hsp
  generalize hcs2 : arr (spreadN b) = cs2 at Hsp
  have Hcs2 := Aside0.mk hcs2
  have H64 := Aside0.mk (show cs2.size = 64 by rw [← hcs2, arr_size, spreadN_len])
  have hs64 := H64.out
  clear hcs2
  obtain ⟨N64, h64⟩ : ∃ N : Nat, 64 = N := ⟨_, rfl⟩
  obtain ⟨N8, h8⟩ : ∃ N : Nat, 8 = N := ⟨_, rfl⟩
  rw [h64] at hs64
  rw [h8] at hsz
  go_enter Tryd.func25, Tryd.ntmps25
  go_wp2_with (first | (go_at_call 32; (refine Hsp.out.mono ?_); rintro e w1 ⟨rfl, hb1⟩; have HB1 := Aside0.mk hb1; clear hb1))
  have hsz1 : w.heap.size + 2 ≤ w1.heap.size := by have h_ := HB1.out.size; have e_ : ((w.alloc (Obj.cells cs 57)).alloc (Obj.cells (arr (List.replicate 8 0)) 57)).heap.size = w.heap.size + 2 := by rw [size_alloc1, size_alloc1]
                                                   omega
  have HSZ1 := Aside0.mk hsz1
  have BA1 := Aside0.mk (blk_alloc (blk_below HA0.out HB1.out) (.cells cs2 66))
  have BZ1 := Aside0.mk (blk_alloc (blk_below HZ0.out HB1.out) (.cells cs2 66))
  have BW1 := Aside0.mk (blk_new w1 (.cells cs2 66))
  have HBB1 := Aside0.mk (below_alloc (below_step HB0.out HB1.out) (.cells cs2 66))
  rw [st_new (P := Tryd.prog) (w := w1) (t := 66) (c' := cs2) rfl (by rw [H64.out]; kernel_rfl) (by rw [H64.out]; rfl) (by rw [← Hcs2.out]; exact arr_one _)]
  have hld : Sem.run Tryd.prog (loadCellsFrom ⟨w.heap.size, 0, none⟩ 0 N8 #[]) (w1.alloc (.cells cs2 66)) = .ok cs (w1.alloc (.cells cs2 66)) := ld_row BA1.out hsz
  clear hsz1
  go_wp2
  rw [st_new (P := Tryd.prog) (w := w1.alloc (.cells cs2 66)) (t := 57) (c' := cs) (size_alloc1 _ _) (by rw [H8.out]; kernel_rfl) (by rw [H8.out]; rfl) (by rw [← Hcs.out]; exact arr_one _)]
  clear hld
  have e2 : (w1.alloc (.cells cs2 66)).heap.size = w1.heap.size + 1 := size_alloc1 _ _
  have BA2 := Aside0.mk (blk_alloc BA1.out (.cells cs 57))
  have BZ2 := Aside0.mk (blk_alloc BZ1.out (.cells cs 57))
  have BW2 := Aside0.mk (blk_alloc BW1.out (.cells cs 57))
  have BS2 := Aside0.mk (e2 ▸ blk_new (w1.alloc (.cells cs2 66)) (.cells cs 57))
  have HBB2 := Aside0.mk (below_alloc HBB1.out (.cells cs 57))
  clear BA1 BZ1 BW1 HBB1 e2 h64 h8 hs64 hsz
  generalize (w1.alloc (.cells cs2 66)).alloc (.cells cs 57) = w2 at BA2 BZ2 BW2 BS2 HBB2 ⊢
  have HSS := HSZ1
  clear HB1 HSZ1 Hsp HB0 HA0 HZ0
  generalize w1.heap.size = n1 at BW2 BS2 HSS ⊢
  have BA3 := BA2
  rw [← Hcs.out] at BA3 BS2
  rw [← Hcs2.out] at BW2
  clear BA2
  generalize hn0 : w.heap.size = n0 at HSS BA3 BZ2 HBB2 ⊢
  have Hn0 := Aside0.mk hn0
  clear hn0
  go_wp2
  go_loopg [14] 64 (fun k v14 wr => ∃ (t : Nat) (s : List Nat), v14 = .int .i64 t ∧ t + k = 64 ∧ Aside0 (s = rnds p (spreadN b) t) ∧ Aside0 (wr.heap[n1 + 1]? = some (.cells (arr s) 57 (0, 0))) ∧ Aside0 (wr.heap[n1]? = some (.cells (arr (spreadN b)) 66 (0, 0))) ∧ Aside0 (wr.heap[n0]? = some (.cells (arr p) 57 (0, 0))) ∧ Aside0 (wr.heap[n0 + 1]? = some (.cells (arr (List.replicate 8 0)) 57 (0, 0))) ∧ Aside0 (Below n0 w wr))
  case atStart => exact ⟨0, p, rfl, rfl, ⟨rfl⟩, BS2, BW2, BA3, BZ2, HBB2⟩
  case round =>
    obtain ⟨t, s, rfl, hk, HS, BS, BW, BA, BZ, HB⟩ := hrel
    clear BS2 BW2 BA3 BZ2 HBB2
    by_cases ht : t < 64
    · have hs8 : s.length = 8 := by rw [HS.out]; exact rnds_len HH.out _ t
      have hsl : W32 s := by rw [HS.out]; exact rnds_lt HW.out _ t
      have c0 := blk_at BS.out 0 (by rw [hs8]; decide)
      have c1 := blk_at BS.out 1 (by rw [hs8]; decide)
      have c2 := blk_at BS.out 2 (by rw [hs8]; decide)
      have c3 := blk_at BS.out 3 (by rw [hs8]; decide)
      have c4 := blk_at BS.out 4 (by rw [hs8]; decide)
      have c5 := blk_at BS.out 5 (by rw [hs8]; decide)
      have c6 := blk_at BS.out 6 (by rw [hs8]; decide)
      have c7 := blk_at BS.out 7 (by rw [hs8]; decide)
      have f0 := blk_frozen BS.out 0
      have f1 := blk_frozen BS.out 1
      have f2 := blk_frozen BS.out 2
      have f3 := blk_frozen BS.out 3
      have f4 := blk_frozen BS.out 4
      have f5 := blk_frozen BS.out 5
      have f6 := blk_frozen BS.out 6
      have f7 := blk_frozen BS.out 7
      have q0 := hsl 0
      have q1 := hsl 1
      have q2 := hsl 2
      have q3 := hsl 3
      have q4 := hsl 4
      have q5 := hsl 5
      have q6 := hsl 6
      have q7 := hsl 7
      have ct := blk_at BW.out t (by rw [spreadN_len]; exact ht)
      have cK := (HT.out.below (Hn0.out ▸ HB.out)) t ht
      have hwl := spreadN_lt b t
      have hkl := tableL_lt t
      have HK := Aside0.mk hk
      clear hk hs8 hsl
      generalize hg0 : get s 0 = s0 at c0
      rw [hg0] at q0
      have G0 := Aside0.mk hg0
      have Q0 := Aside0.mk q0
      clear hg0 q0
      generalize hg1 : get s 1 = s1 at c1
      rw [hg1] at q1
      have G1 := Aside0.mk hg1
      have Q1 := Aside0.mk q1
      clear hg1 q1
      generalize hg2 : get s 2 = s2 at c2
      rw [hg2] at q2
      have G2 := Aside0.mk hg2
      have Q2 := Aside0.mk q2
      clear hg2 q2
      generalize hg3 : get s 3 = s3 at c3
      rw [hg3] at q3
      have G3 := Aside0.mk hg3
      have Q3 := Aside0.mk q3
      clear hg3 q3
      generalize hg4 : get s 4 = s4 at c4
      rw [hg4] at q4
      have G4 := Aside0.mk hg4
      have Q4 := Aside0.mk q4
      clear hg4 q4
      generalize hg5 : get s 5 = s5 at c5
      rw [hg5] at q5
      have G5 := Aside0.mk hg5
      have Q5 := Aside0.mk q5
      clear hg5 q5
      generalize hg6 : get s 6 = s6 at c6
      rw [hg6] at q6
      have G6 := Aside0.mk hg6
      have Q6 := Aside0.mk q6
      clear hg6 q6
      generalize hg7 : get s 7 = s7 at c7
      rw [hg7] at q7
      have G7 := Aside0.mk hg7
      have Q7 := Aside0.mk q7
      clear hg7 q7
      generalize hgw : get (spreadN b) t = wt at ct hwl
      have GW := Aside0.mk hgw
      have QW := Aside0.mk hwl
      clear hgw hwl
      generalize hgk : get tableL t = kt at cK hkl
      have GK := Aside0.mk hgk
      have QK := Aside0.mk hkl
      clear hgk hkl
      have mt : (t : Int) < 64 := by omega
      go_wp2
      go_quiet (fail)
      have E0 : (((s7 : Int) + (wt : Int)) % 4294967296 + (kt : Int)) % 4294967296 = ((addN (addN s7 wt) kt : Nat) : Int) := by rw [add_eq, add_eq]
      rw [E0]
      clear E0 ct cK
      generalize hx0 : addN (addN s7 wt) kt = x0
      have X0 := Aside0.mk hx0
      clear hx0
      replace c0 : (wr.drewN nq).cell? ⟨n1 + 1, 0, none⟩ = some (.int .u32 (s0 : Int)) := c0
      replace c1 : (wr.drewN nq).cell? ⟨n1 + 1, 1, none⟩ = some (.int .u32 (s1 : Int)) := c1
      replace c2 : (wr.drewN nq).cell? ⟨n1 + 1, 2, none⟩ = some (.int .u32 (s2 : Int)) := c2
      replace c3 : (wr.drewN nq).cell? ⟨n1 + 1, 3, none⟩ = some (.int .u32 (s3 : Int)) := c3
      replace c4 : (wr.drewN nq).cell? ⟨n1 + 1, 4, none⟩ = some (.int .u32 (s4 : Int)) := c4
      replace c5 : (wr.drewN nq).cell? ⟨n1 + 1, 5, none⟩ = some (.int .u32 (s5 : Int)) := c5
      replace c6 : (wr.drewN nq).cell? ⟨n1 + 1, 6, none⟩ = some (.int .u32 (s6 : Int)) := c6
      replace c7 : (wr.drewN nq).cell? ⟨n1 + 1, 7, none⟩ = some (.int .u32 (s7 : Int)) := c7
      replace f0 : (wr.drewN nq).frozen? ⟨n1 + 1, 0, none⟩ = false := f0
      replace f1 : (wr.drewN nq).frozen? ⟨n1 + 1, 1, none⟩ = false := f1
      replace f2 : (wr.drewN nq).frozen? ⟨n1 + 1, 2, none⟩ = false := f2
      replace f3 : (wr.drewN nq).frozen? ⟨n1 + 1, 3, none⟩ = false := f3
      replace f4 : (wr.drewN nq).frozen? ⟨n1 + 1, 4, none⟩ = false := f4
      replace f5 : (wr.drewN nq).frozen? ⟨n1 + 1, 5, none⟩ = false := f5
      replace f6 : (wr.drewN nq).frozen? ⟨n1 + 1, 6, none⟩ = false := f6
      replace f7 : (wr.drewN nq).frozen? ⟨n1 + 1, 7, none⟩ = false := f7
      replace BS : Aside0 ((wr.drewN nq).heap[n1 + 1]? = some (.cells (arr s) 57 (0, 0))) := BS
      replace BW : Aside0 ((wr.drewN nq).heap[n1]? = some (.cells (arr (spreadN b)) 66 (0, 0))) := BW
      replace BA : Aside0 ((wr.drewN nq).heap[n0]? = some (.cells (arr p) 57 (0, 0))) := BA
      replace BZ : Aside0 ((wr.drewN nq).heap[n0 + 1]? = some (.cells (arr (List.replicate 8 0)) 57 (0, 0))) := BZ
      replace HB := Aside0.mk (below_drewN' HB.out nq)
      generalize wr.drewN nq = wa at c0 c1 c2 c3 c4 c5 c6 c7 f0 f1 f2 f3 f4 f5 f6 f7 BS BW BA BZ HB ⊢
      clear nq
      go_wp2
      have r6 := fun w => turned_still s4 6 6 w rfl Q4.out (by decide) (by decide)
      have r11 := fun w => turned_still s4 11 11 w rfl Q4.out (by decide) (by decide)
      have r25 := fun w => turned_still s4 25 25 w rfl Q4.out (by decide) (by decide)
      refine wp_region_still_lit (by kernel_rfl) (by kernel_rfl) ?_
      (still_step; still_step; still_step; still_call (r6 _); still_step; still_step; still_call (r11 _); still_step; still_step; still_step; still_call (r25 _); still_step; still_step; still_step)
      refine wpStill_nil ?_
      clear r6 r11 r25
      have E1 : IntKind.u32.wrap ((x0 : Int) + bits .xor .u32 (bits .xor .u32 ((rotN 6 s4 : Nat) : Int) ((rotN 11 s4 : Nat) : Int)) ((rotN 25 s4 : Nat) : Int)) = ((addN x0 (bsig1 s4) : Nat) : Int) := by
        rw [IntKind.wrap_u32, u32_xor_nat _ _ (rotN_lt _ Q4.out) (rotN_lt _ Q4.out), u32_xor_nat _ _ (xor32 (rotN_lt _ Q4.out) (rotN_lt _ Q4.out)) (rotN_lt _ Q4.out)]; exact add_eq _ _
      rw [E1]
      clear E1
      generalize hx1 : addN x0 (bsig1 s4) = x1
      have X1 := Aside0.mk hx1
      clear hx1
      generalize rotN 6 s4 = j1
      generalize rotN 11 s4 = j2
      generalize rotN 25 s4 = j3
      change Exit.then _ _ _ _ wa.drew
      replace c0 : (wa.drew).cell? ⟨n1 + 1, 0, none⟩ = some (.int .u32 (s0 : Int)) := c0
      replace c1 : (wa.drew).cell? ⟨n1 + 1, 1, none⟩ = some (.int .u32 (s1 : Int)) := c1
      replace c2 : (wa.drew).cell? ⟨n1 + 1, 2, none⟩ = some (.int .u32 (s2 : Int)) := c2
      replace c3 : (wa.drew).cell? ⟨n1 + 1, 3, none⟩ = some (.int .u32 (s3 : Int)) := c3
      replace c4 : (wa.drew).cell? ⟨n1 + 1, 4, none⟩ = some (.int .u32 (s4 : Int)) := c4
      replace c5 : (wa.drew).cell? ⟨n1 + 1, 5, none⟩ = some (.int .u32 (s5 : Int)) := c5
      replace c6 : (wa.drew).cell? ⟨n1 + 1, 6, none⟩ = some (.int .u32 (s6 : Int)) := c6
      replace c7 : (wa.drew).cell? ⟨n1 + 1, 7, none⟩ = some (.int .u32 (s7 : Int)) := c7
      replace f0 : (wa.drew).frozen? ⟨n1 + 1, 0, none⟩ = false := f0
      replace f1 : (wa.drew).frozen? ⟨n1 + 1, 1, none⟩ = false := f1
      replace f2 : (wa.drew).frozen? ⟨n1 + 1, 2, none⟩ = false := f2
      replace f3 : (wa.drew).frozen? ⟨n1 + 1, 3, none⟩ = false := f3
      replace f4 : (wa.drew).frozen? ⟨n1 + 1, 4, none⟩ = false := f4
      replace f5 : (wa.drew).frozen? ⟨n1 + 1, 5, none⟩ = false := f5
      replace f6 : (wa.drew).frozen? ⟨n1 + 1, 6, none⟩ = false := f6
      replace f7 : (wa.drew).frozen? ⟨n1 + 1, 7, none⟩ = false := f7
      replace BS : Aside0 ((wa.drew).heap[n1 + 1]? = some (.cells (arr s) 57 (0, 0))) := BS
      replace BW : Aside0 ((wa.drew).heap[n1]? = some (.cells (arr (spreadN b)) 66 (0, 0))) := BW
      replace BA : Aside0 ((wa.drew).heap[n0]? = some (.cells (arr p) 57 (0, 0))) := BA
      replace BZ : Aside0 ((wa.drew).heap[n0 + 1]? = some (.cells (arr (List.replicate 8 0)) 57 (0, 0))) := BZ
      replace HB := Aside0.mk (below_drew1 HB.out)
      generalize wa.drew = wb at c0 c1 c2 c3 c4 c5 c6 c7 f0 f1 f2 f3 f4 f5 f6 f7 BS BW BA BZ HB ⊢
      go_wp2
      have E2 : ((x1 : Int) + bits .xor .u32 (bits .and .u32 (s4 : Int) (s5 : Int)) (bits .and .u32 (bits .xor .u32 IntKind.u32.max (s4 : Int)) (s6 : Int))) % 4294967296 = ((addN x1 (chN s4 s5 s6) : Nat) : Int) := by
        rw [ch_eq Q4.out Q5.out Q6.out]; exact add_eq _ _
      rw [E2]
      clear E2
      generalize hx2 : addN x1 (chN s4 s5 s6) = x2
      have X2 := Aside0.mk hx2
      clear hx2
      have r2 := fun w => turned_still s0 2 2 w rfl Q0.out (by decide) (by decide)
      have r13 := fun w => turned_still s0 13 13 w rfl Q0.out (by decide) (by decide)
      have r22 := fun w => turned_still s0 22 22 w rfl Q0.out (by decide) (by decide)
      refine wp_region_still_lit (by kernel_rfl) (by kernel_rfl) ?_
      (still_step; still_step; still_call (r2 _); still_step; still_step; still_call (r13 _); still_step; still_step; still_step; still_call (r22 _); still_step; still_step)
      refine wpStill_nil ?_
      clear r2 r13 r22
      have E3 : bits .xor .u32 (bits .xor .u32 ((rotN 2 s0 : Nat) : Int) ((rotN 13 s0 : Nat) : Int)) ((rotN 22 s0 : Nat) : Int) = ((bsig0 s0 : Nat) : Int) := sig_eq (rotN_lt _ Q0.out) (rotN_lt _ Q0.out) (rotN_lt _ Q0.out)
      rw [E3]
      clear E3
      generalize hx3 : bsig0 s0 = x3
      have X3 := Aside0.mk hx3
      clear hx3
      generalize rotN 2 s0 = j4
      generalize rotN 13 s0 = j5
      generalize rotN 22 s0 = j6
      change Exit.then _ _ _ _ wb.drew
      replace c0 : (wb.drew).cell? ⟨n1 + 1, 0, none⟩ = some (.int .u32 (s0 : Int)) := c0
      replace c1 : (wb.drew).cell? ⟨n1 + 1, 1, none⟩ = some (.int .u32 (s1 : Int)) := c1
      replace c2 : (wb.drew).cell? ⟨n1 + 1, 2, none⟩ = some (.int .u32 (s2 : Int)) := c2
      replace c3 : (wb.drew).cell? ⟨n1 + 1, 3, none⟩ = some (.int .u32 (s3 : Int)) := c3
      replace c4 : (wb.drew).cell? ⟨n1 + 1, 4, none⟩ = some (.int .u32 (s4 : Int)) := c4
      replace c5 : (wb.drew).cell? ⟨n1 + 1, 5, none⟩ = some (.int .u32 (s5 : Int)) := c5
      replace c6 : (wb.drew).cell? ⟨n1 + 1, 6, none⟩ = some (.int .u32 (s6 : Int)) := c6
      replace c7 : (wb.drew).cell? ⟨n1 + 1, 7, none⟩ = some (.int .u32 (s7 : Int)) := c7
      replace f0 : (wb.drew).frozen? ⟨n1 + 1, 0, none⟩ = false := f0
      replace f1 : (wb.drew).frozen? ⟨n1 + 1, 1, none⟩ = false := f1
      replace f2 : (wb.drew).frozen? ⟨n1 + 1, 2, none⟩ = false := f2
      replace f3 : (wb.drew).frozen? ⟨n1 + 1, 3, none⟩ = false := f3
      replace f4 : (wb.drew).frozen? ⟨n1 + 1, 4, none⟩ = false := f4
      replace f5 : (wb.drew).frozen? ⟨n1 + 1, 5, none⟩ = false := f5
      replace f6 : (wb.drew).frozen? ⟨n1 + 1, 6, none⟩ = false := f6
      replace f7 : (wb.drew).frozen? ⟨n1 + 1, 7, none⟩ = false := f7
      replace BS : Aside0 ((wb.drew).heap[n1 + 1]? = some (.cells (arr s) 57 (0, 0))) := BS
      replace BW : Aside0 ((wb.drew).heap[n1]? = some (.cells (arr (spreadN b)) 66 (0, 0))) := BW
      replace BA : Aside0 ((wb.drew).heap[n0]? = some (.cells (arr p) 57 (0, 0))) := BA
      replace BZ : Aside0 ((wb.drew).heap[n0 + 1]? = some (.cells (arr (List.replicate 8 0)) 57 (0, 0))) := BZ
      replace HB := Aside0.mk (below_drew1 HB.out)
      generalize wb.drew = wc at c0 c1 c2 c3 c4 c5 c6 c7 f0 f1 f2 f3 f4 f5 f6 f7 BS BW BA BZ HB ⊢
      go_wp2
      go_roundg (gk - 1)
      case measure => (have hk := HK.out; omega)
      case rel =>
        have hk := HK.out
        have hs8 : s.length = 8 := by rw [HS.out]; exact rnds_len HH.out _ t
        have hss := HSS.out
        have E4 : ((x2 : Int) + ((x3 : Int) + bits .xor .u32 (bits .xor .u32 (bits .and .u32 (s0 : Int) (s1 : Int)) (bits .and .u32 (s0 : Int) (s2 : Int))) (bits .and .u32 (s1 : Int) (s2 : Int)))) % 4294967296 = ((addN x2 (addN x3 (majN s0 s1 s2)) : Nat) : Int) := by
          rw [maj_eq Q0.out Q1.out Q2.out]; unfold addN; omega
        rw [E4, add_eq s3 x2]
        obtain rfl := Hn0.out
        refine ⟨t + 1, rnds p (spreadN b) (t + 1), by go_num, by omega, ⟨rfl⟩, ⟨?_⟩, ⟨blk_far (blk_far (blk_far (blk_far (blk_far (blk_far (blk_far (blk_far (BW.out) (p := ⟨n1 + 1, 0, none⟩) (by show _ ≠ n1 + 1; omega) _) (p := ⟨n1 + 1, 1, none⟩) (by show _ ≠ n1 + 1; omega) _) (p := ⟨n1 + 1, 2, none⟩) (by show _ ≠ n1 + 1; omega) _) (p := ⟨n1 + 1, 3, none⟩) (by show _ ≠ n1 + 1; omega) _) (p := ⟨n1 + 1, 4, none⟩) (by show _ ≠ n1 + 1; omega) _) (p := ⟨n1 + 1, 5, none⟩) (by show _ ≠ n1 + 1; omega) _) (p := ⟨n1 + 1, 6, none⟩) (by show _ ≠ n1 + 1; omega) _) (p := ⟨n1 + 1, 7, none⟩) (by show _ ≠ n1 + 1; omega) _⟩, ⟨blk_far (blk_far (blk_far (blk_far (blk_far (blk_far (blk_far (blk_far (BA.out) (p := ⟨n1 + 1, 0, none⟩) (by show _ ≠ n1 + 1; omega) _) (p := ⟨n1 + 1, 1, none⟩) (by show _ ≠ n1 + 1; omega) _) (p := ⟨n1 + 1, 2, none⟩) (by show _ ≠ n1 + 1; omega) _) (p := ⟨n1 + 1, 3, none⟩) (by show _ ≠ n1 + 1; omega) _) (p := ⟨n1 + 1, 4, none⟩) (by show _ ≠ n1 + 1; omega) _) (p := ⟨n1 + 1, 5, none⟩) (by show _ ≠ n1 + 1; omega) _) (p := ⟨n1 + 1, 6, none⟩) (by show _ ≠ n1 + 1; omega) _) (p := ⟨n1 + 1, 7, none⟩) (by show _ ≠ n1 + 1; omega) _⟩, ⟨blk_far (blk_far (blk_far (blk_far (blk_far (blk_far (blk_far (blk_far (BZ.out) (p := ⟨n1 + 1, 0, none⟩) (by show _ ≠ n1 + 1; omega) _) (p := ⟨n1 + 1, 1, none⟩) (by show _ ≠ n1 + 1; omega) _) (p := ⟨n1 + 1, 2, none⟩) (by show _ ≠ n1 + 1; omega) _) (p := ⟨n1 + 1, 3, none⟩) (by show _ ≠ n1 + 1; omega) _) (p := ⟨n1 + 1, 4, none⟩) (by show _ ≠ n1 + 1; omega) _) (p := ⟨n1 + 1, 5, none⟩) (by show _ ≠ n1 + 1; omega) _) (p := ⟨n1 + 1, 6, none⟩) (by show _ ≠ n1 + 1; omega) _) (p := ⟨n1 + 1, 7, none⟩) (by show _ ≠ n1 + 1; omega) _⟩, ⟨below_set (below_set (below_set (below_set (below_set (below_set (below_set (below_set (HB.out) (g := n1 + 1) (by omega)) (g := n1 + 1) (by omega)) (g := n1 + 1) (by omega)) (g := n1 + 1) (by omega)) (g := n1 + 1) (by omega)) (g := n1 + 1) (by omega)) (g := n1 + 1) (by omega)) (g := n1 + 1) (by omega)⟩⟩
        have hr : rnds p (spreadN b) (t + 1) = [addN x2 (addN x3 (majN s0 s1 s2)), s0, s1, s2, addN s3 x2, s4, s5, s6] := by
          rw [rnds, ← HS.out, GW.out, GK.out]
          unfold rnd
          simp only [G0.out, G1.out, G2.out, G3.out, G4.out, G5.out, G6.out, G7.out, X0.out, X1.out, X2.out, X3.out]
        rw [hr]
        exact blk_put (blk_put (blk_put (blk_put (blk_put (blk_put (blk_put (blk_put (BS.out) 0 _ (arr_set _ 0 _)) 1 _ (arr_set _ 1 _)) 2 _ (arr_set _ 2 _)) 3 _ (arr_set _ 3 _)) 4 _ (arr_set _ 4 _)) 5 _ (arr_set _ 5 _)) 6 _ (arr_set _ 6 _)) 7 _ ((arr_set _ 7 _).trans (congrArg arr (set_eight hs8 _ _ _ _ _ _ _ _)))
    · obtain rfl : gk = 0 := by omega
      obtain rfl : t = 64 := by omega
      clear BW hk
      have HS1 := HS
      clear HS
      have HSX := BS
      have HAX := BA
      have HZX := BZ
      have HBX := HB
      clear BS BA BZ HB
      go_wp2
      go_loopg [105] 8 (fun k v105 wr => ∃ (i : Nat) (q : List Nat), v105 = .int .i64 i ∧ i + k = 8 ∧ Aside0 (q = fin p s i) ∧ Aside0 (wr.heap[n1 + 1]? = some (.cells (arr s) 57 (0, 0))) ∧ Aside0 (wr.heap[n0]? = some (.cells (arr q) 57 (0, 0))) ∧ Aside0 (wr.heap[n0 + 1]? = some (.cells (arr (List.replicate 8 0)) 57 (0, 0))) ∧ Aside0 (Below n0 w wr))
      case atStart => exact ⟨0, p, rfl, rfl, ⟨rfl⟩, HSX, HAX, HZX, HBX⟩
      case round =>
        clear HSX HAX HZX HBX
        obtain ⟨i, q, rfl, hk, HQ, BS, BA, BZ, HB⟩ := hrel
        by_cases hi : i < 8
        · have hq8 : q.length = 8 := by rw [HQ.out, fin_len]; exact HH.out
          have hs8 : s.length = 8 := by rw [HS1.out]; exact rnds_len HH.out _ _
          have ca := blk_at BA.out i (by omega)
          have cb := blk_at BS.out i (by omega)
          have fa := blk_frozen BA.out i
          have HK := Aside0.mk hk
          have HQ8 := Aside0.mk hq8
          have HS8 := Aside0.mk hs8
          have hn : ¬ (n0 = n1 + 1) := by have := HSS.out; omega
          clear hk hq8 hs8
          generalize hga : get q i = va at ca
          have GA := Aside0.mk hga
          generalize hgb : get s i = vb at cb
          have GB := Aside0.mk hgb
          clear hga hgb
          have mi : (i : Int) < 8 := by omega
          go_wp2
          go_still_tail 8, (by kernel_rfl)
          replace BS : Aside0 (wr.drew.heap[n1 + 1]? = some (.cells (arr s) 57 (0, 0))) := BS
          replace BA : Aside0 (wr.drew.heap[n0]? = some (.cells (arr q) 57 (0, 0))) := BA
          replace BZ : Aside0 (wr.drew.heap[n0 + 1]? = some (.cells (arr (List.replicate 8 0)) 57 (0, 0))) := BZ
          replace HB := Aside0.mk (below_drew1 HB.out)
          replace ca : wr.drew.cell? ⟨n0, i, none⟩ = some (.int .u32 (va : Int)) := ca
          replace fa : wr.drew.frozen? ⟨n0, i, none⟩ = false := fa
          change wpList _ _ _ _ _ wr.drew
          generalize wr.drew = wd at BS BA BZ HB ca fa ⊢
          go_wp2
          go_roundg (gk - 1)
          case measure => (have hk := HK.out; omega)
          case rel =>
            have hk := HK.out
            have hss := HSS.out
            rw [add_eq va vb]
            obtain rfl := Hn0.out
            refine ⟨i + 1, fin p s (i + 1), by go_num, by omega, ⟨rfl⟩, ⟨blk_far BS.out (p := ⟨w.heap.size, i, none⟩) (by show n1 + 1 ≠ w.heap.size; omega) _⟩, ⟨blk_put BA.out i _ ?_⟩, ⟨blk_far BZ.out (p := ⟨w.heap.size, i, none⟩) (by show w.heap.size + 1 ≠ w.heap.size; omega) _⟩, ⟨below_set HB.out (by omega)⟩⟩
            rw [arr_set, fin, ← HQ.out, GA.out, GB.out]
        · obtain rfl : gk = 0 := by omega
          obtain rfl : i = 8 := by omega
          have hqs : (arr q).size = 8 := by rw [arr_size, HQ.out, fin_len]; exact HH.out
          have hone := Aside0.mk (arr_one q)
          have HQS := Aside0.mk hqs
          clear hk
          generalize hcs3 : arr q = cs3 at BA hqs hone HQS
          have Hcs3 := Aside0.mk hcs3
          clear hcs3
          obtain ⟨N8b, h8b⟩ : ∃ N : Nat, 8 = N := ⟨_, rfl⟩
          rw [h8b] at hqs
          have hld : Sem.run Tryd.prog (loadCellsFrom ⟨n0, 0, none⟩ 0 N8b #[]) wr = .ok cs3 wr := ld_row BA.out hqs
          have hst : Sem.run Tryd.prog (storeCells ⟨n0 + 1, 0, none⟩ cs3.toList) wr = .ok () (wr.setRow (n0 + 1) cs3) := st_row BZ.out (by rw [HQS.out, arr_size, List.length_replicate]) hone.out
          go_wp2
          refine bodyPost_ret (results_cell_row (p := 4) (ty := 57) rfl _ _ (n0 + 1) 57 cs3 (0, 0) _ rfl (setRow_heap _ _ _ _ _ _ BZ.out) Tryd.underlying57 rfl (by rw [HQS.out]; kernel_rfl)) rfl ⟨?_, ?_⟩
          · rw [← Hcs3.out, HQ.out, HS1.out]; rfl
          · rw [Hn0.out]; exact below_setRow' HB.out (by omega) _
end Go.Proofs.YthnmpkhjpfhloaaDoor.M
