import Derived.Test.YthnmpkhjpfhloaaDoorProg
import Derived.Below
import Derived.Deep.Draws
import Derived.Deep.AppendLies
import Derived.Maps.AppendAt
import Derived.OwnWalk
import Derived.Laws.BytesArg
import Derived.Laws.MakeOwn
import Derived.Laws.OwnMore
import Derived.Deep.OwnRows
import Derived.Tactics
import Derived.Lib.ConvBytes
import Derived.Laws.Slices
import Derived.WalkKit
import Derived.KernelRfl
import Derived.RowKit3
import Derived.Deep.LoopGhost
import Derived.Deep.QuietTactic
import Derived.BigQuiet
import Derived.WideLaws
import Derived.Deep.DeepCutAuto
import Derived.Deep.CutBlock
import Derived.Deep.RegionHeld3
import Derived.Laws.Rows
import Derived.Lib.AppendStr
import Derived.ArgAppend
import Derived.Laws.IdiomCopy
import Derived.OrdersHeld
import Derived.Laws.BitsLemmas
import Derived.RowKit
import Derived.Test.YthnmpkhjpfhloaaDoorWWords
import Derived.Test.YthnmpkhjpfhloaaDoorWLast
import Derived.Test.YthnmpkhjpfhloaaDoorWTab
import Derived.Test.YthnmpkhjpfhloaaDoorWFour
import Derived.Test.YthnmpkhjpfhloaaDoorWQPut
import Derived.Test.YthnmpkhjpfhloaaDoorWApart
import Derived.Test.YthnmpkhjpfhloaaDoorWArr
import Derived.Test.YthnmpkhjpfhloaaDoorWZeros
import Derived.Test.YthnmpkhjpfhloaaDoorWFoot
import Derived.Test.YthnmpkhjpfhloaaDoorWKept
import Derived.Test.YthnmpkhjpfhloaaDoorWShare
import Derived.Test.YthnmpkhjpfhloaaDoorWN
import Derived.Test.YthnmpkhjpfhloaaDoorWFootNe
import Derived.Test.YthnmpkhjpfhloaaDoorWAt
import Derived.Test.YthnmpkhjpfhloaaDoorWEqStruct
import Derived.Test.YthnmpkhjpfhloaaDoorWRepsOne
import Derived.Test.YthnmpkhjpfhloaaDoorWInv
import Derived.Test.YthnmpkhjpfhloaaDoorWInvWords
import Derived.Test.YthnmpkhjpfhloaaDoorWGuard
import Derived.Test.YthnmpkhjpfhloaaDoorWNEv
import Derived.Test.YthnmpkhjpfhloaaDoorWMore
import Derived.Laws.BitsAllLaws
import Derived.StillTailTactics
import Derived.Test.YthnmpkhjpfhloaaDoorMs
import Derived.Deep.WholeRow
import Derived.Test.YthnmpkhjpfhloaaDoorMj
namespace Go.Proofs.YthnmpkhjpfhloaaDoor.M
open Go.RowKit Go.Proofs.YthnmpkhjpfhloaaDoorW.PrintWords Go.Proofs.YthnmpkhjpfhloaaDoorW.PrintLast Go.Proofs.YthnmpkhjpfhloaaDoorW.PrintMore
set_option linter.unusedVariables false
set_option linter.unusedSimpArgs false
theorem len8_at (n j : Nat) (h : j < 8) : (len8 n)[j]? = some (lenB n (7 - j)) := by
  have : j = 0 ∨ j = 1 ∨ j = 2 ∨ j = 3 ∨ j = 4 ∨ j = 5 ∨ j = 6 ∨ j = 7 := by omega
  rcases this with rfl | rfl | rfl | rfl | rfl | rfl | rfl | rfl <;> rfl
theorem part4 {key : List Int} (h : key.length = 32) {i : Nat} (hi : i < 8) {a b c d : Int} (ha : key.getD (4 * i) 0 = a) (hb : key.getD (4 * i + 1) 0 = b) (hc : key.getD (4 * i + 2) 0 = c) (hd : key.getD (4 * i + 3) 0 = d) : ((((part key (4 * i)).set (4 * i) a).set (4 * i + 1) b).set (4 * i + 2) c).set (4 * i + 3) d = part key (4 * (i + 1)) := by
  rw [← ha, part_set h (by omega), ← hb, part_set h (by omega), ← hc, part_set h (by omega), ← hd, part_set h (by omega), show 4 * i + 1 + 1 + 1 + 1 = 4 * (i + 1) by omega]
theorem index_eight (s0 s1 s2 s3 s4 s5 s6 s7 : Nat) (W : World) : Sem.run Tryd.prog (Instr.index 57 (.agg #[.int .u32 (s0 : Int), .int .u32 (s1 : Int), .int .u32 (s2 : Int), .int .u32 (s3 : Int), .int .u32 (s4 : Int), .int .u32 (s5 : Int), .int .u32 (s6 : Int), .int .u32 (s7 : Int)]) (.int .i64 0)) W = .ok (.int .u32 (s0 : Int)) W := by kernel_rfl
theorem pad_whole (m : List Int) : m ++ tailB m.length = padB m := rfl
set_option maxHeartbeats 8000000 in
set_option maxRecDepth 100000 in
set_option pp.deepTerms true in
set_option pp.maxSteps 1000000 in
theorem key_calls (g : Nat) (m : List Int) (w : World) (hH : HashAt w g m) (hT : Tab w) (hm : m.length < 549755813888) :
    Calls Tryd.prog 13 #[.pointer (some ⟨g, 0, none⟩)] w fun e w' => e = .returned (.agg (arr8 (sumL m))) ∧ Below w.heap.size w w' := by
  obtain ⟨h, rest, hb, hh, hr, ht⟩ := hH
  have HH8 := Aside0.mk (show h.length = 8 by rw [hh]; exact hashB_len _ _)
  have HR64 := Aside0.mk hr
  have HBg := Aside0.mk hb
  have HHx := Aside0.mk hh
  have HTL := Aside0.mk ht
  have HT := Aside0.mk hT
  have hn := st_n hb HH8.out hr
  have HN0 := Aside0.mk (show w.heap.size ≠ 0 by have h_ := World.block_lt_of_cell? w _ (hT 0 (by decide)); intro e; rw [e] at h_; exact Nat.not_lt_zero _ h_)
  have hs : (stA h rest m.length).size = 73 := stA_size _ HH8.out hr
  have HS := Aside0.mk hs
  have hone := Aside0.mk (stL_one h rest m.length)
  have HM := Aside0.mk hm
  have hml : ((m.length : Nat) : Int) < 549755813888 := by omega
  clear hb hh hr ht hT hm
  have HNN := Aside0.mk (World.block_lt_of_cell? w _ hn)
  have HBR := Aside0.mk (below_alloc (Below.refl w.heap.size w) (.cells (arr8 (List.replicate 32 0)) 27 (0, 0)))
  have BZ0 := Aside0.mk (blk_new w (.cells (arr8 (List.replicate 32 0)) 27 (0, 0)))
  have hgl : w.cell? ⟨g, 72, none⟩ = (w.alloc (.cells (arr8 (List.replicate 32 0)) 27 (0, 0))).cell? ⟨g, 72, none⟩ := (World.cell?_alloc_lt _ _ _ HNN.out).symm
  generalize hcs : stA h rest m.length = cs at *
  have HCS := Aside0.mk hcs
  clear hcs
  have hz := (zero_of_info (P := Tryd.prog) (t := 61) (v := .agg (stA (List.replicate 8 0) (List.replicate 64 0) 0)) (n := 73) (by kernel_rfl)).1
  have hzs := Aside0.mk (show (stA (List.replicate 8 0) (List.replicate 64 0) 0).size = 73 from rfl)
  generalize stA (List.replicate 8 0) (List.replicate 64 0) 0 = zc at hz hzs
  obtain ⟨N73, h73⟩ : ∃ N : Nat, 73 = N := ⟨_, rfl⟩
  rw [h73] at hs
  clear hgl
  go_enter Tryd.func13, Tryd.ntmps13
  go_wp2
  rw [ld_row (P := Tryd.prog) (g := g) (ty := 61) (cs := cs) (n := N73) (blk_alloc HBg.out _) hs]
  simp only [Result.andThen_ok]
  go_wp2
  rw [st_new (P := Tryd.prog) (t := 61) (c' := cs) (size_alloc1 _ _) (by rw [HS.out]; kernel_rfl) (by rw [HS.out]; exact hzs.out) hone.out]
  clear hz h73 hs
  generalize hW : World.alloc (World.alloc w (Obj.cells _ 27)) (Obj.cells cs 61) = w2
  have BZ2 := Aside0.mk (show w2.heap[w.heap.size]? = some (.cells (arr8 (List.replicate 32 0)) 27 (0, 0)) from by rw [← hW]; exact blk_alloc BZ0.out (.cells cs 61 (0, 0)))
  have BG2 := Aside0.mk (show w2.heap[w.heap.size + 1]? = some (.cells cs 61 (0, 0)) from by rw [← hW]; exact heap_alloc2_new _ _ _)
  have HB2 := Aside0.mk (show Below w.heap.size w w2 from by rw [← hW]; exact below_alloc HBR.out (.cells cs 61 (0, 0)))
  have HSZ2 := Aside0.mk (show w2.heap.size = w.heap.size + 2 by rw [← hW, size_alloc1, size_alloc1])
  clear BZ0 HBR hW
  have hn2 : w2.cell? ⟨g, 72, none⟩ = some (.int .i64 ((m.length : Nat) : Int)) := (HB2.out.cell HNN.out).trans hn
  have HR1 := Aside0.mk (show Kd.R (Kd.int .u8) 5 (w2.alloc (.cells #[.int .u8 128] 5)) w2.heap.size (fun _ => True) (.slice (some ⟨w2.heap.size, 0, none⟩) 1 1) [128] from Kd.R_of_own (World.ownsRow_lit w2 #[.int .u8 128] 1 (Nat.le_refl _) (by decide) rfl) (fun _ _ => trivial))
  have HB3 := Aside0.mk (below_alloc (Below.refl w2.heap.size w2) (.cells #[.int .u8 128] 5))
  have hzl := Aside0.mk (show zlen m.length < 64 from Nat.mod_lt _ (by decide))
  have hzd := Aside0.mk (show zlen m.length = (119 - m.length % 64) % 64 from rfl)
  have HTB := Aside0.mk (show tailB m.length = 128 :: (List.replicate (zlen m.length) 0 ++ len8 m.length) from rfl)
  go_wp2
  go_loopg [4] (zlen m.length) (fun k v4 wr => ∃ (j : Nat) (l : List Int), j + k = zlen m.length ∧ Aside0 (l = 128 :: List.replicate j 0) ∧ Aside0 (Kd.R (Kd.int .u8) 5 wr w2.heap.size (fun _ => True) v4 l) ∧ Aside0 (Below w2.heap.size w2 wr))
  case atStart => exact ⟨0, [128], Nat.zero_add _, ⟨rfl⟩, HR1, HB3⟩
  case round =>
    clear HR1 HB3
    obtain ⟨j, l, hk, HL, HO, HB⟩ := hrel
    obtain ⟨A1, c1, e1⟩ := Kd.R_slice HO.out
    subst e1
    have HLL := Aside0.mk (show l.length = 1 + j by rw [HL.out]; simp; omega)
    have hnr : wr.cell? ⟨g, 72, none⟩ = some (.int .i64 ((m.length : Nat) : Int)) := (HB.out.cell (show (⟨g, 72, none⟩ : Addr).block < w2.heap.size by have := HNN.out; have := HSZ2.out; show g < _; omega)).trans hn2
    have HK := Aside0.mk hk
    have hjz : j ≤ zlen m.length := by omega
    have HJ := Aside0.mk hjz
    have hll := HLL.out
    have hzl2 := hzl.out
    have hw1 : wrap64 (((m.length : Nat) : Int) + (l.length : Int)) = ((m.length + l.length : Nat) : Int) := by unfold wrap64; omega
    have hw2 : IntKind.i64.wrap (((m.length : Nat) : Int) + (l.length : Int)) = ((m.length + l.length : Nat) : Int) := by rw [i64w (by omega) (by omega)]; omega
    have hr1 : Int.tmod ((m.length + l.length : Nat) : Int) 64 = (((m.length + l.length) % 64 : Nat) : Int) := by rw [Int.tmod_eq_emod_of_nonneg (by omega)]; omega
    have hr2 : (((m.length : Nat) : Int) + (l.length : Int)) % 64 = (((m.length + l.length) % 64 : Nat) : Int) := by omega
    have hr3 : Int.tmod (((m.length : Nat) : Int) + (l.length : Int)) 64 = (((m.length + l.length) % 64 : Nat) : Int) := by rw [Int.tmod_eq_emod_of_nonneg (by omega)]; omega
    have hq := Aside0.mk (show (m.length + l.length) % 64 = 56 ↔ j = zlen m.length by have := hzd.out; omega)
    generalize (m.length + l.length) % 64 = q at hr1 hr2 hr3 hq
    generalize m.length + l.length = sl at hw1 hw2 hr1
    clear hll hzl2 hjz hk
    by_cases hj : j < zlen m.length
    · have hq1 : ¬ (q = 56) := by rw [hq.out]; omega
      have hq2 : ((q : Int) == 56) = false := by rw [beq_eq_false_iff_ne]; omega
      have hq3 : ((q : Int) != 56) = true := by rw [bne_iff_ne]; omega
      have HJ2 := Aside0.mk hj
      clear hj hq1
      go_wp2_with (first | ((with_reducible refine gate_builtin (b := .append) (xs := #[.tmp 22, .tmp 23]) rfl ?_); at_builtin; refine Kd.R_append (Kd.int .u8) (w0 := w2) w2.heap.size rfl (.tmp 22) (.tmp 23) 22 5 (.int .u8 0) 1 rfl Tryd.underlying22 P.info5 rfl (by decide) (by omega) (.slice A1 l.length c1) l 0 [.int .u8 0] (fun _ => True) (fun _ => False) rfl rfl rfl (fun _ hk => hk.elim) (fun _ _ => trivial) HO.out HB.out HB.out.size (by have := HLL.out; have := HJ.out; have := hzl.out; omega) ?_; intro v1 w4 ho hb hg hat; have HO4 := Aside0.mk ho; have HB4 := Aside0.mk hb; clear ho hb hg hat))
      go_roundg (gk - 1)
      case measure => (have h1 := HK.out; have h2 := HJ2.out; omega)
      case rel =>
        have h1 := HK.out
        have h2 := HJ2.out
        exact ⟨j + 1, l ++ [0], by omega, ⟨by rw [HL.out]; simp [List.replicate_succ']⟩, HO4, HB4⟩
    · have hq1 : q = 56 := by rw [hq.out]; have := HJ.out; omega
      have hq2 : ((q : Int) == 56) = true := by rw [beq_iff_eq]; omega
      have hq3 : ((q : Int) != 56) = false := by rw [bne_eq_false_iff_eq]; omega
      have HLZ := Aside0.mk (show l = 128 :: List.replicate (zlen m.length) 0 by rw [HL.out, show j = zlen m.length by have := HJ.out; omega])
      clear hj
      have HBx := HB
      have HOx := HO
      go_wp2
      clear hnr hw1 hw2 hr1 hr2 hr3 hq hq1 hq2 hq3 HB HO HLL HK HJ HL
      go_loopg [4, 5] 8 (fun k v4 v5 wr => ∃ (j : Nat) (z : Int) (l : List Int), v5 = .int .i64 z ∧ j + k = 8 ∧ Aside0 (z = 56 - 8 * j) ∧ Aside0 (l = 128 :: (List.replicate (zlen m.length) 0 ++ (len8 m.length).take j)) ∧ Aside0 (Kd.R (Kd.int .u8) 5 wr w2.heap.size (fun _ => True) v4 l) ∧ Aside0 (Below w2.heap.size w2 wr))
      case atStart => exact ⟨0, 56, l, rfl, rfl, ⟨by omega⟩, ⟨by rw [HLZ.out]; simp⟩, HOx, HBx⟩
      case round =>
        clear HBx HOx HLZ
        obtain ⟨j, z, l, rfl, hk, HZ, HL, HO, HB⟩ := hrel
        obtain ⟨A1, c1, e1⟩ := Kd.R_slice HO.out
        subst e1
        have hl8 : (len8 m.length).length = 8 := rfl
        have HLL := Aside0.mk (show l.length = 1 + zlen m.length + min j 8 by rw [HL.out]; simp [hl8]; omega)
        have HJ := Aside0.mk (show j ≤ 8 by omega)
        have HK := Aside0.mk hk
        by_cases hj : j < 8
        · have HJ2 := Aside0.mk hj
          have hnr : wr.cell? ⟨g, 72, none⟩ = some (.int .i64 ((m.length : Nat) : Int)) := (HB.out.cell (show (⟨g, 72, none⟩ : Addr).block < w2.heap.size by have := HNN.out; have := HSZ2.out; show g < _; omega)).trans hn2
          have hz := HZ.out
          have hz0 : 0 ≤ z := by omega
          have hz1 : z ≤ 64 := by omega
          have hx1 : IntKind.u64.wrap ((m.length : Nat) : Int) = ((m.length : Nat) : Int) := by unfold IntKind.wrap; simp [IntKind.signed, IntKind.bits]; omega
          have hx2 : IntKind.u64.wrap (8 * ((m.length : Nat) : Int)) = ((8 * m.length : Nat) : Int) := by
            rw [show 8 * ((m.length : Nat) : Int) = ((8 * m.length : Nat) : Int) by omega]
            have h8 : 8 * m.length < 18446744073709551616 := by omega
            generalize 8 * m.length = q at h8 ⊢
            unfold IntKind.wrap; simp [IntKind.signed, IntKind.bits]; omega
          have hs1 : (((8 * m.length : Nat) : Int) / 2 ^ min z.toNat 64) = ((8 * m.length / 2 ^ z.toNat : Nat) : Int) := by rw [Nat.min_eq_left (by omega), divp]
          have hs2 : (((8 * m.length : Nat) : Int) / 2 ^ z.toNat) = ((8 * m.length / 2 ^ z.toNat : Nat) : Int) := divp _ _
          have HQ := Aside0.mk (show ((8 * m.length / 2 ^ z.toNat : Nat) : Int) % 256 = lenB m.length (7 - j) by rw [show z.toNat = 8 * (7 - j) by omega]; unfold lenB; omega)
          generalize 8 * m.length / 2 ^ z.toNat = Q at hs1 hs2 HQ
          generalize 8 * m.length = X at hx2 hs1 hs2
          have hz2 := eq_true hz0
          have hz3 : decide (0 ≤ z) = true := decide_eq_true hz0
          clear hz hk hj hl8
          go_wp2_with (first | ((with_reducible refine gate_builtin (b := .append) (xs := #[.tmp 29, .tmp 39]) rfl ?_); at_builtin; refine Kd.R_append (Kd.int .u8) (w0 := w2) w2.heap.size rfl (.tmp 29) (.tmp 39) 22 5 (.int .u8 0) 1 rfl Tryd.underlying22 P.info5 rfl (by decide) (by omega) (.slice A1 l.length c1) l ((Q : Int) % 256) [.int .u8 ((Q : Int) % 256)] (fun _ => True) (fun _ => False) rfl rfl rfl (fun _ hk => hk.elim) (fun _ _ => trivial) HO.out HB.out HB.out.size (by have := HLL.out; have := HJ.out; have := hzl.out; omega) ?_; intro v1 w4 ho hb hg hat; have HO4 := Aside0.mk ho; have HB4 := Aside0.mk hb; clear ho hb hg hat))
          go_roundg (gk - 1)
          case measure => (have h1 := HK.out; have h2 := HJ2.out; omega)
          case rel =>
            have h1 := HK.out
            have h2 := HJ2.out
            exact ⟨j + 1, z - 8, l ++ [(Q : Int) % 256], rfl, by omega, ⟨by have h3 := HZ.out; omega⟩, ⟨by rw [HL.out, HQ.out, List.take_add_one, len8_at _ _ h2]; simp⟩, HO4, HB4⟩
        · obtain rfl : gk = 0 := by omega
          obtain rfl : j = 8 := by omega
          have hz := HZ.out
          have hz3 : decide (0 ≤ z) = false := decide_eq_false (by omega)
          have HLT := Aside0.mk (show l = tailB m.length by rw [HL.out, HTB.out, List.take_of_length_le (by rw [hl8]; exact Nat.le_refl _)])
          have HHA := Aside0.mk (show HashAt wr (w.heap.size + 1) m from ⟨h, rest, by rw [HCS.out]; exact blk_below BG2.out HB.out, HHx.out, HR64.out, HTL.out⟩)
          have HBW := Aside0.mk (below_step HB2.out HB.out)
          have Hw := Aside0.mk (write_calls (w.heap.size + 1) A1 c1 m l wr HHA.out (Kd.R_reads' HO.out).2.2 (fun _ ad e => by have h1 := Kd.R_base HO.out ad.block (by rw [e]; rfl); have h2 := HSZ2.out; omega) (Kd.R_reads' HO.out).2.1 (HT.out.below HBW.out) (by omega) (by have h1 := HLL.out; have h2 := HM.out; have h3 := hzl.out; omega))
          rw [HLT.out, pad_whole] at Hw
          rw [← HLT.out] at Hw
          clear hz hk hj hl8
          go_wp2_with (first | (go_at_call 10; (refine Hw.out.mono ?_); rintro e w5 ⟨⟨v5_, rfl⟩, hh5, hbut5⟩; obtain ⟨h5, r5, hb5, hh5, hr5, ht5⟩ := hh5; have h58 : h5.length = 8 := (by rw [hh5]; exact hashB_len _ _); have ce0 := st_h hb5 h58 0 (by decide); have ce1 := st_h hb5 h58 1 (by decide); have ce2 := st_h hb5 h58 2 (by decide); have ce3 := st_h hb5 h58 3 (by decide); have ce4 := st_h hb5 h58 4 (by decide); have ce5 := st_h hb5 h58 5 (by decide); have ce6 := st_h hb5 h58 6 (by decide); have ce7 := st_h hb5 h58 7 (by decide); have hlt5 := blk_lt hb5; have hne5 : ¬ (w.heap.size + 1 = w5.heap.size) := (by omega); have H58 := Aside0.mk h58; have HB5 := Aside0.mk hb5; have HH5 := Aside0.mk hh5; have HBut5 := Aside0.mk hbut5; clear hb5 hh5 hr5 ht5 h58 hbut5; generalize hg0 : get h5 0 = s0 at ce0; have G0 := Aside0.mk hg0; clear hg0; generalize hg1 : get h5 1 = s1 at ce1; have G1 := Aside0.mk hg1; clear hg1; generalize hg2 : get h5 2 = s2 at ce2; have G2 := Aside0.mk hg2; clear hg2; generalize hg3 : get h5 3 = s3 at ce3; have G3 := Aside0.mk hg3; clear hg3; generalize hg4 : get h5 4 = s4 at ce4; have G4 := Aside0.mk hg4; clear hg4; generalize hg5 : get h5 5 = s5 at ce5; have G5 := Aside0.mk hg5; clear hg5; generalize hg6 : get h5 6 = s6 at ce6; have G6 := Aside0.mk hg6; clear hg6; generalize hg7 : get h5 7 = s7 at ce7; have G7 := Aside0.mk hg7; clear hg7))
          have HNO := Aside0.mk (show w.heap.size + 1 < w5.heap.size from hlt5)
          have HBW5 := Aside0.mk (But.below HBW.out HBut5.out (Nat.le_succ _))
          have BZ5 := Aside0.mk (show w5.heap[w.heap.size]? = some (.cells (arr8 (List.replicate 32 0)) 27 (0, 0)) from (HBut5.out.block _ (blk_lt (blk_below BZ2.out HB.out)) (by omega)).trans (blk_below BZ2.out HB.out))
          have hkey := Aside0.mk (show sumL m = keyL h5 by rw [HH5.out]; rfl)
          have hk32 := Aside0.mk (sumL_len m)
          have HKA0 := Aside0.mk (keyL_at H58.out 0 (by decide))
          rw [← hkey.out, G0.out] at HKA0
          have HKA1 := Aside0.mk (keyL_at H58.out 1 (by decide))
          rw [← hkey.out, G1.out] at HKA1
          have HKA2 := Aside0.mk (keyL_at H58.out 2 (by decide))
          rw [← hkey.out, G2.out] at HKA2
          have HKA3 := Aside0.mk (keyL_at H58.out 3 (by decide))
          rw [← hkey.out, G3.out] at HKA3
          have HKA4 := Aside0.mk (keyL_at H58.out 4 (by decide))
          rw [← hkey.out, G4.out] at HKA4
          have HKA5 := Aside0.mk (keyL_at H58.out 5 (by decide))
          rw [← hkey.out, G5.out] at HKA5
          have HKA6 := Aside0.mk (keyL_at H58.out 6 (by decide))
          rw [← hkey.out, G6.out] at HKA6
          have HKA7 := Aside0.mk (keyL_at H58.out 7 (by decide))
          rw [← hkey.out, G7.out] at HKA7
          generalize hky : sumL m = key at hkey hk32 HKA0 HKA1 HKA2 HKA3 HKA4 HKA5 HKA6 HKA7
          have HKY := Aside0.mk hky
          clear hky
          generalize hW5 : World.alloc w5 (Obj.cells _ 27) = w6
          have BZ6 := Aside0.mk (show w6.heap[w.heap.size]? = some (.cells (arr8 (List.replicate 32 0)) 27 (0, 0)) from by rw [← hW5]; exact blk_alloc BZ5.out _)
          have BO6 := Aside0.mk (show w6.heap[w5.heap.size]? = some (.cells (arr8 (part key (4 * 0))) 27 (0, 0)) from by rw [← hW5]; exact blk_new w5 _)
          have HB6 := Aside0.mk (show Below w.heap.size w w6 from by rw [← hW5]; exact below_alloc HBW5.out _)
          clear hW5 ce0 ce1 ce2 ce3 ce4 ce5 ce6 ce7 hne5 hlt5 hz3
          generalize w5.heap.size = nO at BO6 HNO ⊢
          go_loopg [45] 8 (fun k v45 wr => ∃ (i : Nat), v45 = .int .i64 i ∧ i + k = 8 ∧ Aside0 (wr.heap[w.heap.size]? = some (.cells (arr8 (List.replicate 32 0)) 27 (0, 0))) ∧ Aside0 (wr.heap[nO]? = some (.cells (arr8 (part key (4 * i))) 27 (0, 0))) ∧ Aside0 (Below w.heap.size w wr))
          case atStart => exact ⟨0, rfl, rfl, BZ6, BO6, HB6⟩
          case round =>
            clear BZ6 BO6 HB6 HB
            obtain ⟨i, rfl, hk, BZ, BO, HB⟩ := hrel
            have HK8 := Aside0.mk hk
            have hi9 : i = 0 ∨ i = 1 ∨ i = 2 ∨ i = 3 ∨ i = 4 ∨ i = 5 ∨ i = 6 ∨ i = 7 ∨ i = 8 := by omega
            clear hk
            rcases hi9 with rfl | rfl | rfl | rfl | rfl | rfl | rfl | rfl | rfl
            · have hk := HK8.out
              have co0 := blk8_at BO.out 0 (by rw [part_len hk32.out (by decide)]; decide)
              have co1 := blk8_at BO.out 1 (by rw [part_len hk32.out (by decide)]; decide)
              have co2 := blk8_at BO.out 2 (by rw [part_len hk32.out (by decide)]; decide)
              have co3 := blk8_at BO.out 3 (by rw [part_len hk32.out (by decide)]; decide)
              have fo0 := blk_frozen BO.out 0
              have fo1 := blk_frozen BO.out 1
              have fo2 := blk_frozen BO.out 2
              have fo3 := blk_frozen BO.out 3
              generalize (part key (4 * 0)).getD 0 0 = ov0 at co0
              generalize (part key (4 * 0)).getD 1 0 = ov1 at co1
              generalize (part key (4 * 0)).getD 2 0 = ov2 at co2
              generalize (part key (4 * 0)).getD 3 0 = ov3 at co3
              clear hk
              have hix : ∀ W : World, Sem.run Tryd.prog (Instr.index 57 (.agg #[.int .u32 (s0 : Int), .int .u32 (s1 : Int), .int .u32 (s2 : Int), .int .u32 (s3 : Int), .int .u32 (s4 : Int), .int .u32 (s5 : Int), .int .u32 (s6 : Int), .int .u32 (s7 : Int)]) (.int .i64 0)) W = .ok (.int .u32 (s0 : Int)) W := fun W => by kernel_rfl
              go_wp2
              rw [show (s0 : Int) / 16777216 % 256 = ((s0 / 16777216 % 256 : Nat) : Int) by omega, show (s0 : Int) / 65536 % 256 = ((s0 / 65536 % 256 : Nat) : Int) by omega, show (s0 : Int) / 256 % 256 = ((s0 / 256 % 256 : Nat) : Int) by omega, show (s0 : Int) % 256 = ((s0 % 256 : Nat) : Int) by omega]
              go_roundg (gk - 1)
              case measure => (have hk := HK8.out; omega)
              case rel =>
                have hk := HK8.out
                have hno := HNO.out
                have hp := part4 hk32.out (i := 0) (by decide) (HKA0.out.1) (HKA0.out.2.1) (HKA0.out.2.2.1) (HKA0.out.2.2.2)
                exact ⟨1, by first | rfl | go_num, by omega, ⟨blk_far (blk_far (blk_far (blk_far (BZ.out) (p := ⟨nO, 0, none⟩) (by show w.heap.size ≠ nO; omega) _) (p := ⟨nO, 1, none⟩) (by show w.heap.size ≠ nO; omega) _) (p := ⟨nO, 2, none⟩) (by show w.heap.size ≠ nO; omega) _) (p := ⟨nO, 3, none⟩) (by show w.heap.size ≠ nO; omega) _⟩, ⟨blk_put (blk_put (blk_put (blk_put (BO.out) 0 _ (arr8_set _ 0 _)) 1 _ (arr8_set _ 1 _)) 2 _ (arr8_set _ 2 _)) 3 _ ((arr8_set _ 3 _).trans (congrArg arr8 hp))⟩, ⟨below_set (below_set (below_set (below_set (HB.out) (g := nO) (by omega)) (g := nO) (by omega)) (g := nO) (by omega)) (g := nO) (by omega)⟩⟩
            · have hk := HK8.out
              have co0 := blk8_at BO.out 4 (by rw [part_len hk32.out (by decide)]; decide)
              have co1 := blk8_at BO.out 5 (by rw [part_len hk32.out (by decide)]; decide)
              have co2 := blk8_at BO.out 6 (by rw [part_len hk32.out (by decide)]; decide)
              have co3 := blk8_at BO.out 7 (by rw [part_len hk32.out (by decide)]; decide)
              have fo0 := blk_frozen BO.out 4
              have fo1 := blk_frozen BO.out 5
              have fo2 := blk_frozen BO.out 6
              have fo3 := blk_frozen BO.out 7
              generalize (part key (4 * 1)).getD 4 0 = ov0 at co0
              generalize (part key (4 * 1)).getD 5 0 = ov1 at co1
              generalize (part key (4 * 1)).getD 6 0 = ov2 at co2
              generalize (part key (4 * 1)).getD 7 0 = ov3 at co3
              clear hk
              have hix : ∀ W : World, Sem.run Tryd.prog (Instr.index 57 (.agg #[.int .u32 (s0 : Int), .int .u32 (s1 : Int), .int .u32 (s2 : Int), .int .u32 (s3 : Int), .int .u32 (s4 : Int), .int .u32 (s5 : Int), .int .u32 (s6 : Int), .int .u32 (s7 : Int)]) (.int .i64 1)) W = .ok (.int .u32 (s1 : Int)) W := fun W => by kernel_rfl
              go_wp2
              rw [show (s1 : Int) / 16777216 % 256 = ((s1 / 16777216 % 256 : Nat) : Int) by omega, show (s1 : Int) / 65536 % 256 = ((s1 / 65536 % 256 : Nat) : Int) by omega, show (s1 : Int) / 256 % 256 = ((s1 / 256 % 256 : Nat) : Int) by omega, show (s1 : Int) % 256 = ((s1 % 256 : Nat) : Int) by omega]
              go_roundg (gk - 1)
              case measure => (have hk := HK8.out; omega)
              case rel =>
                have hk := HK8.out
                have hno := HNO.out
                have hp := part4 hk32.out (i := 1) (by decide) (HKA1.out.1) (HKA1.out.2.1) (HKA1.out.2.2.1) (HKA1.out.2.2.2)
                exact ⟨2, by first | rfl | go_num, by omega, ⟨blk_far (blk_far (blk_far (blk_far (BZ.out) (p := ⟨nO, 4, none⟩) (by show w.heap.size ≠ nO; omega) _) (p := ⟨nO, 5, none⟩) (by show w.heap.size ≠ nO; omega) _) (p := ⟨nO, 6, none⟩) (by show w.heap.size ≠ nO; omega) _) (p := ⟨nO, 7, none⟩) (by show w.heap.size ≠ nO; omega) _⟩, ⟨blk_put (blk_put (blk_put (blk_put (BO.out) 4 _ (arr8_set _ 4 _)) 5 _ (arr8_set _ 5 _)) 6 _ (arr8_set _ 6 _)) 7 _ ((arr8_set _ 7 _).trans (congrArg arr8 hp))⟩, ⟨below_set (below_set (below_set (below_set (HB.out) (g := nO) (by omega)) (g := nO) (by omega)) (g := nO) (by omega)) (g := nO) (by omega)⟩⟩
            · have hk := HK8.out
              have co0 := blk8_at BO.out 8 (by rw [part_len hk32.out (by decide)]; decide)
              have co1 := blk8_at BO.out 9 (by rw [part_len hk32.out (by decide)]; decide)
              have co2 := blk8_at BO.out 10 (by rw [part_len hk32.out (by decide)]; decide)
              have co3 := blk8_at BO.out 11 (by rw [part_len hk32.out (by decide)]; decide)
              have fo0 := blk_frozen BO.out 8
              have fo1 := blk_frozen BO.out 9
              have fo2 := blk_frozen BO.out 10
              have fo3 := blk_frozen BO.out 11
              generalize (part key (4 * 2)).getD 8 0 = ov0 at co0
              generalize (part key (4 * 2)).getD 9 0 = ov1 at co1
              generalize (part key (4 * 2)).getD 10 0 = ov2 at co2
              generalize (part key (4 * 2)).getD 11 0 = ov3 at co3
              clear hk
              have hix : ∀ W : World, Sem.run Tryd.prog (Instr.index 57 (.agg #[.int .u32 (s0 : Int), .int .u32 (s1 : Int), .int .u32 (s2 : Int), .int .u32 (s3 : Int), .int .u32 (s4 : Int), .int .u32 (s5 : Int), .int .u32 (s6 : Int), .int .u32 (s7 : Int)]) (.int .i64 2)) W = .ok (.int .u32 (s2 : Int)) W := fun W => by kernel_rfl
              go_wp2
              rw [show (s2 : Int) / 16777216 % 256 = ((s2 / 16777216 % 256 : Nat) : Int) by omega, show (s2 : Int) / 65536 % 256 = ((s2 / 65536 % 256 : Nat) : Int) by omega, show (s2 : Int) / 256 % 256 = ((s2 / 256 % 256 : Nat) : Int) by omega, show (s2 : Int) % 256 = ((s2 % 256 : Nat) : Int) by omega]
              go_roundg (gk - 1)
              case measure => (have hk := HK8.out; omega)
              case rel =>
                have hk := HK8.out
                have hno := HNO.out
                have hp := part4 hk32.out (i := 2) (by decide) (HKA2.out.1) (HKA2.out.2.1) (HKA2.out.2.2.1) (HKA2.out.2.2.2)
                exact ⟨3, by first | rfl | go_num, by omega, ⟨blk_far (blk_far (blk_far (blk_far (BZ.out) (p := ⟨nO, 8, none⟩) (by show w.heap.size ≠ nO; omega) _) (p := ⟨nO, 9, none⟩) (by show w.heap.size ≠ nO; omega) _) (p := ⟨nO, 10, none⟩) (by show w.heap.size ≠ nO; omega) _) (p := ⟨nO, 11, none⟩) (by show w.heap.size ≠ nO; omega) _⟩, ⟨blk_put (blk_put (blk_put (blk_put (BO.out) 8 _ (arr8_set _ 8 _)) 9 _ (arr8_set _ 9 _)) 10 _ (arr8_set _ 10 _)) 11 _ ((arr8_set _ 11 _).trans (congrArg arr8 hp))⟩, ⟨below_set (below_set (below_set (below_set (HB.out) (g := nO) (by omega)) (g := nO) (by omega)) (g := nO) (by omega)) (g := nO) (by omega)⟩⟩
            · have hk := HK8.out
              have co0 := blk8_at BO.out 12 (by rw [part_len hk32.out (by decide)]; decide)
              have co1 := blk8_at BO.out 13 (by rw [part_len hk32.out (by decide)]; decide)
              have co2 := blk8_at BO.out 14 (by rw [part_len hk32.out (by decide)]; decide)
              have co3 := blk8_at BO.out 15 (by rw [part_len hk32.out (by decide)]; decide)
              have fo0 := blk_frozen BO.out 12
              have fo1 := blk_frozen BO.out 13
              have fo2 := blk_frozen BO.out 14
              have fo3 := blk_frozen BO.out 15
              generalize (part key (4 * 3)).getD 12 0 = ov0 at co0
              generalize (part key (4 * 3)).getD 13 0 = ov1 at co1
              generalize (part key (4 * 3)).getD 14 0 = ov2 at co2
              generalize (part key (4 * 3)).getD 15 0 = ov3 at co3
              clear hk
              have hix : ∀ W : World, Sem.run Tryd.prog (Instr.index 57 (.agg #[.int .u32 (s0 : Int), .int .u32 (s1 : Int), .int .u32 (s2 : Int), .int .u32 (s3 : Int), .int .u32 (s4 : Int), .int .u32 (s5 : Int), .int .u32 (s6 : Int), .int .u32 (s7 : Int)]) (.int .i64 3)) W = .ok (.int .u32 (s3 : Int)) W := fun W => by kernel_rfl
              go_wp2
              rw [show (s3 : Int) / 16777216 % 256 = ((s3 / 16777216 % 256 : Nat) : Int) by omega, show (s3 : Int) / 65536 % 256 = ((s3 / 65536 % 256 : Nat) : Int) by omega, show (s3 : Int) / 256 % 256 = ((s3 / 256 % 256 : Nat) : Int) by omega, show (s3 : Int) % 256 = ((s3 % 256 : Nat) : Int) by omega]
              go_roundg (gk - 1)
              case measure => (have hk := HK8.out; omega)
              case rel =>
                have hk := HK8.out
                have hno := HNO.out
                have hp := part4 hk32.out (i := 3) (by decide) (HKA3.out.1) (HKA3.out.2.1) (HKA3.out.2.2.1) (HKA3.out.2.2.2)
                exact ⟨4, by first | rfl | go_num, by omega, ⟨blk_far (blk_far (blk_far (blk_far (BZ.out) (p := ⟨nO, 12, none⟩) (by show w.heap.size ≠ nO; omega) _) (p := ⟨nO, 13, none⟩) (by show w.heap.size ≠ nO; omega) _) (p := ⟨nO, 14, none⟩) (by show w.heap.size ≠ nO; omega) _) (p := ⟨nO, 15, none⟩) (by show w.heap.size ≠ nO; omega) _⟩, ⟨blk_put (blk_put (blk_put (blk_put (BO.out) 12 _ (arr8_set _ 12 _)) 13 _ (arr8_set _ 13 _)) 14 _ (arr8_set _ 14 _)) 15 _ ((arr8_set _ 15 _).trans (congrArg arr8 hp))⟩, ⟨below_set (below_set (below_set (below_set (HB.out) (g := nO) (by omega)) (g := nO) (by omega)) (g := nO) (by omega)) (g := nO) (by omega)⟩⟩
            · have hk := HK8.out
              have co0 := blk8_at BO.out 16 (by rw [part_len hk32.out (by decide)]; decide)
              have co1 := blk8_at BO.out 17 (by rw [part_len hk32.out (by decide)]; decide)
              have co2 := blk8_at BO.out 18 (by rw [part_len hk32.out (by decide)]; decide)
              have co3 := blk8_at BO.out 19 (by rw [part_len hk32.out (by decide)]; decide)
              have fo0 := blk_frozen BO.out 16
              have fo1 := blk_frozen BO.out 17
              have fo2 := blk_frozen BO.out 18
              have fo3 := blk_frozen BO.out 19
              generalize (part key (4 * 4)).getD 16 0 = ov0 at co0
              generalize (part key (4 * 4)).getD 17 0 = ov1 at co1
              generalize (part key (4 * 4)).getD 18 0 = ov2 at co2
              generalize (part key (4 * 4)).getD 19 0 = ov3 at co3
              clear hk
              have hix : ∀ W : World, Sem.run Tryd.prog (Instr.index 57 (.agg #[.int .u32 (s0 : Int), .int .u32 (s1 : Int), .int .u32 (s2 : Int), .int .u32 (s3 : Int), .int .u32 (s4 : Int), .int .u32 (s5 : Int), .int .u32 (s6 : Int), .int .u32 (s7 : Int)]) (.int .i64 4)) W = .ok (.int .u32 (s4 : Int)) W := fun W => by kernel_rfl
              go_wp2
              rw [show (s4 : Int) / 16777216 % 256 = ((s4 / 16777216 % 256 : Nat) : Int) by omega, show (s4 : Int) / 65536 % 256 = ((s4 / 65536 % 256 : Nat) : Int) by omega, show (s4 : Int) / 256 % 256 = ((s4 / 256 % 256 : Nat) : Int) by omega, show (s4 : Int) % 256 = ((s4 % 256 : Nat) : Int) by omega]
              go_roundg (gk - 1)
              case measure => (have hk := HK8.out; omega)
              case rel =>
                have hk := HK8.out
                have hno := HNO.out
                have hp := part4 hk32.out (i := 4) (by decide) (HKA4.out.1) (HKA4.out.2.1) (HKA4.out.2.2.1) (HKA4.out.2.2.2)
                exact ⟨5, by first | rfl | go_num, by omega, ⟨blk_far (blk_far (blk_far (blk_far (BZ.out) (p := ⟨nO, 16, none⟩) (by show w.heap.size ≠ nO; omega) _) (p := ⟨nO, 17, none⟩) (by show w.heap.size ≠ nO; omega) _) (p := ⟨nO, 18, none⟩) (by show w.heap.size ≠ nO; omega) _) (p := ⟨nO, 19, none⟩) (by show w.heap.size ≠ nO; omega) _⟩, ⟨blk_put (blk_put (blk_put (blk_put (BO.out) 16 _ (arr8_set _ 16 _)) 17 _ (arr8_set _ 17 _)) 18 _ (arr8_set _ 18 _)) 19 _ ((arr8_set _ 19 _).trans (congrArg arr8 hp))⟩, ⟨below_set (below_set (below_set (below_set (HB.out) (g := nO) (by omega)) (g := nO) (by omega)) (g := nO) (by omega)) (g := nO) (by omega)⟩⟩
            · have hk := HK8.out
              have co0 := blk8_at BO.out 20 (by rw [part_len hk32.out (by decide)]; decide)
              have co1 := blk8_at BO.out 21 (by rw [part_len hk32.out (by decide)]; decide)
              have co2 := blk8_at BO.out 22 (by rw [part_len hk32.out (by decide)]; decide)
              have co3 := blk8_at BO.out 23 (by rw [part_len hk32.out (by decide)]; decide)
              have fo0 := blk_frozen BO.out 20
              have fo1 := blk_frozen BO.out 21
              have fo2 := blk_frozen BO.out 22
              have fo3 := blk_frozen BO.out 23
              generalize (part key (4 * 5)).getD 20 0 = ov0 at co0
              generalize (part key (4 * 5)).getD 21 0 = ov1 at co1
              generalize (part key (4 * 5)).getD 22 0 = ov2 at co2
              generalize (part key (4 * 5)).getD 23 0 = ov3 at co3
              clear hk
              have hix : ∀ W : World, Sem.run Tryd.prog (Instr.index 57 (.agg #[.int .u32 (s0 : Int), .int .u32 (s1 : Int), .int .u32 (s2 : Int), .int .u32 (s3 : Int), .int .u32 (s4 : Int), .int .u32 (s5 : Int), .int .u32 (s6 : Int), .int .u32 (s7 : Int)]) (.int .i64 5)) W = .ok (.int .u32 (s5 : Int)) W := fun W => by kernel_rfl
              go_wp2
              rw [show (s5 : Int) / 16777216 % 256 = ((s5 / 16777216 % 256 : Nat) : Int) by omega, show (s5 : Int) / 65536 % 256 = ((s5 / 65536 % 256 : Nat) : Int) by omega, show (s5 : Int) / 256 % 256 = ((s5 / 256 % 256 : Nat) : Int) by omega, show (s5 : Int) % 256 = ((s5 % 256 : Nat) : Int) by omega]
              go_roundg (gk - 1)
              case measure => (have hk := HK8.out; omega)
              case rel =>
                have hk := HK8.out
                have hno := HNO.out
                have hp := part4 hk32.out (i := 5) (by decide) (HKA5.out.1) (HKA5.out.2.1) (HKA5.out.2.2.1) (HKA5.out.2.2.2)
                exact ⟨6, by first | rfl | go_num, by omega, ⟨blk_far (blk_far (blk_far (blk_far (BZ.out) (p := ⟨nO, 20, none⟩) (by show w.heap.size ≠ nO; omega) _) (p := ⟨nO, 21, none⟩) (by show w.heap.size ≠ nO; omega) _) (p := ⟨nO, 22, none⟩) (by show w.heap.size ≠ nO; omega) _) (p := ⟨nO, 23, none⟩) (by show w.heap.size ≠ nO; omega) _⟩, ⟨blk_put (blk_put (blk_put (blk_put (BO.out) 20 _ (arr8_set _ 20 _)) 21 _ (arr8_set _ 21 _)) 22 _ (arr8_set _ 22 _)) 23 _ ((arr8_set _ 23 _).trans (congrArg arr8 hp))⟩, ⟨below_set (below_set (below_set (below_set (HB.out) (g := nO) (by omega)) (g := nO) (by omega)) (g := nO) (by omega)) (g := nO) (by omega)⟩⟩
            · have hk := HK8.out
              have co0 := blk8_at BO.out 24 (by rw [part_len hk32.out (by decide)]; decide)
              have co1 := blk8_at BO.out 25 (by rw [part_len hk32.out (by decide)]; decide)
              have co2 := blk8_at BO.out 26 (by rw [part_len hk32.out (by decide)]; decide)
              have co3 := blk8_at BO.out 27 (by rw [part_len hk32.out (by decide)]; decide)
              have fo0 := blk_frozen BO.out 24
              have fo1 := blk_frozen BO.out 25
              have fo2 := blk_frozen BO.out 26
              have fo3 := blk_frozen BO.out 27
              generalize (part key (4 * 6)).getD 24 0 = ov0 at co0
              generalize (part key (4 * 6)).getD 25 0 = ov1 at co1
              generalize (part key (4 * 6)).getD 26 0 = ov2 at co2
              generalize (part key (4 * 6)).getD 27 0 = ov3 at co3
              clear hk
              have hix : ∀ W : World, Sem.run Tryd.prog (Instr.index 57 (.agg #[.int .u32 (s0 : Int), .int .u32 (s1 : Int), .int .u32 (s2 : Int), .int .u32 (s3 : Int), .int .u32 (s4 : Int), .int .u32 (s5 : Int), .int .u32 (s6 : Int), .int .u32 (s7 : Int)]) (.int .i64 6)) W = .ok (.int .u32 (s6 : Int)) W := fun W => by kernel_rfl
              go_wp2
              rw [show (s6 : Int) / 16777216 % 256 = ((s6 / 16777216 % 256 : Nat) : Int) by omega, show (s6 : Int) / 65536 % 256 = ((s6 / 65536 % 256 : Nat) : Int) by omega, show (s6 : Int) / 256 % 256 = ((s6 / 256 % 256 : Nat) : Int) by omega, show (s6 : Int) % 256 = ((s6 % 256 : Nat) : Int) by omega]
              go_roundg (gk - 1)
              case measure => (have hk := HK8.out; omega)
              case rel =>
                have hk := HK8.out
                have hno := HNO.out
                have hp := part4 hk32.out (i := 6) (by decide) (HKA6.out.1) (HKA6.out.2.1) (HKA6.out.2.2.1) (HKA6.out.2.2.2)
                exact ⟨7, by first | rfl | go_num, by omega, ⟨blk_far (blk_far (blk_far (blk_far (BZ.out) (p := ⟨nO, 24, none⟩) (by show w.heap.size ≠ nO; omega) _) (p := ⟨nO, 25, none⟩) (by show w.heap.size ≠ nO; omega) _) (p := ⟨nO, 26, none⟩) (by show w.heap.size ≠ nO; omega) _) (p := ⟨nO, 27, none⟩) (by show w.heap.size ≠ nO; omega) _⟩, ⟨blk_put (blk_put (blk_put (blk_put (BO.out) 24 _ (arr8_set _ 24 _)) 25 _ (arr8_set _ 25 _)) 26 _ (arr8_set _ 26 _)) 27 _ ((arr8_set _ 27 _).trans (congrArg arr8 hp))⟩, ⟨below_set (below_set (below_set (below_set (HB.out) (g := nO) (by omega)) (g := nO) (by omega)) (g := nO) (by omega)) (g := nO) (by omega)⟩⟩
            · have hk := HK8.out
              have co0 := blk8_at BO.out 28 (by rw [part_len hk32.out (by decide)]; decide)
              have co1 := blk8_at BO.out 29 (by rw [part_len hk32.out (by decide)]; decide)
              have co2 := blk8_at BO.out 30 (by rw [part_len hk32.out (by decide)]; decide)
              have co3 := blk8_at BO.out 31 (by rw [part_len hk32.out (by decide)]; decide)
              have fo0 := blk_frozen BO.out 28
              have fo1 := blk_frozen BO.out 29
              have fo2 := blk_frozen BO.out 30
              have fo3 := blk_frozen BO.out 31
              generalize (part key (4 * 7)).getD 28 0 = ov0 at co0
              generalize (part key (4 * 7)).getD 29 0 = ov1 at co1
              generalize (part key (4 * 7)).getD 30 0 = ov2 at co2
              generalize (part key (4 * 7)).getD 31 0 = ov3 at co3
              clear hk
              have hix : ∀ W : World, Sem.run Tryd.prog (Instr.index 57 (.agg #[.int .u32 (s0 : Int), .int .u32 (s1 : Int), .int .u32 (s2 : Int), .int .u32 (s3 : Int), .int .u32 (s4 : Int), .int .u32 (s5 : Int), .int .u32 (s6 : Int), .int .u32 (s7 : Int)]) (.int .i64 7)) W = .ok (.int .u32 (s7 : Int)) W := fun W => by kernel_rfl
              go_wp2
              rw [show (s7 : Int) / 16777216 % 256 = ((s7 / 16777216 % 256 : Nat) : Int) by omega, show (s7 : Int) / 65536 % 256 = ((s7 / 65536 % 256 : Nat) : Int) by omega, show (s7 : Int) / 256 % 256 = ((s7 / 256 % 256 : Nat) : Int) by omega, show (s7 : Int) % 256 = ((s7 % 256 : Nat) : Int) by omega]
              go_roundg (gk - 1)
              case measure => (have hk := HK8.out; omega)
              case rel =>
                have hk := HK8.out
                have hno := HNO.out
                have hp := part4 hk32.out (i := 7) (by decide) (HKA7.out.1) (HKA7.out.2.1) (HKA7.out.2.2.1) (HKA7.out.2.2.2)
                exact ⟨8, by first | rfl | go_num, by omega, ⟨blk_far (blk_far (blk_far (blk_far (BZ.out) (p := ⟨nO, 28, none⟩) (by show w.heap.size ≠ nO; omega) _) (p := ⟨nO, 29, none⟩) (by show w.heap.size ≠ nO; omega) _) (p := ⟨nO, 30, none⟩) (by show w.heap.size ≠ nO; omega) _) (p := ⟨nO, 31, none⟩) (by show w.heap.size ≠ nO; omega) _⟩, ⟨blk_put (blk_put (blk_put (blk_put (BO.out) 28 _ (arr8_set _ 28 _)) 29 _ (arr8_set _ 29 _)) 30 _ (arr8_set _ 30 _)) 31 _ ((arr8_set _ 31 _).trans (congrArg arr8 hp))⟩, ⟨below_set (below_set (below_set (below_set (HB.out) (g := nO) (by omega)) (g := nO) (by omega)) (g := nO) (by omega)) (g := nO) (by omega)⟩⟩
            · obtain rfl : gk = 0 := by have := HK8.out; omega
              have hp32 := part_all hk32.out
              have BO2 : Aside0 (wr.heap[nO]? = some (.cells (arr8 key) 27 (0, 0))) := ⟨by have := BO.out; rwa [show 4 * 8 = 32 from rfl, hp32] at this⟩
              have hqs : (arr8 key).size = 32 := by rw [arr8_size]; exact hk32.out
              have HQS := Aside0.mk hqs
              have hone8 := Aside0.mk (arr8_one key)
              clear hp32 BO
              generalize hcs3 : arr8 key = cs3 at BO2 hqs HQS hone8 ⊢
              have HC3 := Aside0.mk hcs3
              clear hcs3
              obtain ⟨N32, h32⟩ : ∃ N : Nat, 32 = N := ⟨_, rfl⟩
              rw [h32] at hqs
              have hld : Sem.run Tryd.prog (loadCellsFrom ⟨nO, 0, none⟩ 0 N32 #[]) wr = .ok cs3 wr := ld_row BO2.out hqs
              have hst : Sem.run Tryd.prog (storeCells ⟨w.heap.size, 0, none⟩ cs3.toList) wr = .ok () (wr.setRow w.heap.size cs3) := st_row BZ.out (by rw [HQS.out, arr8_size, List.length_replicate]) hone8.out
              go_wp2
              refine bodyPost_ret (results_cell_row (p := 2) (ty := 27) rfl _ _ w.heap.size 27 cs3 (0, 0) _ rfl (setRow_heap _ _ _ _ _ _ BZ.out) Tryd.underlying27 rfl (by rw [HQS.out]; kernel_rfl)) rfl ⟨by rw [HKY.out, HC3.out], below_setRow' HB.out (Nat.le_refl _) _⟩
end Go.Proofs.YthnmpkhjpfhloaaDoor.M
