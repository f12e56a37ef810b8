import Derived.Test.YthnmpkhjpfhloaaDoorProg
import Derived.Below
import Derived.Deep.Draws
import Derived.Deep.AppendLies
import Derived.Maps.AppendAt
import Derived.OwnWalk
import Derived.Laws.BytesArg
import Derived.Laws.MakeOwn
import Derived.Laws.OwnMore
import Derived.Deep.OwnRows
import Derived.Tactics
import Derived.Lib.ConvBytes
import Derived.Laws.Slices
import Derived.WalkKit
import Derived.KernelRfl
import Derived.RowKit3
import Derived.Deep.LoopGhost
import Derived.Deep.QuietTactic
import Derived.BigQuiet
import Derived.WideLaws
import Derived.Deep.DeepCutAuto
import Derived.Deep.CutBlock
import Derived.Deep.RegionHeld3
import Derived.Laws.Rows
import Derived.Lib.AppendStr
import Derived.ArgAppend
import Derived.Laws.IdiomCopy
import Derived.OrdersHeld
import Derived.Laws.BitsLemmas
import Derived.RowKit
import Derived.Test.YthnmpkhjpfhloaaDoorWWords
import Derived.Test.YthnmpkhjpfhloaaDoorWLast
import Derived.Test.YthnmpkhjpfhloaaDoorWTab
import Derived.Test.YthnmpkhjpfhloaaDoorWFour
import Derived.Test.YthnmpkhjpfhloaaDoorWQPut
import Derived.Test.YthnmpkhjpfhloaaDoorWApart
import Derived.Test.YthnmpkhjpfhloaaDoorWArr
import Derived.Test.YthnmpkhjpfhloaaDoorWZeros
import Derived.Test.YthnmpkhjpfhloaaDoorWFoot
import Derived.Test.YthnmpkhjpfhloaaDoorWKept
import Derived.Test.YthnmpkhjpfhloaaDoorWShare
import Derived.Test.YthnmpkhjpfhloaaDoorWN
import Derived.Test.YthnmpkhjpfhloaaDoorWFootNe
import Derived.Test.YthnmpkhjpfhloaaDoorWAt
import Derived.Test.YthnmpkhjpfhloaaDoorWEqStruct
import Derived.Test.YthnmpkhjpfhloaaDoorWRepsOne
import Derived.Test.YthnmpkhjpfhloaaDoorWInv
import Derived.Test.YthnmpkhjpfhloaaDoorWInvWords
import Derived.Test.YthnmpkhjpfhloaaDoorWGuard
import Derived.Test.YthnmpkhjpfhloaaDoorWNEv
import Derived.Test.YthnmpkhjpfhloaaDoorWMore
import Derived.Laws.BitsAllLaws
import Derived.StillTailTactics
import Derived.Test.YthnmpkhjpfhloaaDoorMs
import Derived.Deep.WholeRow
import Derived.Test.YthnmpkhjpfhloaaDoorMi
import Derived.Deep.RegionWith
namespace Go.Proofs.YthnmpkhjpfhloaaDoor.M
open Go.RowKit Go.Proofs.YthnmpkhjpfhloaaDoorW.PrintWords Go.Proofs.YthnmpkhjpfhloaaDoorW.PrintLast Go.Proofs.YthnmpkhjpfhloaaDoorW.PrintMore
set_option linter.unusedVariables false
set_option linter.unusedSimpArgs false
theorem take_splice (rest b : List Int) (o : Nat) (hr : o ≤ rest.length) : (splice rest o b).take (o + b.length) = rest.take o ++ b := by
  unfold splice
  rw [← List.append_assoc]
  rw [List.take_append_of_le_length (by simp; omega), List.take_of_length_le (by simp; omega)]
theorem rep_short {w : World} {g : Nat} {h : List Nat} {rest m b : List Int} {n had nb : Nat} (hn : m.length = n) (hd : n % 64 = had) (hnb : n + b.length = nb) (hlt : had + b.length < 64) (hh : h = hashB m (n / 64)) (hr : rest.length = 64) (ht : rest.take had = m.drop (64 * (n / 64))) (hb : w.heap[g]? = some (.cells (stA h (splice rest had b) nb) 61 (0, 0))) : HashAt w g (m ++ b) := by
  have e : (m ++ b).length = nb := by rw [List.length_append]; omega
  have q : nb / 64 = n / 64 := by omega
  have r : nb % 64 = had + b.length := by omega
  refine ⟨h, splice rest had b, by rw [e]; exact hb, ?_, ?_, ?_⟩
  · rw [e, q, hashB_append m b _ (by omega), hh]
  · rw [length_splice _ _ _ (by omega), hr]
  · rw [e, q, r, take_splice _ _ _ (by omega), ht, List.drop_append_of_le_length (by omega)]
theorem rep_full {rest m b : List Int} {n had k : Nat} (hn : m.length = n) (hd : n % 64 = had) (hk : k ≤ b.length) (hf : had + k = 64) (hr : rest.length = 64) (ht : rest.take had = m.drop (64 * (n / 64))) : splice rest had (b.take k) = cut64 (m ++ b) (64 * (n / 64)) := by
  have hl : (b.take k).length = k := by rw [List.length_take]; omega
  have h1 := take_splice rest (b.take k) had (by omega)
  rw [hl, hf, List.take_of_length_le (by rw [length_splice _ _ _ (by rw [hl]; omega), hr]; omega)] at h1
  rw [h1, ht]
  unfold cut64
  rw [List.drop_append_of_le_length (by omega), List.take_append]
  have hlen : (m.drop (64 * (n / 64))).length = had := by rw [List.length_drop]; omega
  rw [hlen, show 64 - had = k by omega, List.take_of_length_le (show (m.drop (64 * (n / 64))).length ≤ 64 by omega)]
theorem rep_end {w : World} {g : Nat} {h : List Nat} {rest M b2 : List Int} {i nb : Nat} (e : M.length = nb) (hb2 : b2 = M.drop (64 * i)) (hi : 64 * i ≤ nb) (hlt : b2.length < 64) (hh : h = hashB M i) (hr : rest.length = 64) (hb : w.heap[g]? = some (.cells (stA h (splice rest 0 b2) nb) 61 (0, 0))) : HashAt w g M := by
  have hl : b2.length = nb - 64 * i := by rw [hb2, List.length_drop, e]
  have q : nb / 64 = i := by omega
  have r : nb % 64 = b2.length := by omega
  refine ⟨h, splice rest 0 b2, by rw [e]; exact hb, by rw [e, q, hh], by rw [length_splice _ _ _ (by omega), hr], ?_⟩
  have h1 := take_splice rest b2 0 (by omega)
  rw [Nat.zero_add] at h1
  rw [e, q, r, h1, hb2]
  rfl
theorem eight_arr {h : List Nat} (hh : h.length = 8) : aggN h = .agg #[.int .u32 ((get h 0 : Nat) : Int), .int .u32 ((get h 1 : Nat) : Int), .int .u32 ((get h 2 : Nat) : Int), .int .u32 ((get h 3 : Nat) : Int), .int .u32 ((get h 4 : Nat) : Int), .int .u32 ((get h 5 : Nat) : Int), .int .u32 ((get h 6 : Nat) : Int), .int .u32 ((get h 7 : Nat) : Int)] := by
  match h, hh with
  | [_, _, _, _, _, _, _, _], _ => rfl
theorem st_save {W : World} {g : Nat} {h h' : List Nat} {rest : List Int} {n : Nat} (hb : W.heap[g]? = some (.cells (stA h rest n) 61 (0, 0))) (hh : h.length = 8) (hh' : h'.length = 8) (hr : rest.length = 64) : Sem.run Tryd.prog (storeCells ⟨g, 0, none⟩ (arr h').toList) W = .ok () (W.setRow g (stA h' rest n)) := by
  have h1 := run_storeCells_at Tryd.prog g 0 61 (arr h').toList 0 (stA h rest n) W hb (by rw [Array.length_toList, arr_size, hh', stA_size n hh hr]; decide) (fun v hv => by have := arr_one h'; rw [Array.all_eq_true'] at this; exact this v (by simpa using hv))
  rw [h1]
  have e : (stA h rest n).toList = stL h rest n := rfl
  rw [e, Array.length_toList, arr_size, hh', st_store n hh]
  rfl
theorem slice_rest (g had : Nat) (hh : had < 64) (W : World) : Sem.run Tryd.prog (Instr.sliceAt 59 (.pointer (some ⟨g, 8, none⟩)) (some (.int .i64 (had : Int))) none none) W = .ok (.slice (some ⟨g, 8 + had, none⟩) (64 - had) (64 - had)) W := by
  have ha : Tryd.prog.arrayLen 59 = 64 := by kernel_rfl
  have he : Tryd.prog.elem 59 = 5 := by kernel_rfl
  have hs : (sizeOf 5).run Tryd.prog W = .ok 1 W := by
    obtain ⟨i, hi, _, hsz, _⟩ := info_parts P.info5
    simp [sizeOf, typeInfo, hi, hsz]
  rw [run_sliceAt_array_l W 59 ⟨g, 8, none⟩ (by kernel_rfl) .i64 (had : Int) (by omega) (by rw [ha]; omega), he, hs, ha]
  show Result.ok (slicedAt ⟨g, 8, none⟩ had 64 64 1) W = _
  unfold slicedAt
  rw [if_neg (by omega)]
  have e : (⟨g, 8, none⟩ : Addr).add (had * 1) = ⟨g, 8 + had, none⟩ := by unfold Addr.add; split <;> simp_all
  rw [e]
theorem slice_all (g : Nat) (W : World) : Sem.run Tryd.prog (Instr.sliceAt 59 (.pointer (some ⟨g, 8, none⟩)) none none none) W = .ok (.slice (some ⟨g, 8, none⟩) 64 64) W := by
  have ha : Tryd.prog.arrayLen 59 = 64 := by kernel_rfl
  have he : Tryd.prog.elem 59 = 5 := by kernel_rfl
  have hs : (sizeOf 5).run Tryd.prog W = .ok 1 W := by
    obtain ⟨i, hi, _, hsz, _⟩ := info_parts P.info5
    simp [sizeOf, typeInfo, hi, hsz]
  rw [run_sliceAt_array_all W 59 ⟨g, 8, none⟩ (by kernel_rfl), he, hs, ha]
  show Result.ok (slicedAt ⟨g, 8, none⟩ 0 64 64 1) W = _
  unfold slicedAt
  rw [if_neg (by omega)]
  have e : (⟨g, 8, none⟩ : Addr).add (0 * 1) = ⟨g, 8, none⟩ := by unfold Addr.add; split <;> simp_all
  rw [e]
set_option maxHeartbeats 8000000 in
set_option maxRecDepth 100000 in
set_option pp.deepTerms true in
set_option pp.maxSteps 1000000 in
theorem write_calls (g : Nat) (A : Option Addr) (c : Nat) (m b : List Int) (w : World) (hH : HashAt w g m) (hC : Kd.C (Kd.int .u8) w A b.length b) (hne : 0 < b.length → ∀ ad, A = some ad → ad.block ≠ g) (hc : b.length ≤ c) (hT : Tab w) (hg : g ≠ 0) (hlen : m.length + b.length < 4611686018427387904) :
    Calls Tryd.prog 10 #[.pointer (some ⟨g, 0, none⟩), .slice A b.length c] w fun e w' => (∃ v, e = .returned v) ∧ HashAt w' g (m ++ b) ∧ But g w w' := by
  obtain ⟨h, rest, hb, hh, hr, ht⟩ := hH
  have HH8 := Aside0.mk (show h.length = 8 by rw [hh]; exact hashB_len _ _)
  have HHW := Aside0.mk (show W32 h by rw [hh]; exact hashB_lt _ _)
  have HR64 := Aside0.mk hr
  have HB := Aside0.mk hb
  have HH := Aside0.mk hh
  have HTL := Aside0.mk ht
  have HC := Aside0.mk hC
  have HNE := Aside0.mk hne
  have HCC := Aside0.mk hc
  have HT := Aside0.mk hT
  have HG := Aside0.mk hg
  have HLEN := Aside0.mk hlen
  have hn := st_n hb HH8.out hr
  have hf := blk_frozen hb 72
  clear hb hh hr ht hC hne hc hT hg
  generalize hml : m.length = n at *
  have hrem : Int.tmod (n : Int) 64 = ((n % 64 : Nat) : Int) := by rw [Int.tmod_eq_emod_of_nonneg (by omega)]; omega
  have hsum : wrap64 ((n : Int) + (b.length : Int)) = ((n + b.length : Nat) : Int) := by unfold wrap64; omega
  have hsum2 : IntKind.i64.wrap ((n : Int) + (b.length : Int)) = ((n + b.length : Nat) : Int) := by rw [i64w (by omega) (by omega)]; omega
  have HML := Aside0.mk hml
  clear hml hlen
  have hhad := Aside0.mk (show n % 64 < 64 from Nat.mod_lt _ (by decide))
  generalize hd : n % 64 = had at *
  have HD := Aside0.mk hd
  clear hd
  generalize hnb : n + b.length = nb at *
  have HNB := Aside0.mk hnb
  clear hnb
  by_cases h0 : 0 < had
  · have h0i : (0 : Int) < (had : Int) := by omega
    obtain ⟨k, hk1, hk2, hk3, hk4⟩ : ∃ k, k ≤ b.length ∧ had + k ≤ 64 ∧ (k = b.length ∨ had + k = 64) ∧ k = Nat.min b.length (64 - had) := by
      have h1 := hhad.out
      exact ⟨min b.length (64 - had), by omega, by omega, by omega, rfl⟩
    have HK := Aside0.mk (And.intro hk1 (And.intro hk2 (And.intro hk3 hk4)))
    have hsl := slice_rest g had hhad.out
    have HB1 := Aside0.mk (blk_put HB.out 72 (.int .i64 (nb : Int)) (st_set_n n nb HH8.out HR64.out))
    have HBut1 := Aside0.mk ((But.refl g w).setCell 72 (.int .i64 (nb : Int)))
    obtain ⟨i05, hi05, _, hsz05, _⟩ := info_parts P.info5
    have hcut := cut_from (P := Tryd.prog) 22 5 .i64 Tryd.underlying22 hi05 1 (by simpa using hsz05) A b.length c (k : Int) (by omega) (by omega)
    rw [Int.toNat_natCast] at hcut
    have hki : (k : Int) ≤ (b.length : Int) := by omega
    have hC2 := Aside0.mk (Kd.C_drop (m := k) HC.out hk1 HCC.out)
    clear hi05 hsz05
    generalize hA2 : (if c = k then A else A.map (·.add (k * 1))) = A2 at hcut
    have HA2 := Aside0.mk hA2
    clear hA2
    have hadk : wrap64 ((had : Int) + (k : Int)) = ((had + k : Nat) : Int) := by unfold wrap64; omega
    clear hk1 hk2 hk3 hk4
    by_cases hlt : had + k < 64
    · have hlti : (had : Int) + (k : Int) < 64 := by omega
      have HLT := Aside0.mk hlt
      go_enter Tryd.func10, Tryd.ntmps10
      go_wp2_with (first | (refine wpList_copy_mine rfl (.tmp 26) (.tmp 27) 22 22 rfl 5 Tryd.underlying22 (by kernel_rfl) _ _ _ _ _ _ rfl rfl g (8 + had) (stL h rest nb) 61 HB1.out ((b.take k).map (Value.int .u8)) (by rw [List.length_map, List.length_take, Nat.min_eq_left HK.out.1]; exact HK.out.2.2.2) (fun hp => ⟨rfl, C_cells (HBut1.out.C HC.out HNE.out) k hp⟩) (by rw [stL_len nb HH8.out HR64.out, List.length_map, List.length_take, Nat.min_eq_left HK.out.1]; have := HK.out.2.1; omega) (fun v hv => by obtain ⟨x, _, rfl⟩ := List.mem_map.1 hv; rfl) ?_; rw [show (goInt ((b.take k).map (Value.int .u8)).length : Value) = .int .i64 (k : Int) by rw [List.length_map, List.length_take, Nat.min_eq_left HK.out.1]; rfl, st_splice nb had HH8.out HR64.out (by rw [List.length_take, Nat.min_eq_left HK.out.1]; exact HK.out.2.1)]))
      have hkb : k = b.length := by have := HK.out; omega
      refine bodyPost_ret (results_none rfl _ _ _) rfl ⟨⟨_, rfl⟩, rep_short HML.out HD.out HNB.out (by omega) HH.out HR64.out HTL.out ?_, HBut1.out.setRow _⟩
      rw [hkb, List.take_length]
      exact setRow_heap _ g _ (stL h (splice rest had b) nb).toArray 61 (0, 0) HB1.out
    · have hlti : ¬ ((had : Int) + (k : Int) < 64) := by omega
      have HF := Aside0.mk (show had + k = 64 by have := HK.out; omega)
      have HKB := Aside0.mk HK.out.1
      go_enter Tryd.func10, Tryd.ntmps10
      go_wp2_with (first | (refine wpList_copy_mine rfl (.tmp 26) (.tmp 27) 22 22 rfl 5 Tryd.underlying22 (by kernel_rfl) _ _ _ _ _ _ rfl rfl g (8 + had) (stL h rest nb) 61 HB1.out ((b.take k).map (Value.int .u8)) (by rw [List.length_map, List.length_take, Nat.min_eq_left HK.out.1]; exact HK.out.2.2.2) (fun hp => ⟨rfl, C_cells (HBut1.out.C HC.out HNE.out) k hp⟩) (by rw [stL_len nb HH8.out HR64.out, List.length_map, List.length_take, Nat.min_eq_left HK.out.1]; have := HK.out.2.1; omega) (fun v hv => by obtain ⟨x, _, rfl⟩ := List.mem_map.1 hv; rfl) ?_; rw [show (goInt ((b.take k).map (Value.int .u8)).length : Value) = .int .i64 (k : Int) by rw [List.length_map, List.length_take, Nat.min_eq_left HK.out.1]; rfl, st_splice nb had HH8.out HR64.out (by rw [List.length_take, Nat.min_eq_left HK.out.1]; exact HK.out.2.1)]))
      have HR1 := Aside0.mk (show (splice rest had (b.take k)).length = 64 by rw [length_splice _ _ _ (by rw [List.length_take, Nat.min_eq_left HKB.out, HR64.out]; have := HF.out; omega), HR64.out])
      have LB := Aside0.mk (setRow_heap _ g _ (stL h (splice rest had (b.take k)) nb).toArray 61 (0, 0) HB1.out)
      have LBut := Aside0.mk (HBut1.out.setRow (stL h (splice rest had (b.take k)) nb).toArray)
      rw [show (stL h (splice rest had (b.take k)) nb).toArray = stA h (splice rest had (b.take k)) nb from rfl] at LB LBut ⊢
      have HFULL := Aside0.mk (rep_full (b := b) HML.out HD.out HKB.out HF.out HR64.out HTL.out)
      have HNX := Aside0.mk (show hashB (m ++ b) (n / 64 + 1) = overN h (splice rest had (b.take k)) by rw [hashB, hashB_append m b _ (by rw [HML.out]; omega), ← HH.out, HFULL.out])
      have LDR := Aside0.mk (show b.drop k = (m ++ b).drop (64 * (n / 64 + 1)) by
        have h_ := HML.out; have h2_ := HD.out; have h3_ := HF.out
        rw [List.drop_append, List.drop_of_length_le (show m.length ≤ 64 * (n / 64 + 1) by omega), h_, show 64 * (n / 64 + 1) - n = k by omega]; rfl)
      generalize (w.setCell ⟨g, 72, none⟩ (.int .i64 (nb : Int))).setRow g (stA h (splice rest had (b.take k)) nb) = w5 at LB LBut ⊢
      clear hn hf hsl hcut hki hadk hsum hsum2 hrem HB1 HBut1 hlti
      have HCD := Aside0.mk (show Kd.C (Kd.int .u8) w A2 (b.length - k) (b.drop k) by have h_ := hC2.out; rw [List.length_drop] at h_; rw [← HA2.out]; exact h_)
      have HAD := Aside0.mk (show 0 < b.length - k → ∀ ad, A2 = some ad → ad.block ≠ g from fun hp ad he => by
        rw [← HA2.out] at he
        split at he
        · exact HNE.out (by omega) ad he
        · cases hq : A with
          | none => rw [hq] at he; cases he
          | some ad0 =>
            rw [hq] at he
            have he' : ad0.add (k * 1) = ad := by simpa using he
            have hbk : (ad0.add (k * 1)).block = ad0.block := by unfold Addr.add; split <;> rfl
            rw [← he', hbk]
            exact HNE.out (by omega) ad0 hq)
      have Hov := Aside0.mk (fun W hC_ hT_ => over_calls (some ⟨g, 8, none⟩) 64 h (splice rest had (b.take k)) W HH8.out HHW.out hC_ HR1.out (by rw [HR1.out]; exact Nat.le_refl _) hT_)
      rw [HR1.out, eight_arr HH8.out] at Hov
      have ce0 := st_h LB.out HH8.out 0 (by decide)
      have ce1 := st_h LB.out HH8.out 1 (by decide)
      have ce2 := st_h LB.out HH8.out 2 (by decide)
      have ce3 := st_h LB.out HH8.out 3 (by decide)
      have ce4 := st_h LB.out HH8.out 4 (by decide)
      have ce5 := st_h LB.out HH8.out 5 (by decide)
      have ce6 := st_h LB.out HH8.out 6 (by decide)
      have ce7 := st_h LB.out HH8.out 7 (by decide)
      generalize hg0 : get h 0 = s0 at ce0
      generalize hg1 : get h 1 = s1 at ce1
      generalize hg2 : get h 2 = s2 at ce2
      generalize hg3 : get h 3 = s3 at ce3
      generalize hg4 : get h 4 = s4 at ce4
      generalize hg5 : get h 5 = s5 at ce5
      generalize hg6 : get h 6 = s6 at ce6
      generalize hg7 : get h 7 = s7 at ce7
      rw [hg0] at Hov
      rw [hg1] at Hov
      rw [hg2] at Hov
      rw [hg3] at Hov
      rw [hg4] at Hov
      rw [hg5] at Hov
      rw [hg6] at Hov
      rw [hg7] at Hov
      clear hg0
      clear hg1
      clear hg2
      clear hg3
      clear hg4
      clear hg5
      clear hg6
      clear hg7
      unfold aggN at Hov
      have hov8 := Aside0.mk (show (overN h (splice rest had (b.take k))).length = 8 from overN_len HH8.out _)
      have HNX2 := HNX
      generalize hov : overN h (splice rest had (b.take k)) = h2 at Hov hov8 HNX
      clear hov HNX2
      have hsv := Aside0.mk (fun (W : World) hb_ => st_save (W := W) (g := g) (h := h) (h' := h2) (rest := splice rest had (b.take k)) (n := nb) hb_ HH8.out hov8.out HR1.out)
      have hcv8 : (arr h2).size = 8 := by rw [arr_size]; exact hov8.out
      generalize hcv : arr h2 = cv at Hov hsv hcv8
      clear hcv
      have hsa := slice_all g
      replace LB : Aside0 (w5.drew.heap[g]? = some (.cells (stA h (splice rest had (b.take k)) nb) 61 (0, 0))) := LB
      replace LBut : Aside0 (But g w w5.drew) := ⟨⟨LBut.out.os, LBut.out.tape, LBut.out.output, LBut.out.size, LBut.out.block⟩⟩
      have hHov := Aside0.mk (Hov.out w5.drew (by have h_ := C_rest LB.out HH8.out HR1.out; rwa [HR1.out] at h_) (LBut.out.tab HT.out HG.out))
      clear Hov
      go_region_with (first | (go_at_call 25; (refine hHov.out.mono ?_); rintro e w7 ⟨rfl, hb7⟩; have HB7 := Aside0.mk hb7; clear hb7; have hst := hsv.out w7 (blk_below LB.out HB7.out)))
      go_wp2
      replace LBut := Aside0.mk ((LBut.out.trans (But.of_below HB7.out)).setRow (stA h2 (splice rest had (b.take k)) nb))
      replace LB := Aside0.mk (setRow_heap _ g _ (stA h2 (splice rest had (b.take k)) nb) 61 (0, 0) (blk_below LB.out HB7.out))
      clear hst HB7
      generalize w7.setRow g (stA h2 (splice rest had (b.take k)) nb) = w8 at LB LBut ⊢
      clear hsa
      go_loopg [1] (nb / 64 - (n / 64 + 1)) (fun k v1 wr => ∃ (A2 : Option Addr) (c2 n2 i : Nat) (b2 : List Int) (h1 : List Nat) (r1 : List Int), v1 = .slice A2 n2 c2 ∧ Aside0 (b2.length = n2) ∧ Aside0 (i + k = nb / 64) ∧ Aside0 (b2 = (m ++ b).drop (64 * i)) ∧ Aside0 (h1 = hashB (m ++ b) i) ∧ Aside0 (r1.length = 64) ∧ Aside0 (n2 ≤ c2) ∧ Aside0 (Kd.C (Kd.int .u8) w A2 n2 b2) ∧ Aside0 (0 < n2 → ∀ ad, A2 = some ad → ad.block ≠ g) ∧ Aside0 (wr.heap[g]? = some (.cells (stA h1 r1 nb) 61 (0, 0))) ∧ Aside0 (But g w wr))
      case atStart => exact ⟨A2, c - k, b.length - k, n / 64 + 1, b.drop k, h2, splice rest had (b.take k), rfl, ⟨List.length_drop⟩, ⟨by have h_ := HNB.out; have h2_ := HD.out; have h3_ := HKB.out; have h4_ := HF.out; omega⟩, ⟨LDR.out⟩, ⟨HNX.out.symm⟩, ⟨HR1.out⟩, ⟨by have := HCC.out; omega⟩, ⟨HCD.out⟩, ⟨HAD.out⟩, LB, LBut⟩
      case round =>
        clear LB LBut
        obtain ⟨A2, c2, n2, i, b2, h1, r1, rfl, hn2, hik, hb2, hh1, hr1, hc2, hCw, hA2, hB, hBut⟩ := hrel
        have h18 := Aside0.mk (show h1.length = 8 by rw [hh1.out]; exact hashB_len _ _)
        have h1w := Aside0.mk (show W32 h1 by rw [hh1.out]; exact hashB_lt _ _)
        by_cases h64 : 64 ≤ n2
        · have Hov := Aside0.mk (fun W hC_ hT_ => over_calls A2 c2 h1 (b2.take 64) W h18.out h1w.out hC_ (by rw [List.length_take, hn2.out]; omega) (by rw [List.length_take, hn2.out]; have := hc2.out; omega) hT_)
          rw [show (b2.take 64).length = 64 by rw [List.length_take, hn2.out]; omega, eight_arr h18.out] at Hov
          have ce0 := st_h hB.out h18.out 0 (by decide)
          have ce1 := st_h hB.out h18.out 1 (by decide)
          have ce2 := st_h hB.out h18.out 2 (by decide)
          have ce3 := st_h hB.out h18.out 3 (by decide)
          have ce4 := st_h hB.out h18.out 4 (by decide)
          have ce5 := st_h hB.out h18.out 5 (by decide)
          have ce6 := st_h hB.out h18.out 6 (by decide)
          have ce7 := st_h hB.out h18.out 7 (by decide)
          generalize hg0 : get h1 0 = s0 at ce0
          generalize hg1 : get h1 1 = s1 at ce1
          generalize hg2 : get h1 2 = s2 at ce2
          generalize hg3 : get h1 3 = s3 at ce3
          generalize hg4 : get h1 4 = s4 at ce4
          generalize hg5 : get h1 5 = s5 at ce5
          generalize hg6 : get h1 6 = s6 at ce6
          generalize hg7 : get h1 7 = s7 at ce7
          rw [hg0] at Hov
          rw [hg1] at Hov
          rw [hg2] at Hov
          rw [hg3] at Hov
          rw [hg4] at Hov
          rw [hg5] at Hov
          rw [hg6] at Hov
          rw [hg7] at Hov
          clear hg0
          clear hg1
          clear hg2
          clear hg3
          clear hg4
          clear hg5
          clear hg6
          clear hg7
          unfold aggN at Hov
          have hov8 := Aside0.mk (show (overN h1 (b2.take 64)).length = 8 from overN_len h18.out _)
          have HNX := Aside0.mk (show hashB (m ++ b) (i + 1) = overN h1 (b2.take 64) by rw [hashB, ← hh1.out, hb2.out]; rfl)
          generalize hov : overN h1 (b2.take 64) = h2 at Hov hov8 HNX
          clear hov
          have hsv := Aside0.mk (fun (W : World) hb_ => st_save (W := W) (g := g) (h := h1) (h' := h2) (rest := r1) (n := nb) hb_ h18.out hov8.out hr1.out)
          have hcv8 : (arr h2).size = 8 := by rw [arr_size]; exact hov8.out
          generalize hcv : arr h2 = cv at Hov hsv hcv8
          clear hcv
          have H64 := Aside0.mk h64
          have h64i : (64 : Int) ≤ (n2 : Int) := by omega
          have hct : ∀ W : World, (Instr.slice 22 (.slice A2 n2 c2) none (some (.int .i64 64)) none).run Tryd.prog W = .ok (.slice A2 64 c2) W := by
            obtain ⟨i05, hi05, _, hsz05, _⟩ := info_parts P.info5
            exact cut_to (P := Tryd.prog) 22 5 .i64 Tryd.underlying22 hi05 A2 n2 c2 64 (by decide) (by omega) hc2.out
          have hcf : ∀ W : World, (Instr.slice 22 (.slice A2 n2 c2) (some (.int .i64 64)) none none).run Tryd.prog W = .ok (.slice (if c2 = 64 then A2 else A2.map (·.add (64 * 1))) (n2 - 64) (c2 - 64)) W := by
            obtain ⟨i05, hi05, _, hsz05, _⟩ := info_parts P.info5
            exact cut_from (P := Tryd.prog) 22 5 .i64 Tryd.underlying22 hi05 1 (by simpa using hsz05) A2 n2 c2 64 (by decide) (by omega)
          generalize hA3 : (if c2 = 64 then A2 else A2.map (·.add (64 * 1))) = A3 at hcf
          have HA3 := Aside0.mk hA3
          generalize hn3 : n2 - 64 = n3 at hcf
          have HN3 := Aside0.mk hn3
          clear hA3 hn3
          go_wp2
          have HBd := Aside0.mk (show wr.drew.heap[g]? = some (.cells (stA h1 r1 nb) 61 (0, 0)) from hB.out)
          have HButd := Aside0.mk (show But g w wr.drew from ⟨hBut.out.os, hBut.out.tape, hBut.out.output, hBut.out.size, hBut.out.block⟩)
          have hHov := Aside0.mk (Hov.out wr.drew (by have h_ := HButd.out.C (Kd.C_take (m := 64) (hn2.out ▸ hCw.out) (by rw [hn2.out]; exact H64.out)) (fun _ => hA2.out (by have := H64.out; omega)); rwa [show (b2.take 64).length = 64 by rw [List.length_take, hn2.out]; have := H64.out; omega] at h_) (HButd.out.tab HT.out HG.out))
          clear Hov
          go_region_with (first | (go_at_call 25; (refine hHov.out.mono ?_); rintro e w4 ⟨rfl, hb4⟩; have HB4 := Aside0.mk hb4; clear hb4; have hst := hsv.out w4 (blk_below HBd.out HB4.out)))
          go_wp2
          replace hB := HBd
          replace hBut := HButd
          go_roundg (gk - 1)
          case measure => (have h1_ := hik.out; have h2_ := H64.out; have h3_ := hb2.out; have h4_ := hn2.out; have h5_ : n2 = nb - 64 * i := by rw [← h4_, h3_, List.length_drop, List.length_append, HML.out, HNB.out]
                           omega)
          case rel =>
            have h1_ := hik.out
            have h2_ := H64.out
            have h5_ : n2 = nb - 64 * i := by rw [← hn2.out, hb2.out, List.length_drop, List.length_append, HML.out, HNB.out]
            have hd3 : (b2.drop 64).length = n3 := by rw [List.length_drop, hn2.out]; exact HN3.out
            refine ⟨A3, c2 - 64, n3, i + 1, b2.drop 64, h2, r1, rfl, ⟨hd3⟩, ⟨by omega⟩, ⟨by rw [hb2.out, List.drop_drop, show 64 * i + 64 = 64 * (i + 1) by omega]⟩, ⟨HNX.out.symm⟩, hr1, ⟨by have := hc2.out; have := HN3.out; omega⟩, ⟨?_⟩, ⟨?_⟩, ⟨setRow_heap _ _ _ _ _ _ (blk_below hB.out HB4.out)⟩, ⟨(hBut.out.trans (But.of_below HB4.out)).setRow _⟩⟩
            · have h_ := Kd.C_drop (m := 64) (c := c2) (hn2.out ▸ hCw.out) (by rw [hn2.out]; exact h2_) (by rw [hn2.out]; exact hc2.out)
              rw [hd3] at h_
              rw [← HA3.out]
              exact h_
            · intro hp ad he
              rw [← HA3.out] at he
              split at he
              · exact hA2.out (by omega) ad he
              · cases hq : A2 with
                | none => rw [hq] at he; cases he
                | some ad0 =>
                  rw [hq] at he
                  have he' : ad0.add (64 * 1) = ad := by simpa using he
                  have hbk : (ad0.add (64 * 1)).block = ad0.block := by unfold Addr.add; split <;> rfl
                  rw [← he', hbk]
                  exact hA2.out (by omega) ad0 hq
        · have H64 := Aside0.mk h64
          have h64i : (n2 : Int) < 64 := by omega
          have hsa := slice_all g
          go_wp2_with (first | (refine wpList_copy_mine rfl (.tmp 66) (.tmp 67) 22 22 rfl 5 Tryd.underlying22 (by kernel_rfl) _ _ _ _ _ _ rfl rfl g (8 + 0) (stL h1 r1 nb) 61 hB.out (b2.map (Value.int .u8)) (by rw [List.length_map, hn2.out]; exact (Nat.min_eq_left (by omega)).symm) (fun hp => ⟨rfl, by have h_ := C_cells (hBut.out.C hCw.out hA2.out) n2 (by rw [List.take_of_length_le (by rw [hn2.out]; exact Nat.le_refl _)]; exact hp); rwa [List.take_of_length_le (by rw [hn2.out]; exact Nat.le_refl _)] at h_⟩) (by rw [stL_len nb h18.out hr1.out, List.length_map, hn2.out]; have := H64.out; omega) (fun v hv => by obtain ⟨x, _, rfl⟩ := List.mem_map.1 hv; rfl) ?_; rw [st_splice nb 0 h18.out hr1.out (by rw [hn2.out]; have := H64.out; omega)]))
          go_end0
          refine ⟨⟨_, rfl⟩, rep_end (rest := r1) (i := i) (h := h1) (b2 := b2) (nb := nb) (by rw [List.length_append, HML.out, HNB.out]) hb2.out (by have := hik.out; omega) (by rw [hn2.out]; have := H64.out; omega) hh1.out hr1.out ?_, hBut.out.setRow _⟩
          exact setRow_heap _ g _ (stL h1 (splice r1 0 b2) nb).toArray 61 (0, 0) hB.out
  · have hz : had = 0 := by omega
    have h0i : ¬ ((0 : Int) < (had : Int)) := by omega
    have LB := Aside0.mk (blk_put HB.out 72 (.int .i64 (nb : Int)) (st_set_n n nb HH8.out HR64.out))
    have LBut := Aside0.mk ((But.refl g w).setCell 72 (.int .i64 (nb : Int)))
    have LHH := Aside0.mk (show h = hashB (m ++ b) (n / 64) by rw [hashB_append m b _ (by rw [HML.out]; omega)]; exact HH.out)
    have LDR := Aside0.mk (show b = (m ++ b).drop (64 * (n / 64)) by
      have h_ := HML.out; have h2_ := HD.out
      rw [List.drop_append, List.drop_of_length_le (show m.length ≤ 64 * (n / 64) by omega), h_, show 64 * (n / 64) - n = 0 by omega]; rfl)
    go_enter Tryd.func10, Tryd.ntmps10
    go_wp2
    clear hn hf hsum hsum2 hrem
    generalize w.setCell ⟨g, 72, none⟩ (.int .i64 (nb : Int)) = w8 at LB LBut ⊢
    go_loopg [1] (nb / 64 - (n / 64)) (fun k v1 wr => ∃ (A2 : Option Addr) (c2 n2 i : Nat) (b2 : List Int) (h1 : List Nat) (r1 : List Int), v1 = .slice A2 n2 c2 ∧ Aside0 (b2.length = n2) ∧ Aside0 (i + k = nb / 64) ∧ Aside0 (b2 = (m ++ b).drop (64 * i)) ∧ Aside0 (h1 = hashB (m ++ b) i) ∧ Aside0 (r1.length = 64) ∧ Aside0 (n2 ≤ c2) ∧ Aside0 (Kd.C (Kd.int .u8) w A2 n2 b2) ∧ Aside0 (0 < n2 → ∀ ad, A2 = some ad → ad.block ≠ g) ∧ Aside0 (wr.heap[g]? = some (.cells (stA h1 r1 nb) 61 (0, 0))) ∧ Aside0 (But g w wr))
    case atStart => exact ⟨A, c, b.length, n / 64, b, h, rest, rfl, ⟨rfl⟩, ⟨by have h_ := HNB.out; omega⟩, ⟨LDR.out⟩, ⟨LHH.out⟩, HR64, HCC, HC, HNE, LB, LBut⟩
    case round =>
      clear LB LBut
      obtain ⟨A2, c2, n2, i, b2, h1, r1, rfl, hn2, hik, hb2, hh1, hr1, hc2, hCw, hA2, hB, hBut⟩ := hrel
      have h18 := Aside0.mk (show h1.length = 8 by rw [hh1.out]; exact hashB_len _ _)
      have h1w := Aside0.mk (show W32 h1 by rw [hh1.out]; exact hashB_lt _ _)
      by_cases h64 : 64 ≤ n2
      · have Hov := Aside0.mk (fun W hC_ hT_ => over_calls A2 c2 h1 (b2.take 64) W h18.out h1w.out hC_ (by rw [List.length_take, hn2.out]; omega) (by rw [List.length_take, hn2.out]; have := hc2.out; omega) hT_)
        rw [show (b2.take 64).length = 64 by rw [List.length_take, hn2.out]; omega, eight_arr h18.out] at Hov
        have ce0 := st_h hB.out h18.out 0 (by decide)
        have ce1 := st_h hB.out h18.out 1 (by decide)
        have ce2 := st_h hB.out h18.out 2 (by decide)
        have ce3 := st_h hB.out h18.out 3 (by decide)
        have ce4 := st_h hB.out h18.out 4 (by decide)
        have ce5 := st_h hB.out h18.out 5 (by decide)
        have ce6 := st_h hB.out h18.out 6 (by decide)
        have ce7 := st_h hB.out h18.out 7 (by decide)
        generalize hg0 : get h1 0 = s0 at ce0
        generalize hg1 : get h1 1 = s1 at ce1
        generalize hg2 : get h1 2 = s2 at ce2
        generalize hg3 : get h1 3 = s3 at ce3
        generalize hg4 : get h1 4 = s4 at ce4
        generalize hg5 : get h1 5 = s5 at ce5
        generalize hg6 : get h1 6 = s6 at ce6
        generalize hg7 : get h1 7 = s7 at ce7
        rw [hg0] at Hov
        rw [hg1] at Hov
        rw [hg2] at Hov
        rw [hg3] at Hov
        rw [hg4] at Hov
        rw [hg5] at Hov
        rw [hg6] at Hov
        rw [hg7] at Hov
        clear hg0
        clear hg1
        clear hg2
        clear hg3
        clear hg4
        clear hg5
        clear hg6
        clear hg7
        unfold aggN at Hov
        have hov8 := Aside0.mk (show (overN h1 (b2.take 64)).length = 8 from overN_len h18.out _)
        have HNX := Aside0.mk (show hashB (m ++ b) (i + 1) = overN h1 (b2.take 64) by rw [hashB, ← hh1.out, hb2.out]; rfl)
        generalize hov : overN h1 (b2.take 64) = h2 at Hov hov8 HNX
        clear hov
        have hsv := Aside0.mk (fun (W : World) hb_ => st_save (W := W) (g := g) (h := h1) (h' := h2) (rest := r1) (n := nb) hb_ h18.out hov8.out hr1.out)
        have hcv8 : (arr h2).size = 8 := by rw [arr_size]; exact hov8.out
        generalize hcv : arr h2 = cv at Hov hsv hcv8
        clear hcv
        have H64 := Aside0.mk h64
        have h64i : (64 : Int) ≤ (n2 : Int) := by omega
        have hct : ∀ W : World, (Instr.slice 22 (.slice A2 n2 c2) none (some (.int .i64 64)) none).run Tryd.prog W = .ok (.slice A2 64 c2) W := by
          obtain ⟨i05, hi05, _, hsz05, _⟩ := info_parts P.info5
          exact cut_to (P := Tryd.prog) 22 5 .i64 Tryd.underlying22 hi05 A2 n2 c2 64 (by decide) (by omega) hc2.out
        have hcf : ∀ W : World, (Instr.slice 22 (.slice A2 n2 c2) (some (.int .i64 64)) none none).run Tryd.prog W = .ok (.slice (if c2 = 64 then A2 else A2.map (·.add (64 * 1))) (n2 - 64) (c2 - 64)) W := by
          obtain ⟨i05, hi05, _, hsz05, _⟩ := info_parts P.info5
          exact cut_from (P := Tryd.prog) 22 5 .i64 Tryd.underlying22 hi05 1 (by simpa using hsz05) A2 n2 c2 64 (by decide) (by omega)
        generalize hA3 : (if c2 = 64 then A2 else A2.map (·.add (64 * 1))) = A3 at hcf
        have HA3 := Aside0.mk hA3
        generalize hn3 : n2 - 64 = n3 at hcf
        have HN3 := Aside0.mk hn3
        clear hA3 hn3
        go_wp2
        have HBd := Aside0.mk (show wr.drew.heap[g]? = some (.cells (stA h1 r1 nb) 61 (0, 0)) from hB.out)
        have HButd := Aside0.mk (show But g w wr.drew from ⟨hBut.out.os, hBut.out.tape, hBut.out.output, hBut.out.size, hBut.out.block⟩)
        have hHov := Aside0.mk (Hov.out wr.drew (by have h_ := HButd.out.C (Kd.C_take (m := 64) (hn2.out ▸ hCw.out) (by rw [hn2.out]; exact H64.out)) (fun _ => hA2.out (by have := H64.out; omega)); rwa [show (b2.take 64).length = 64 by rw [List.length_take, hn2.out]; have := H64.out; omega] at h_) (HButd.out.tab HT.out HG.out))
        clear Hov
        go_region_with (first | (go_at_call 25; (refine hHov.out.mono ?_); rintro e w4 ⟨rfl, hb4⟩; have HB4 := Aside0.mk hb4; clear hb4; have hst := hsv.out w4 (blk_below HBd.out HB4.out)))
        go_wp2
        replace hB := HBd
        replace hBut := HButd
        go_roundg (gk - 1)
        case measure => (have h1_ := hik.out; have h2_ := H64.out; have h3_ := hb2.out; have h4_ := hn2.out; have h5_ : n2 = nb - 64 * i := by rw [← h4_, h3_, List.length_drop, List.length_append, HML.out, HNB.out]
                         omega)
        case rel =>
          have h1_ := hik.out
          have h2_ := H64.out
          have h5_ : n2 = nb - 64 * i := by rw [← hn2.out, hb2.out, List.length_drop, List.length_append, HML.out, HNB.out]
          have hd3 : (b2.drop 64).length = n3 := by rw [List.length_drop, hn2.out]; exact HN3.out
          refine ⟨A3, c2 - 64, n3, i + 1, b2.drop 64, h2, r1, rfl, ⟨hd3⟩, ⟨by omega⟩, ⟨by rw [hb2.out, List.drop_drop, show 64 * i + 64 = 64 * (i + 1) by omega]⟩, ⟨HNX.out.symm⟩, hr1, ⟨by have := hc2.out; have := HN3.out; omega⟩, ⟨?_⟩, ⟨?_⟩, ⟨setRow_heap _ _ _ _ _ _ (blk_below hB.out HB4.out)⟩, ⟨(hBut.out.trans (But.of_below HB4.out)).setRow _⟩⟩
          · have h_ := Kd.C_drop (m := 64) (c := c2) (hn2.out ▸ hCw.out) (by rw [hn2.out]; exact h2_) (by rw [hn2.out]; exact hc2.out)
            rw [hd3] at h_
            rw [← HA3.out]
            exact h_
          · intro hp ad he
            rw [← HA3.out] at he
            split at he
            · exact hA2.out (by omega) ad he
            · cases hq : A2 with
              | none => rw [hq] at he; cases he
              | some ad0 =>
                rw [hq] at he
                have he' : ad0.add (64 * 1) = ad := by simpa using he
                have hbk : (ad0.add (64 * 1)).block = ad0.block := by unfold Addr.add; split <;> rfl
                rw [← he', hbk]
                exact hA2.out (by omega) ad0 hq
      · have H64 := Aside0.mk h64
        have h64i : (n2 : Int) < 64 := by omega
        have hsa := slice_all g
        go_wp2_with (first | (refine wpList_copy_mine rfl (.tmp 66) (.tmp 67) 22 22 rfl 5 Tryd.underlying22 (by kernel_rfl) _ _ _ _ _ _ rfl rfl g (8 + 0) (stL h1 r1 nb) 61 hB.out (b2.map (Value.int .u8)) (by rw [List.length_map, hn2.out]; exact (Nat.min_eq_left (by omega)).symm) (fun hp => ⟨rfl, by have h_ := C_cells (hBut.out.C hCw.out hA2.out) n2 (by rw [List.take_of_length_le (by rw [hn2.out]; exact Nat.le_refl _)]; exact hp); rwa [List.take_of_length_le (by rw [hn2.out]; exact Nat.le_refl _)] at h_⟩) (by rw [stL_len nb h18.out hr1.out, List.length_map, hn2.out]; have := H64.out; omega) (fun v hv => by obtain ⟨x, _, rfl⟩ := List.mem_map.1 hv; rfl) ?_; rw [st_splice nb 0 h18.out hr1.out (by rw [hn2.out]; have := H64.out; omega)]))
        go_end0
        refine ⟨⟨_, rfl⟩, rep_end (rest := r1) (i := i) (h := h1) (b2 := b2) (nb := nb) (by rw [List.length_append, HML.out, HNB.out]) hb2.out (by have := hik.out; omega) (by rw [hn2.out]; have := H64.out; omega) hh1.out hr1.out ?_, hBut.out.setRow _⟩
        exact setRow_heap _ g _ (stL h1 (splice r1 0 b2) nb).toArray 61 (0, 0) hB.out
end Go.Proofs.YthnmpkhjpfhloaaDoor.M
