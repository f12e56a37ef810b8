import Derived.Test.YthnmpkhjpfhloaaDoorProg
import Derived.Below
import Derived.Deep.Draws
import Derived.Deep.AppendLies
import Derived.Maps.AppendAt
import Derived.OwnWalk
import Derived.Laws.BytesArg
import Derived.Laws.MakeOwn
import Derived.Laws.OwnMore
import Derived.Deep.OwnRows
import Derived.Tactics
import Derived.Lib.ConvBytes
import Derived.Laws.Slices
import Derived.WalkKit
import Derived.KernelRfl
import Derived.RowKit3
import Derived.Deep.LoopGhost
import Derived.Deep.QuietTactic
import Derived.BigQuiet
import Derived.WideLaws
import Derived.Deep.DeepCutAuto
import Derived.Deep.CutBlock
import Derived.Deep.RegionHeld3
import Derived.Laws.Rows
import Derived.Lib.AppendStr
import Derived.ArgAppend
import Derived.Laws.IdiomCopy
import Derived.OrdersHeld
import Derived.Laws.BitsLemmas
import Derived.RowKit
import Derived.Test.YthnmpkhjpfhloaaDoorWWords
import Derived.Test.YthnmpkhjpfhloaaDoorWLast
import Derived.Test.YthnmpkhjpfhloaaDoorWTab
import Derived.Test.YthnmpkhjpfhloaaDoorWFour
import Derived.Test.YthnmpkhjpfhloaaDoorWQPut
import Derived.Test.YthnmpkhjpfhloaaDoorWApart
import Derived.Test.YthnmpkhjpfhloaaDoorWArr
import Derived.Test.YthnmpkhjpfhloaaDoorWZeros
import Derived.Test.YthnmpkhjpfhloaaDoorWFoot
import Derived.Test.YthnmpkhjpfhloaaDoorWKept
import Derived.Test.YthnmpkhjpfhloaaDoorWShare
import Derived.Test.YthnmpkhjpfhloaaDoorWN
import Derived.Test.YthnmpkhjpfhloaaDoorWFootNe
import Derived.Test.YthnmpkhjpfhloaaDoorWAt
import Derived.Test.YthnmpkhjpfhloaaDoorWEqStruct
import Derived.Test.YthnmpkhjpfhloaaDoorWRepsOne
import Derived.Test.YthnmpkhjpfhloaaDoorWInv
import Derived.Test.YthnmpkhjpfhloaaDoorWInvWords
import Derived.Test.YthnmpkhjpfhloaaDoorWGuard
import Derived.Test.YthnmpkhjpfhloaaDoorWNEv
import Derived.Test.YthnmpkhjpfhloaaDoorWMore
import Derived.Laws.BitsAllLaws
import Derived.StillTailTactics
import Derived.Test.YthnmpkhjpfhloaaDoorMs
import Derived.Deep.WholeRow
import Derived.Test.YthnmpkhjpfhloaaDoorNm
import Derived.Test.YthnmpkhjpfhloaaDoorNe
import Derived.Test.YthnmpkhjpfhloaaDoorMb
namespace Go.Proofs.YthnmpkhjpfhloaaDoor.M
open Go.RowKit Go.Proofs.YthnmpkhjpfhloaaDoorW.PrintWords Go.Proofs.YthnmpkhjpfhloaaDoorW.PrintLast Go.Proofs.YthnmpkhjpfhloaaDoorW.PrintMore Go.Proofs.YthnmpkhjpfhloaaDoor.P
set_option linter.unusedVariables false
set_option linter.unusedSimpArgs false
theorem digitsE : ∀ i : Nat, i < 32 → kilnlaw2_byteOf.f 60 ⟨#[101, 51, 98, 48, 99, 52, 52, 50, 57, 56, 102, 99, 49, 99, 49, 52, 57, 97, 102, 98, 102, 52, 99, 56, 57, 57, 54, 102, 98, 57, 50, 52, 50, 55, 97, 101, 52, 49, 101, 52, 54, 52, 57, 98, 57, 51, 52, 99, 97, 52, 57, 53, 57, 57, 49, 98, 55, 56, 53, 50, 98, 56, 53, 53]⟩ (i : Int) = some (emptyL.getD i 0) := by
  have h : ∀ i : Fin 32, kilnlaw2_byteOf.f 60 ⟨#[101, 51, 98, 48, 99, 52, 52, 50, 57, 56, 102, 99, 49, 99, 49, 52, 57, 97, 102, 98, 102, 52, 99, 56, 57, 57, 54, 102, 98, 57, 50, 52, 50, 55, 97, 101, 52, 49, 101, 52, 54, 52, 57, 98, 57, 51, 52, 99, 97, 52, 57, 53, 57, 57, 49, 98, 55, 56, 53, 50, 98, 56, 53, 53]⟩ ((i.1 : Nat) : Int) = some (emptyL.getD i.1 0) := by decide +kernel
  exact fun i hi => h ⟨i, hi⟩
theorem digitsA : ∀ i : Nat, i < 32 → kilnlaw2_byteOf.f 60 ⟨#[98, 97, 55, 56, 49, 54, 98, 102, 56, 102, 48, 49, 99, 102, 101, 97, 52, 49, 52, 49, 52, 48, 100, 101, 53, 100, 97, 101, 50, 50, 50, 51, 98, 48, 48, 51, 54, 49, 97, 51, 57, 54, 49, 55, 55, 97, 57, 99, 98, 52, 49, 48, 102, 102, 54, 49, 102, 50, 48, 48, 49, 53, 97, 100]⟩ (i : Int) = some (abcL.getD i 0) := by
  have h : ∀ i : Fin 32, kilnlaw2_byteOf.f 60 ⟨#[98, 97, 55, 56, 49, 54, 98, 102, 56, 102, 48, 49, 99, 102, 101, 97, 52, 49, 52, 49, 52, 48, 100, 101, 53, 100, 97, 101, 50, 50, 50, 51, 98, 48, 48, 51, 54, 49, 97, 51, 57, 54, 49, 55, 55, 97, 57, 99, 98, 52, 49, 48, 102, 102, 54, 49, 102, 50, 48, 48, 49, 53, 97, 100]⟩ ((i.1 : Nat) : Int) = some (abcL.getD i.1 0) := by decide +kernel
  exact fun i hi => h ⟨i, hi⟩
theorem digitsL : ∀ i : Nat, i < 32 → kilnlaw2_byteOf.f 60 ⟨#[50, 52, 56, 100, 54, 97, 54, 49, 100, 50, 48, 54, 51, 56, 98, 56, 101, 53, 99, 48, 50, 54, 57, 51, 48, 99, 51, 101, 54, 48, 51, 57, 97, 51, 51, 99, 101, 52, 53, 57, 54, 52, 102, 102, 50, 49, 54, 55, 102, 54, 101, 99, 101, 100, 100, 52, 49, 57, 100, 98, 48, 54, 99, 49]⟩ (i : Int) = some (longS.getD i 0) := by
  have h : ∀ i : Fin 32, kilnlaw2_byteOf.f 60 ⟨#[50, 52, 56, 100, 54, 97, 54, 49, 100, 50, 48, 54, 51, 56, 98, 56, 101, 53, 99, 48, 50, 54, 57, 51, 48, 99, 51, 101, 54, 48, 51, 57, 97, 51, 51, 99, 101, 52, 53, 57, 54, 52, 102, 102, 50, 49, 54, 55, 102, 54, 101, 99, 101, 100, 100, 52, 49, 57, 100, 98, 48, 54, 99, 49]⟩ ((i.1 : Nat) : Int) = some (longS.getD i.1 0) := by decide +kernel
  exact fun i hi => h ⟨i, hi⟩
theorem digitsM : ∀ i : Nat, i < 32 → kilnlaw2_byteOf.f 60 ⟨#[99, 100, 99, 55, 54, 101, 53, 99, 57, 57, 49, 52, 102, 98, 57, 50, 56, 49, 97, 49, 99, 55, 101, 50, 56, 52, 100, 55, 51, 101, 54, 55, 102, 49, 56, 48, 57, 97, 52, 56, 97, 52, 57, 55, 50, 48, 48, 101, 48, 52, 54, 100, 51, 57, 99, 99, 99, 55, 49, 49, 50, 99, 100, 48]⟩ (i : Int) = some (millionL.getD i 0) := by
  have h : ∀ i : Fin 32, kilnlaw2_byteOf.f 60 ⟨#[99, 100, 99, 55, 54, 101, 53, 99, 57, 57, 49, 52, 102, 98, 57, 50, 56, 49, 97, 49, 99, 55, 101, 50, 56, 52, 100, 55, 51, 101, 54, 55, 102, 49, 56, 48, 57, 97, 52, 56, 97, 52, 57, 55, 50, 48, 48, 101, 48, 52, 54, 100, 51, 57, 99, 99, 99, 55, 49, 49, 50, 99, 100, 48]⟩ ((i.1 : Nat) : Int) = some (millionL.getD i.1 0) := by decide +kernel
  exact fun i hi => h ⟨i, hi⟩
theorem conv_long : ∃ (cap : World → Nat) (bw : World → World), (∀ W, Sem.run Tryd.prog (convert 9 22 (.string ⟨#[97, 98, 99, 100, 98, 99, 100, 101, 99, 100, 101, 102, 100, 101, 102, 103, 101, 102, 103, 104, 102, 103, 104, 105, 103, 104, 105, 106, 104, 105, 106, 107, 105, 106, 107, 108, 106, 107, 108, 109, 107, 108, 109, 110, 108, 109, 110, 111, 109, 110, 111, 112, 110, 111, 112, 113]⟩)) W = .ok (.slice (some ⟨W.heap.size, 0, none⟩) 56 (cap W)) (bw W)) ∧ (∀ W, Below W.heap.size W (bw W)) ∧ (∀ W, Kd.C (Kd.int .u8) (bw W) (some ⟨W.heap.size, 0, none⟩) 56 longL) ∧ ∀ W, 56 ≤ cap W := by
  refine ⟨fun W => grownCap W 56 0 5, fun W => Go.Lib.bytesWorld W 5 ⟨#[97, 98, 99, 100, 98, 99, 100, 101, 99, 100, 101, 102, 100, 101, 102, 103, 101, 102, 103, 104, 102, 103, 104, 105, 103, 104, 105, 106, 104, 105, 106, 107, 105, 106, 107, 108, 106, 107, 108, 109, 107, 108, 109, 110, 108, 109, 110, 111, 109, 110, 111, 112, 110, 111, 112, 113]⟩, fun W => Go.Lib.run_convert_string_bytes W 9 22 5 ⟨#[97, 98, 99, 100, 98, 99, 100, 101, 99, 100, 101, 102, 100, 101, 102, 103, 101, 102, 103, 104, 102, 103, 104, 105, 103, 104, 105, 106, 104, 105, 106, 107, 105, 106, 107, 108, 106, 107, 108, 109, 107, 108, 109, 110, 108, 109, 110, 111, 109, 110, 111, 112, 110, 111, 112, 113]⟩ Tryd.underlying9 Tryd.underlying22 (by kernel_rfl), fun W => ?_, fun W => ?_, fun W => ?_⟩
  · exact ⟨rfl, rfl, rfl, by rw [Go.Lib.bytesWorld_size]; omega, fun j hj => Go.Lib.bytesWorld_at_old W 5 _ j hj⟩
  · refine ⟨rfl, by decide, fun _ => ⟨_, rfl, fun j p hp => ⟨[.int .u8 p], rfl, rfl, fun i u hu => ?_⟩⟩⟩
    have hj : j < 56 := by
      by_cases hj : j < 56
      · exact hj
      · rw [List.getElem?_eq_none (by simp [longL]; omega)] at hp; cases hp
    match i, hu with
    | 0, hu =>
      have hu' : Value.int .u8 p = u := by simpa using hu
      subst hu'
      have h1 := Go.Lib.bytesWorld_cell W 5 ⟨#[97, 98, 99, 100, 98, 99, 100, 101, 99, 100, 101, 102, 100, 101, 102, 103, 101, 102, 103, 104, 102, 103, 104, 105, 103, 104, 105, 106, 104, 105, 106, 107, 105, 106, 107, 108, 106, 107, 108, 109, 107, 108, 109, 110, 108, 109, 110, 111, 109, 110, 111, 112, 110, 111, 112, 113]⟩ j hj
      have h2 : ∀ j : Fin 56, (((⟨#[97, 98, 99, 100, 98, 99, 100, 101, 99, 100, 101, 102, 100, 101, 102, 103, 101, 102, 103, 104, 102, 103, 104, 105, 103, 104, 105, 106, 104, 105, 106, 107, 105, 106, 107, 108, 106, 107, 108, 109, 107, 108, 109, 110, 108, 109, 110, 111, 109, 110, 111, 112, 110, 111, 112, 113]⟩ : ByteArray).data.toList.getD j.1 0).toNat : Int) = longL.getD j.1 0 := by decide
      rw [show ((((⟨#[97, 98, 99, 100, 98, 99, 100, 101, 99, 100, 101, 102, 100, 101, 102, 103, 101, 102, 103, 104, 102, 103, 104, 105, 103, 104, 105, 106, 104, 105, 106, 107, 105, 106, 107, 108, 106, 107, 108, 109, 107, 108, 109, 110, 108, 109, 110, 111, 109, 110, 111, 112, 110, 111, 112, 113]⟩ : ByteArray).data.toList.getD j 0).toNat : Nat) : Int) = p by rw [h2 ⟨j, hj⟩, List.getD_eq_getElem?_getD, hp]; rfl] at h1
      show (Go.Lib.bytesWorld W 5 ⟨#[97, 98, 99, 100, 98, 99, 100, 101, 99, 100, 101, 102, 100, 101, 102, 103, 101, 102, 103, 104, 102, 103, 104, 105, 103, 104, 105, 106, 104, 105, 106, 107, 105, 106, 107, 108, 106, 107, 108, 109, 107, 108, 109, 110, 108, 109, 110, 111, 109, 110, 111, 112, 110, 111, 112, 113]⟩).cell? ((⟨W.heap.size, 0, none⟩ : Addr).add (j * 1 + 0)) = _
      rw [show (⟨W.heap.size, 0, none⟩ : Addr).add (j * 1 + 0) = ⟨W.heap.size, j, none⟩ by unfold Addr.add; split <;> simp_all]
      exact h1
    | i + 1, hu => simp at hu
  · exact grownCap_ge W 56 0 5
set_option maxHeartbeats 8000000 in
set_option maxRecDepth 100000 in
set_option pp.deepTerms true in
set_option pp.maxSteps 1000000 in
theorem known_core (w : World) (hT : Tab w) : Calls Tryd.prog 3 #[] w fun e w' => e = .returned (.bool true) ∧ Below w.heap.size w w' := by
  have HTw := Aside0.mk hT
  have HZ := Aside0.mk (show w.heap.size ≠ 0 by have h_ := World.block_lt_of_cell? w _ (hT 0 (by decide)); intro e; rw [e] at h_; exact Nat.not_lt_zero _ h_)
  have HB := Aside0.mk (Below.refl w.heap.size w)
  have HO0 := Aside0.mk (Kd.R_nil (Kd.int .u8) 5 w w.heap.size (fun _ => True))
  clear hT
  go_enter Tryd.func3, Tryd.ntmps3
  go_wp2
  go_loopg [1, 2] 1000 (fun k v1 v2 wr => ∃ (i : Nat), v2 = .int .i64 i ∧ Aside0 (i + k = 1000) ∧ Aside0 (Kd.R (Kd.int .u8) 5 wr w.heap.size (fun _ => True) v1 (List.replicate i 97)) ∧ Aside0 (Below w.heap.size w wr))
  case atStart => exact ⟨0, rfl, ⟨rfl⟩, HO0, HB⟩
  case round =>
    clear HO0 HB
    obtain ⟨i, rfl, HI, HO, HB⟩ := hrel
    by_cases hi : i < 1000
    · have mi : (i : Int) < 1000 := by omega
      have hiw : wrap64 ((i : Int) + 1) = ((i + 1 : Nat) : Int) := by unfold wrap64; omega
      have HII := Aside0.mk hi
      clear hi
      go_wp2_with (first
        | ((with_reducible refine gate_builtin (b := .append) (xs := #[.tmp 10, .tmp 11]) rfl ?_); at_builtin; refine Kd.R_append (Kd.int .u8) (w0 := w) w.heap.size rfl (.tmp 10) (.tmp 11) 22 5 (.int .u8 0) 1 rfl Tryd.underlying22 P.info5 rfl (by decide) (by omega) u1 (List.replicate i 97) 97 [.int .u8 97] (fun _ => True) (fun _ => False) rfl rfl rfl (fun _ hk => hk.elim) (fun _ _ => trivial) HO.out HB.out HB.out.size (by rw [List.length_replicate]; have := HII.out; omega) ?_; intro v1 w2 ho hb hg hat; rw [← List.replicate_succ'] at ho; replace HO := Aside0.mk ho; replace HB := Aside0.mk hb; clear ho hb hg hat))
      go_roundg (gk - 1)
      case measure => (have := HI.out; have := HII.out; omega)
      case rel => exact ⟨i + 1, rfl, ⟨by have := HI.out; have := HII.out; omega⟩, HO, HB⟩
    · obtain rfl : i = 1000 := by have := HI.out; omega
      clear hi
      obtain ⟨A1, c1, e1⟩ := Kd.R_slice HO.out
      subst e1
      obtain ⟨_, hc1, hC1⟩ := Kd.R_reads' HO.out
      rw [List.length_replicate] at hc1 hC1
      have HC1 := Aside0.mk hC1
      have Hc1 := Aside0.mk hc1
      have HLT1 := Aside0.mk (show ∀ ad, A1 = some ad → ad.block < wr.heap.size from fun ad e => Kd.R_lt HO.out ad.block (by rw [e]; rfl))
      replace HT := Aside0.mk (HTw.out.below HB.out)
      clear hC1 hc1 HO
      rw [List.length_replicate]
      go_wp2_with (first
        | (go_at_call 9; (with_reducible refine (new_calls _).mono ?_); rintro e w1 ⟨g, rfl, hg, hH, hb⟩; have H1 := Aside0.mk hH; have HNE := Aside0.mk (show ∀ ad, A1 = some ad → ad.block ≠ g from fun ad e => by have := HLT1.out ad e; omega); have HG := Aside0.mk (show w.heap.size ≤ g by have := HB.out.size; omega); replace HC1 := Aside0.mk (Kd.C_below HC1.out hb); replace HT := Aside0.mk (HT.out.below hb); replace HB := Aside0.mk (below_step HB.out hb); clear hH hg hb))
      go_loopg [4] 1000 (fun k v4 wr => ∃ (i : Nat), v4 = .int .i64 i ∧ Aside0 (i + k = 1000) ∧ Aside0 (HashAt wr g (List.replicate (1000 * i) 97)) ∧ Aside0 (Kd.C (Kd.int .u8) wr A1 1000 (List.replicate 1000 97)) ∧ Aside0 (Tab wr) ∧ Aside0 (Below w.heap.size w wr))
      case atStart => exact ⟨0, rfl, ⟨rfl⟩, H1, HC1, HT, HB⟩
      case round =>
        clear H1 HC1 HT HB HLT1 HI
        obtain ⟨i, rfl, HI, H1, HC1, HT, HB⟩ := hrel
        by_cases hi : i < 1000
        · have mi : (i : Int) < 1000 := by omega
          have hiw : wrap64 ((i : Int) + 1) = ((i + 1 : Nat) : Int) := by unfold wrap64; omega
          have HII := Aside0.mk hi
          have Hw := Aside0.mk (fun (W : World) hH hC hT => (show Calls Tryd.prog 10 #[.pointer (some ⟨g, 0, none⟩), .slice A1 1000 c1] W fun e w' => (∃ v, e = .returned v) ∧ HashAt w' g (List.replicate (1000 * (i + 1)) 97) ∧ But g W w' from by
            have h_ := write_calls g A1 c1 (List.replicate (1000 * i) 97) (List.replicate 1000 97) W hH (by rw [List.length_replicate]; exact hC) (fun _ => HNE.out) (by rw [List.length_replicate]; exact Hc1.out) hT (by have := HG.out; have := HZ.out; omega) (by rw [List.length_replicate, List.length_replicate]; omega)
            rw [List.length_replicate, List.replicate_append_replicate, show 1000 * i + 1000 = 1000 * (i + 1) by omega] at h_
            exact h_))
          clear hi
          go_wp2_with (first | (go_at_call 10; (with_reducible refine (Hw.out _ H1.out HC1.out HT.out).mono ?_); rintro e w5 ⟨⟨v5_, rfl⟩, hh5, hbut5⟩; replace H1 := Aside0.mk hh5; replace HC1 := Aside0.mk (hbut5.C HC1.out (fun _ => HNE.out)); replace HT := Aside0.mk (hbut5.tab HT.out (by have := HG.out; have := HZ.out; omega)); replace HB := Aside0.mk (But.below HB.out hbut5 HG.out); clear hh5 hbut5))
          go_roundg (gk - 1)
          case measure => (have := HI.out; have := HII.out; omega)
          case rel => exact ⟨i + 1, rfl, ⟨by have := HI.out; have := HII.out; omega⟩, H1, HC1, HT, HB⟩
        · obtain rfl : i = 1000 := by have := HI.out; omega
          clear hi
          obtain ⟨cap, bw, hcs, hbw, hbc, hcap⟩ := conv_long
          have HBW := Aside0.mk hbw
          have HBC := Aside0.mk hbc
          have HCAP := Aside0.mk hcap
          clear hbw hbc hcap
          replace H1 := Aside0.mk (show HashAt wr g (List.replicate 1000000 97) from H1.out)
          have HkE := Aside0.mk (fun (W : World) => keyOf_calls ⟨#[101, 51, 98, 48, 99, 52, 52, 50, 57, 56, 102, 99, 49, 99, 49, 52, 57, 97, 102, 98, 102, 52, 99, 56, 57, 57, 54, 102, 98, 57, 50, 52, 50, 55, 97, 101, 52, 49, 101, 52, 54, 52, 57, 98, 57, 51, 52, 99, 97, 52, 57, 53, 57, 57, 49, 98, 55, 56, 53, 50, 98, 56, 53, 53]⟩ emptyL rfl 60 digitsE W)
          have HkA := Aside0.mk (fun (W : World) => keyOf_calls ⟨#[98, 97, 55, 56, 49, 54, 98, 102, 56, 102, 48, 49, 99, 102, 101, 97, 52, 49, 52, 49, 52, 48, 100, 101, 53, 100, 97, 101, 50, 50, 50, 51, 98, 48, 48, 51, 54, 49, 97, 51, 57, 54, 49, 55, 55, 97, 57, 99, 98, 52, 49, 48, 102, 102, 54, 49, 102, 50, 48, 48, 49, 53, 97, 100]⟩ abcL rfl 60 digitsA W)
          have HkL := Aside0.mk (fun (W : World) => keyOf_calls ⟨#[50, 52, 56, 100, 54, 97, 54, 49, 100, 50, 48, 54, 51, 56, 98, 56, 101, 53, 99, 48, 50, 54, 57, 51, 48, 99, 51, 101, 54, 48, 51, 57, 97, 51, 51, 99, 101, 52, 53, 57, 54, 52, 102, 102, 50, 49, 54, 55, 102, 54, 101, 99, 101, 100, 100, 52, 49, 57, 100, 98, 48, 54, 99, 49]⟩ longS rfl 60 digitsL W)
          have HkM := Aside0.mk (fun (W : World) => keyOf_calls ⟨#[99, 100, 99, 55, 54, 101, 53, 99, 57, 57, 49, 52, 102, 98, 57, 50, 56, 49, 97, 49, 99, 55, 101, 50, 56, 52, 100, 55, 51, 101, 54, 55, 102, 49, 56, 48, 57, 97, 52, 56, 97, 52, 57, 55, 50, 48, 48, 101, 48, 52, 54, 100, 51, 57, 99, 99, 99, 55, 49, 49, 50, 99, 100, 48]⟩ millionL rfl 60 digitsM W)
          have HsE := Aside0.mk (fun (W : World) (hT : Tab W) => (show Calls Tryd.prog 11 #[.slice none 0 0] W fun e w' => e = .returned (.agg (arr8 emptyL)) ∧ Below W.heap.size W w' from sum_empty ▸ sum_calls none 0 [] W (Kd.C_nil _ _) (Nat.le_refl 0) hT (by decide)))
          have HsA := Aside0.mk (fun (W : World) (hT : Tab W) => (show Calls Tryd.prog 11 #[.slice (some ⟨W.heap.size + 1, 0, none⟩) 1 1] ((W.alloc (.cells #[.int .u8 97, .int .u8 98, .int .u8 99] 5 (3, 4))).alloc (.cells #[.slice (some ⟨W.heap.size, 0, none⟩) 3 3] 22)) fun e w' => e = .returned (.agg (arr8 abcL)) ∧ Below ((W.alloc (.cells #[.int .u8 97, .int .u8 98, .int .u8 99] 5 (3, 4))).alloc (.cells #[.slice (some ⟨W.heap.size, 0, none⟩) 3 3] 22)).heap.size ((W.alloc (.cells #[.int .u8 97, .int .u8 98, .int .u8 99] 5 (3, 4))).alloc (.cells #[.slice (some ⟨W.heap.size, 0, none⟩) 3 3] 22)) w' from by
            have h_ := C_row1 (c1 := 3) (C_lit W [97, 98, 99] (3, 4) (by decide)) (by decide)
            rw [size_alloc1] at h_
            exact sum_abc ▸ sum_calls (some ⟨W.heap.size + 1, 0, none⟩) 1 [[97, 98, 99]] _ h_ (by decide) (hT.below (below_alloc (below_alloc (Below.refl _ _) _) _)) (by decide)))
          have HsL := Aside0.mk (fun (W : World) (hT : Tab W) => (show Calls Tryd.prog 11 #[.slice (some ⟨(bw W).heap.size, 0, none⟩) 1 1] ((bw W).alloc (.cells #[.slice (some ⟨W.heap.size, 0, none⟩) 56 (cap W)] 22)) fun e w' => e = .returned (.agg (arr8 longS)) ∧ Below ((bw W).alloc (.cells #[.slice (some ⟨W.heap.size, 0, none⟩) 56 (cap W)] 22)).heap.size ((bw W).alloc (.cells #[.slice (some ⟨W.heap.size, 0, none⟩) 56 (cap W)] 22)) w' from by
            have h_ := C_row1 (c1 := cap W) (l := longL) (HBC.out W) (HCAP.out W)
            have h2_ := sum_calls (some ⟨(bw W).heap.size, 0, none⟩) 1 [longL] _ h_ (Nat.le_refl 1) ((hT.below (HBW.out W)).below (below_alloc (Below.refl _ _) _)) (by decide)
            rw [show ([longL] : List (List Int)).flatten = longL by simp, sum_long] at h2_
            exact h2_))
          have HkM2 := Aside0.mk (fun (W : World) hH hT => (show Calls Tryd.prog 13 #[.pointer (some ⟨g, 0, none⟩)] W fun e w' => e = .returned (.agg (arr8 millionL)) ∧ Below W.heap.size W w' from sum_million ▸ key_calls g (List.replicate 1000000 97) W hH hT (by rw [List.length_replicate]; decide)))
          have hcv : ∀ (W : World) (C : Array Value) (n c : Nat), Sem.run Tryd.prog (convert 22 22 (.slice (some ⟨W.heap.size, 0, none⟩) n c)) (W.alloc (.cells C 5)) = .ok (.slice (some ⟨W.heap.size, 0, none⟩) n c) (W.alloc (.cells C 5 (C.size, C.size + 1))) := fun W C n c => Go.Lib.run_convert_bytes_const W 22 5 C n c Tryd.underlying22 (by kernel_rfl)
          have heqE : ∀ W : World, (Op.equalIn 10000 27 (.agg (arr8 emptyL)) (.agg (arr8 emptyL))).run Tryd.prog W = .ok true W := fun W => eq_key 9998 _ rfl W
          have heqA : ∀ W : World, (Op.equalIn 10000 27 (.agg (arr8 abcL)) (.agg (arr8 abcL))).run Tryd.prog W = .ok true W := fun W => eq_key 9998 _ rfl W
          have heqL : ∀ W : World, (Op.equalIn 10000 27 (.agg (arr8 longS)) (.agg (arr8 longS))).run Tryd.prog W = .ok true W := fun W => eq_key 9998 _ rfl W
          have heqM : ∀ W : World, (Op.equalIn 10000 27 (.agg (arr8 millionL)) (.agg (arr8 millionL))).run Tryd.prog W = .ok true W := fun W => eq_key 9998 _ rfl W
          generalize arr8 emptyL = ckE at HkE HsE heqE
          generalize arr8 abcL = ckA at HkA HsA heqA
          generalize arr8 longS = ckL at HkL HsL heqL
          generalize arr8 millionL = ckM at HkM HkM2 heqM
          generalize List.replicate 1000000 (97 : Int) = big at H1 HkM2
          clear HC1 HI
          go_wp2_with (first
            | (go_at_call 11; (with_reducible refine (HsE.out _ HT.out).mono ?_); rintro e w11 ⟨rfl, hb⟩; replace H1 := Aside0.mk (HashAt.below (by first | exact H1.out | exact H1.out.below (below_alloc (below_alloc (Below.refl _ _) _) _) | exact (H1.out.below (HBW.out _)).below (below_alloc (Below.refl _ _) _)) hb); replace HT := Aside0.mk (Tab.below (by first | exact HT.out | exact HT.out.below (below_alloc (below_alloc (Below.refl _ _) _) _) | exact (HT.out.below (HBW.out _)).below (below_alloc (Below.refl _ _) _)) hb); replace HB := Aside0.mk (below_step (by first | exact HB.out | exact below_alloc (below_alloc HB.out _) _ | exact below_alloc (below_step HB.out (HBW.out _)) _) hb); clear hb)
            | (go_at_call 11; (with_reducible refine (HsA.out _ HT.out).mono ?_); rintro e w12 ⟨rfl, hb⟩; replace H1 := Aside0.mk (HashAt.below (by first | exact H1.out | exact H1.out.below (below_alloc (below_alloc (Below.refl _ _) _) _) | exact (H1.out.below (HBW.out _)).below (below_alloc (Below.refl _ _) _)) hb); replace HT := Aside0.mk (Tab.below (by first | exact HT.out | exact HT.out.below (below_alloc (below_alloc (Below.refl _ _) _) _) | exact (HT.out.below (HBW.out _)).below (below_alloc (Below.refl _ _) _)) hb); replace HB := Aside0.mk (below_step (by first | exact HB.out | exact below_alloc (below_alloc HB.out _) _ | exact below_alloc (below_step HB.out (HBW.out _)) _) hb); clear hb)
            | (go_at_call 11; (with_reducible refine (HsL.out _ HT.out).mono ?_); rintro e w13 ⟨rfl, hb⟩; replace H1 := Aside0.mk (HashAt.below (by first | exact H1.out | exact H1.out.below (below_alloc (below_alloc (Below.refl _ _) _) _) | exact (H1.out.below (HBW.out _)).below (below_alloc (Below.refl _ _) _)) hb); replace HT := Aside0.mk (Tab.below (by first | exact HT.out | exact HT.out.below (below_alloc (below_alloc (Below.refl _ _) _) _) | exact (HT.out.below (HBW.out _)).below (below_alloc (Below.refl _ _) _)) hb); replace HB := Aside0.mk (below_step (by first | exact HB.out | exact below_alloc (below_alloc HB.out _) _ | exact below_alloc (below_step HB.out (HBW.out _)) _) hb); clear hb)
            | (go_at_call 12; (with_reducible refine (HkE.out _).mono ?_); rintro e w14 ⟨rfl, hb⟩; replace H1 := Aside0.mk (HashAt.below (by first | exact H1.out | exact H1.out.below (below_alloc (below_alloc (Below.refl _ _) _) _) | exact (H1.out.below (HBW.out _)).below (below_alloc (Below.refl _ _) _)) hb); replace HT := Aside0.mk (Tab.below (by first | exact HT.out | exact HT.out.below (below_alloc (below_alloc (Below.refl _ _) _) _) | exact (HT.out.below (HBW.out _)).below (below_alloc (Below.refl _ _) _)) hb); replace HB := Aside0.mk (below_step (by first | exact HB.out | exact below_alloc (below_alloc HB.out _) _ | exact below_alloc (below_step HB.out (HBW.out _)) _) hb); clear hb)
            | (go_at_call 12; (with_reducible refine (HkA.out _).mono ?_); rintro e w15 ⟨rfl, hb⟩; replace H1 := Aside0.mk (HashAt.below (by first | exact H1.out | exact H1.out.below (below_alloc (below_alloc (Below.refl _ _) _) _) | exact (H1.out.below (HBW.out _)).below (below_alloc (Below.refl _ _) _)) hb); replace HT := Aside0.mk (Tab.below (by first | exact HT.out | exact HT.out.below (below_alloc (below_alloc (Below.refl _ _) _) _) | exact (HT.out.below (HBW.out _)).below (below_alloc (Below.refl _ _) _)) hb); replace HB := Aside0.mk (below_step (by first | exact HB.out | exact below_alloc (below_alloc HB.out _) _ | exact below_alloc (below_step HB.out (HBW.out _)) _) hb); clear hb)
            | (go_at_call 12; (with_reducible refine (HkL.out _).mono ?_); rintro e w16 ⟨rfl, hb⟩; replace H1 := Aside0.mk (HashAt.below (by first | exact H1.out | exact H1.out.below (below_alloc (below_alloc (Below.refl _ _) _) _) | exact (H1.out.below (HBW.out _)).below (below_alloc (Below.refl _ _) _)) hb); replace HT := Aside0.mk (Tab.below (by first | exact HT.out | exact HT.out.below (below_alloc (below_alloc (Below.refl _ _) _) _) | exact (HT.out.below (HBW.out _)).below (below_alloc (Below.refl _ _) _)) hb); replace HB := Aside0.mk (below_step (by first | exact HB.out | exact below_alloc (below_alloc HB.out _) _ | exact below_alloc (below_step HB.out (HBW.out _)) _) hb); clear hb)
            | (go_at_call 12; (with_reducible refine (HkM.out _).mono ?_); rintro e w17 ⟨rfl, hb⟩; replace H1 := Aside0.mk (HashAt.below (by first | exact H1.out | exact H1.out.below (below_alloc (below_alloc (Below.refl _ _) _) _) | exact (H1.out.below (HBW.out _)).below (below_alloc (Below.refl _ _) _)) hb); replace HT := Aside0.mk (Tab.below (by first | exact HT.out | exact HT.out.below (below_alloc (below_alloc (Below.refl _ _) _) _) | exact (HT.out.below (HBW.out _)).below (below_alloc (Below.refl _ _) _)) hb); replace HB := Aside0.mk (below_step (by first | exact HB.out | exact below_alloc (below_alloc HB.out _) _ | exact below_alloc (below_step HB.out (HBW.out _)) _) hb); clear hb)
            | (go_at_call 13; (with_reducible refine (HkM2.out _ H1.out HT.out).mono ?_); rintro e w18 ⟨rfl, hb⟩; replace H1 := Aside0.mk (HashAt.below (by first | exact H1.out | exact H1.out.below (below_alloc (below_alloc (Below.refl _ _) _) _) | exact (H1.out.below (HBW.out _)).below (below_alloc (Below.refl _ _) _)) hb); replace HT := Aside0.mk (Tab.below (by first | exact HT.out | exact HT.out.below (below_alloc (below_alloc (Below.refl _ _) _) _) | exact (HT.out.below (HBW.out _)).below (below_alloc (Below.refl _ _) _)) hb); replace HB := Aside0.mk (below_step (by first | exact HB.out | exact below_alloc (below_alloc HB.out _) _ | exact below_alloc (below_step HB.out (HBW.out _)) _) hb); clear hb))

          go_ret
          exact ⟨rfl, HB.out⟩
end Go.Proofs.YthnmpkhjpfhloaaDoor.M
