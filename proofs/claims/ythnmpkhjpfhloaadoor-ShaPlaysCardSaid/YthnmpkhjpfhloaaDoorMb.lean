import Derived.Test.YthnmpkhjpfhloaaDoorProg
import Derived.Below
import Derived.Deep.Draws
import Derived.Deep.AppendLies
import Derived.Maps.AppendAt
import Derived.OwnWalk
import Derived.Laws.BytesArg
import Derived.Laws.MakeOwn
import Derived.Laws.OwnMore
import Derived.Deep.OwnRows
import Derived.Tactics
import Derived.Lib.ConvBytes
import Derived.Laws.Slices
import Derived.WalkKit
import Derived.KernelRfl
import Derived.RowKit3
import Derived.Deep.LoopGhost
import Derived.Deep.QuietTactic
import Derived.BigQuiet
import Derived.WideLaws
import Derived.Deep.DeepCutAuto
import Derived.Deep.CutBlock
import Derived.Deep.RegionHeld3
import Derived.Laws.Rows
import Derived.Lib.AppendStr
import Derived.ArgAppend
import Derived.Laws.IdiomCopy
import Derived.OrdersHeld
import Derived.Laws.BitsLemmas
import Derived.RowKit
import Derived.Test.YthnmpkhjpfhloaaDoorWWords
import Derived.Test.YthnmpkhjpfhloaaDoorWLast
import Derived.Test.YthnmpkhjpfhloaaDoorWTab
import Derived.Test.YthnmpkhjpfhloaaDoorWFour
import Derived.Test.YthnmpkhjpfhloaaDoorWQPut
import Derived.Test.YthnmpkhjpfhloaaDoorWApart
import Derived.Test.YthnmpkhjpfhloaaDoorWArr
import Derived.Test.YthnmpkhjpfhloaaDoorWZeros
import Derived.Test.YthnmpkhjpfhloaaDoorWFoot
import Derived.Test.YthnmpkhjpfhloaaDoorWKept
import Derived.Test.YthnmpkhjpfhloaaDoorWShare
import Derived.Test.YthnmpkhjpfhloaaDoorWN
import Derived.Test.YthnmpkhjpfhloaaDoorWFootNe
import Derived.Test.YthnmpkhjpfhloaaDoorWAt
import Derived.Test.YthnmpkhjpfhloaaDoorWEqStruct
import Derived.Test.YthnmpkhjpfhloaaDoorWRepsOne
import Derived.Test.YthnmpkhjpfhloaaDoorWInv
import Derived.Test.YthnmpkhjpfhloaaDoorWInvWords
import Derived.Test.YthnmpkhjpfhloaaDoorWGuard
import Derived.Test.YthnmpkhjpfhloaaDoorWNEv
import Derived.Test.YthnmpkhjpfhloaaDoorWMore
import Derived.Laws.BitsAllLaws
import Derived.StillTailTactics
import Derived.Test.YthnmpkhjpfhloaaDoorMs
import Derived.Deep.WholeRow
import Derived.Test.YthnmpkhjpfhloaaDoorMa
import Derived.Lib.SlBytesConst
namespace Go.Proofs.YthnmpkhjpfhloaaDoor.M
open Go.RowKit Go.Proofs.YthnmpkhjpfhloaaDoorW.PrintWords Go.Proofs.YthnmpkhjpfhloaaDoorW.PrintLast Go.Proofs.YthnmpkhjpfhloaaDoorW.PrintMore
set_option linter.unusedVariables false
set_option linter.unusedSimpArgs false
theorem HashAt.lt {w : World} {g : Nat} {m : List Int} (h : HashAt w g m) : g < w.heap.size := by
  obtain ⟨_, _, hb, _⟩ := h
  exact blk_lt hb
theorem HashAt.below {w w' : World} {g : Nat} {m : List Int} (h : HashAt w g m) (hb : Below w.heap.size w w') : HashAt w' g m := by
  obtain ⟨a, b, h1, h2⟩ := h
  exact ⟨a, b, blk_below h1 hb, h2⟩
theorem HashAt.but {w w' : World} {g g' : Nat} {m : List Int} (h : HashAt w g m) (hb : But g' w w') (hne : g ≠ g') : HashAt w' g m := by
  obtain ⟨a, b, h1, h2⟩ := h
  exact ⟨a, b, (hb.block _ (blk_lt h1) hne).trans h1, h2⟩
theorem C_lit (W : World) (l : List Int) (fr : Nat × Nat) (hl : l.length ≤ 9223372036854775807) : (Kd.int .u8).C (W.alloc (.cells (arr8 l) 5 fr)) (some ⟨W.heap.size, 0, none⟩) l.length l := by
  refine ⟨rfl, hl, fun _ => ⟨_, rfl, fun j p hp => ⟨[.int .u8 p], rfl, rfl, fun i u hu => ?_⟩⟩⟩
  have hj : j < l.length := by
    by_cases hj : j < l.length
    · exact hj
    · rw [List.getElem?_eq_none (by omega)] at hp; cases hp
  match i, hu with
  | 0, hu =>
    have hu' : Value.int .u8 p = u := by simpa using hu
    subst hu'
    have h1 : (W.alloc (.cells (arr8 l) 5 fr)).cell? ⟨W.heap.size, j, none⟩ = some (.int .u8 (l.getD j 0)) := by
      rw [cell_of_row _ _ j (arr8 l) 5 fr (heap_alloc_new W (.cells (arr8 l) 5 fr)), arr8_get l j hj]
    have e : (⟨W.heap.size, 0, none⟩ : Addr).add (j * 1 + 0) = ⟨W.heap.size, j, none⟩ := by unfold Addr.add; split <;> simp_all
    show (W.alloc (.cells (arr8 l) 5 fr)).cell? ((⟨W.heap.size, 0, none⟩ : Addr).add (j * 1 + 0)) = _
    rw [e, h1, List.getD_eq_getElem?_getD, hp]
    rfl
  | i + 1, hu => simp at hu
/-- A row of one row. -/
theorem C_row1 {W : World} {A1 : Option Addr} {c1 : Nat} {l : List Int} (h : (Kd.int .u8).C W A1 l.length l) (hc : l.length ≤ c1) : (Kd.slice 5 (Kd.int .u8)).C (W.alloc (.cells #[.slice A1 l.length c1] 22)) (some ⟨W.heap.size, 0, none⟩) 1 [l] := by
  refine ⟨rfl, by decide, fun _ => ⟨_, rfl, fun j p hp => ⟨[.slice A1 l.length c1], rfl, ?_, fun i u hu => ?_⟩⟩⟩
  · match j, hp with
    | 0, hp =>
      have hp' : l = p := by simpa using hp
      subst hp'
      exact ⟨A1, c1, rfl, hc, Kd.C_below h (below_alloc (Below.refl _ _) _)⟩
    | j + 1, hp => simp at hp
  · match j, hp, i, hu with
    | 0, hp, 0, hu =>
      have hu' : Value.slice A1 l.length c1 = u := by simpa using hu
      subst hu'
      have h1 := blk_cell (heap_alloc_new W (.cells #[.slice A1 l.length c1] 22)) 0
      show (W.alloc (.cells #[.slice A1 l.length c1] 22)).cell? ((⟨W.heap.size, 0, none⟩ : Addr).add (0 * 1 + 0)) = _
      rw [show (⟨W.heap.size, 0, none⟩ : Addr).add (0 * 1 + 0) = ⟨W.heap.size, 0, none⟩ from rfl, h1]
      rfl
    | 0, hp, i + 1, hu => simp at hu
    | j + 1, hp, i, hu => simp at hp
set_option maxHeartbeats 8000000 in
set_option maxRecDepth 100000 in
set_option pp.deepTerms true in
set_option pp.maxSteps 1000000 in
theorem told_calls (w : World) (hT : Tab w) : Calls Tryd.prog 14 #[] w fun e w' => e = .returned (.bool true) ∧ Below w.heap.size w w' := by
  have HT := Aside0.mk hT
  have HB := Aside0.mk (Below.refl w.heap.size w)
  have HZ := Aside0.mk (show w.heap.size ≠ 0 by have h_ := World.block_lt_of_cell? w _ (hT 0 (by decide)); intro e; rw [e] at h_; exact Nat.not_lt_zero _ h_)
  clear hT
  have heq : ∀ l : List Int, l.length = 32 → ∀ W : World, (Op.equalIn 10000 27 (.agg (arr8 l)) (.agg (arr8 l))).run Tryd.prog W = .ok true W := fun l hl W => eq_key 9998 l hl W
  have heq1 := heq abcL rfl
  have heq2 := heq (sumL [97, 98]) (sumL_len _)
  have Hk1 := Aside0.mk (fun (g : Nat) (W : World) hH hT => sum_abc ▸ key_calls g [97, 98, 99] W hH hT (by decide))
  have Hk2 := Aside0.mk (fun (g : Nat) (W : World) hH hT => key_calls g [97, 98] W hH hT (by decide))
  have Hs := Aside0.mk (fun (A : Option Addr) (c : Nat) (W : World) hC hc hT => sum_abc ▸ sum_calls A c [[97, 98, 99]] W hC hc hT (by decide))
  have Hr := Aside0.mk (fun (A : Option Addr) (c : Nat) (W : World) hC hc => refSum_calls A c [97, 98] W hC (by decide) hc)
  have Ha := Aside0.mk (fun (W : World) => abc_calls W)
  clear heq
  generalize arr8 abcL = ck at heq1 Hk1 Hs Ha
  generalize arr8 (sumL [97, 98]) = ck2 at heq2 Hk2 Hr
  have Hw1 := Aside0.mk (fun (g : Nat) (ad : Addr) (W : World) (hH : HashAt W g []) (hC : Kd.C (Kd.int .u8) W (some ad) 2 [97, 98]) (hne : ad.block ≠ g) (hT : Tab W) (hg : g ≠ 0) => (show Calls Tryd.prog 10 #[.pointer (some ⟨g, 0, none⟩), .slice (some ad) 2 2] W fun e w' => (∃ v, e = .returned v) ∧ HashAt w' g ([] ++ [97, 98]) ∧ But g W w' from write_calls g (some ad) 2 [] [97, 98] W hH hC (fun _ a e => by have e2 := Option.some.inj e; subst e2; exact hne) (by decide) hT hg (by decide)))
  have Hw2 := Aside0.mk (fun (g : Nat) (ad : Addr) (W : World) (hH : HashAt W g [97, 98]) (hC : Kd.C (Kd.int .u8) W (some ad) 1 [99]) (hne : ad.block ≠ g) (hT : Tab W) (hg : g ≠ 0) => (show Calls Tryd.prog 10 #[.pointer (some ⟨g, 0, none⟩), .slice (some ad) 1 1] W fun e w' => (∃ v, e = .returned v) ∧ HashAt w' g ([97, 98] ++ [99]) ∧ But g W w' from write_calls g (some ad) 1 [97, 98] [99] W hH hC (fun _ a e => by have e2 := Option.some.inj e; subst e2; exact hne) (by decide) hT hg (by decide)))
  have Hs1 := Aside0.mk (fun (W : World) (hT : Tab W) => (show Calls Tryd.prog 11 #[.slice (some ⟨W.heap.size + 1, 0, none⟩) 1 1] ((W.alloc (.cells #[.int .u8 97, .int .u8 98, .int .u8 99] 5 (3, 4))).alloc (.cells #[.slice (some ⟨W.heap.size, 0, none⟩) 3 3] 22)) fun e w' => e = .returned (.agg ck) ∧ Below ((W.alloc (.cells #[.int .u8 97, .int .u8 98, .int .u8 99] 5 (3, 4))).alloc (.cells #[.slice (some ⟨W.heap.size, 0, none⟩) 3 3] 22)).heap.size ((W.alloc (.cells #[.int .u8 97, .int .u8 98, .int .u8 99] 5 (3, 4))).alloc (.cells #[.slice (some ⟨W.heap.size, 0, none⟩) 3 3] 22)) w' from by
    have h_ := C_row1 (c1 := 3) (C_lit W [97, 98, 99] (3, 4) (by decide)) (by decide)
    rw [size_alloc1] at h_
    exact Hs.out (some ⟨W.heap.size + 1, 0, none⟩) 1 _ h_ (by decide) (hT.below (below_alloc (below_alloc (Below.refl _ _) _) _))))
  have Hr1 := Aside0.mk (fun (ad : Addr) (W : World) hC => (show Calls Tryd.prog 16 #[.slice (some ad) 2 2] W fun e w' => e = .returned (.agg ck2) ∧ Below W.heap.size W w' from Hr.out (some ad) 2 W hC (by decide)))
  have Hl1 := Aside0.mk (fun (g : Nat) (W : World) hH => (show Calls Tryd.prog 22 #[.pointer (some ⟨g, 0, none⟩)] W fun e w' => e = .returned (.int .i64 3) ∧ w' = W from len_calls g [97, 98, 99] W hH))
  have Hl2 := Aside0.mk (fun (g : Nat) (W : World) hH => (show Calls Tryd.prog 22 #[.pointer (some ⟨g, 0, none⟩)] W fun e w' => e = .returned (.int .i64 2) ∧ w' = W from len_calls g [97, 98] W hH))
  clear Hs Hr
  have hcv : ∀ (W : World) (C : Array Value) (n c : Nat), Sem.run Tryd.prog (convert 22 22 (.slice (some ⟨W.heap.size, 0, none⟩) n c)) (W.alloc (.cells C 5)) = .ok (.slice (some ⟨W.heap.size, 0, none⟩) n c) (W.alloc (.cells C 5 (C.size, C.size + 1))) := fun W C n c => Go.Lib.run_convert_bytes_const W 22 5 C n c Tryd.underlying22 (by kernel_rfl)
  go_enter Tryd.func14, Tryd.ntmps14
  go_wp2_with (first
    | (go_at_call 9; (with_reducible refine (new_calls _).mono ?_); rintro e w1 ⟨g1, rfl, hg, hH, hb⟩; have H1 := Aside0.mk hH; have HG := Aside0.mk hg; clear hH hg; replace HT := Aside0.mk (Tab.below (by first | exact HT.out | exact HT.out.below (below_alloc (Below.refl _ _) _) | exact HT.out.below (below_alloc (below_alloc (Below.refl _ _) _) _) | exact HT.out.below (below_alloc (below_alloc (below_alloc (Below.refl _ _) _) _) _)) hb); replace HB := Aside0.mk (below_step (by first | exact HB.out | exact below_alloc HB.out _ | exact below_alloc (below_alloc HB.out _) _ | exact below_alloc (below_alloc (below_alloc HB.out _) _) _) hb); clear hb)
    | (go_at_call 10; ((with_reducible refine (Hw1.out g1 _ _ ?hH ?hC ?hne ?hT ?hg).mono ?_); (case hH => exact (by first | exact H1.out | exact H1.out.below (below_alloc (Below.refl _ _) _) | exact H1.out.below (below_alloc (below_alloc (Below.refl _ _) _) _) | exact H1.out.below (below_alloc (below_alloc (below_alloc (Below.refl _ _) _) _) _))); (case hC => exact C_lit _ [97, 98] (2, 3) (by decide)); (case hT => exact (by first | exact HT.out | exact HT.out.below (below_alloc (Below.refl _ _) _) | exact HT.out.below (below_alloc (below_alloc (Below.refl _ _) _) _) | exact HT.out.below (below_alloc (below_alloc (below_alloc (Below.refl _ _) _) _) _))); (case hg => exact (by have := HG.out; have := HZ.out; omega)); (case hne => have := H1.out.lt; show _ ≠ g1; simp only []; omega); rintro e w2 ⟨⟨v2, rfl⟩, hH, hbut⟩; replace H1 := Aside0.mk (show HashAt w2 g1 [97, 98] from hH); replace HT := Aside0.mk (hbut.tab (by first | exact HT.out | exact HT.out.below (below_alloc (Below.refl _ _) _) | exact HT.out.below (below_alloc (below_alloc (Below.refl _ _) _) _) | exact HT.out.below (below_alloc (below_alloc (below_alloc (Below.refl _ _) _) _) _)) (by have := HG.out; have := HZ.out; omega)); replace HB := Aside0.mk (But.below (by first | exact HB.out | exact below_alloc HB.out _ | exact below_alloc (below_alloc HB.out _) _ | exact below_alloc (below_alloc (below_alloc HB.out _) _) _) hbut (by have := HG.out; omega)); clear hH hbut))
    | (go_at_call 23; (with_reducible refine (copy_calls g1 [97, 98] _ ?hH).mono ?_); (case hH => exact (by first | exact H1.out | exact H1.out.below (below_alloc (Below.refl _ _) _) | exact H1.out.below (below_alloc (below_alloc (Below.refl _ _) _) _) | exact H1.out.below (below_alloc (below_alloc (below_alloc (Below.refl _ _) _) _) _))); rintro e w3 ⟨g2, rfl, hg2, hH, hb⟩; have HNE := Aside0.mk (show g2 ≠ g1 by have := H1.out.lt; omega); have H2 := Aside0.mk hH; clear hH hg2; replace H1 := Aside0.mk (HashAt.below (by first | exact H1.out | exact H1.out.below (below_alloc (Below.refl _ _) _) | exact H1.out.below (below_alloc (below_alloc (Below.refl _ _) _) _) | exact H1.out.below (below_alloc (below_alloc (below_alloc (Below.refl _ _) _) _) _)) hb); replace HT := Aside0.mk (Tab.below (by first | exact HT.out | exact HT.out.below (below_alloc (Below.refl _ _) _) | exact HT.out.below (below_alloc (below_alloc (Below.refl _ _) _) _) | exact HT.out.below (below_alloc (below_alloc (below_alloc (Below.refl _ _) _) _) _)) hb); replace HB := Aside0.mk (below_step (by first | exact HB.out | exact below_alloc HB.out _ | exact below_alloc (below_alloc HB.out _) _ | exact below_alloc (below_alloc (below_alloc HB.out _) _) _) hb); clear hb)
    | (go_at_call 10; (with_reducible refine (Hw2.out g1 _ _ ?hH ?hC ?hne ?hT ?hg).mono ?_); (case hH => exact (by first | exact H1.out | exact H1.out.below (below_alloc (Below.refl _ _) _) | exact H1.out.below (below_alloc (below_alloc (Below.refl _ _) _) _) | exact H1.out.below (below_alloc (below_alloc (below_alloc (Below.refl _ _) _) _) _))); (case hC => exact C_lit _ [99] (1, 2) (by decide)); (case hT => exact (by first | exact HT.out | exact HT.out.below (below_alloc (Below.refl _ _) _) | exact HT.out.below (below_alloc (below_alloc (Below.refl _ _) _) _) | exact HT.out.below (below_alloc (below_alloc (below_alloc (Below.refl _ _) _) _) _))); (case hg => exact (by have := HG.out; have := HZ.out; omega)); (case hne => have := H1.out.lt; show _ ≠ g1; simp only []; omega); rintro e w4 ⟨⟨v4, rfl⟩, hH, hbut⟩; replace H1 := Aside0.mk (show HashAt w4 g1 [97, 98, 99] from hH); replace H2 := Aside0.mk (HashAt.but (by first | exact H2.out | exact H2.out.below (below_alloc (Below.refl _ _) _) | exact H2.out.below (below_alloc (below_alloc (Below.refl _ _) _) _) | exact H2.out.below (below_alloc (below_alloc (below_alloc (Below.refl _ _) _) _) _)) hbut HNE.out); replace HT := Aside0.mk (hbut.tab (by first | exact HT.out | exact HT.out.below (below_alloc (Below.refl _ _) _) | exact HT.out.below (below_alloc (below_alloc (Below.refl _ _) _) _) | exact HT.out.below (below_alloc (below_alloc (below_alloc (Below.refl _ _) _) _) _)) (by have := HG.out; have := HZ.out; omega)); replace HB := Aside0.mk (But.below (by first | exact HB.out | exact below_alloc HB.out _ | exact below_alloc (below_alloc HB.out _) _ | exact below_alloc (below_alloc (below_alloc HB.out _) _) _) hbut (by have := HG.out; omega)); clear hH hbut)
    | (go_at_call 11; (with_reducible refine (Hs1.out _ HT.out).mono ?_); rintro e w5 ⟨rfl, hb⟩; replace H1 := Aside0.mk (HashAt.below (by first | exact H1.out | exact H1.out.below (below_alloc (Below.refl _ _) _) | exact H1.out.below (below_alloc (below_alloc (Below.refl _ _) _) _) | exact H1.out.below (below_alloc (below_alloc (below_alloc (Below.refl _ _) _) _) _)) hb); replace H2 := Aside0.mk (HashAt.below (by first | exact H2.out | exact H2.out.below (below_alloc (Below.refl _ _) _) | exact H2.out.below (below_alloc (below_alloc (Below.refl _ _) _) _) | exact H2.out.below (below_alloc (below_alloc (below_alloc (Below.refl _ _) _) _) _)) hb); replace HT := Aside0.mk (Tab.below (by first | exact HT.out | exact HT.out.below (below_alloc (Below.refl _ _) _) | exact HT.out.below (below_alloc (below_alloc (Below.refl _ _) _) _) | exact HT.out.below (below_alloc (below_alloc (below_alloc (Below.refl _ _) _) _) _)) hb); replace HB := Aside0.mk (below_step (by first | exact HB.out | exact below_alloc HB.out _ | exact below_alloc (below_alloc HB.out _) _ | exact below_alloc (below_alloc (below_alloc HB.out _) _) _) hb); clear hb)
    | (go_at_call 27; (with_reducible refine (Ha.out _).mono ?_); rintro e w5 ⟨rfl, hb⟩; replace H1 := Aside0.mk (HashAt.below (by first | exact H1.out | exact H1.out.below (below_alloc (Below.refl _ _) _) | exact H1.out.below (below_alloc (below_alloc (Below.refl _ _) _) _) | exact H1.out.below (below_alloc (below_alloc (below_alloc (Below.refl _ _) _) _) _)) hb); replace H2 := Aside0.mk (HashAt.below (by first | exact H2.out | exact H2.out.below (below_alloc (Below.refl _ _) _) | exact H2.out.below (below_alloc (below_alloc (Below.refl _ _) _) _) | exact H2.out.below (below_alloc (below_alloc (below_alloc (Below.refl _ _) _) _) _)) hb); replace HT := Aside0.mk (Tab.below (by first | exact HT.out | exact HT.out.below (below_alloc (Below.refl _ _) _) | exact HT.out.below (below_alloc (below_alloc (Below.refl _ _) _) _) | exact HT.out.below (below_alloc (below_alloc (below_alloc (Below.refl _ _) _) _) _)) hb); replace HB := Aside0.mk (below_step (by first | exact HB.out | exact below_alloc HB.out _ | exact below_alloc (below_alloc HB.out _) _ | exact below_alloc (below_alloc (below_alloc HB.out _) _) _) hb); clear hb)
    | (go_at_call 13; (with_reducible refine (Hk1.out g1 _ ?hH ?hT).mono ?_); (case hH => exact (by first | exact H1.out | exact H1.out.below (below_alloc (Below.refl _ _) _) | exact H1.out.below (below_alloc (below_alloc (Below.refl _ _) _) _) | exact H1.out.below (below_alloc (below_alloc (below_alloc (Below.refl _ _) _) _) _))); (case hT => exact (by first | exact HT.out | exact HT.out.below (below_alloc (Below.refl _ _) _) | exact HT.out.below (below_alloc (below_alloc (Below.refl _ _) _) _) | exact HT.out.below (below_alloc (below_alloc (below_alloc (Below.refl _ _) _) _) _))); rintro e w5 ⟨rfl, hb⟩; replace H1 := Aside0.mk (HashAt.below (by first | exact H1.out | exact H1.out.below (below_alloc (Below.refl _ _) _) | exact H1.out.below (below_alloc (below_alloc (Below.refl _ _) _) _) | exact H1.out.below (below_alloc (below_alloc (below_alloc (Below.refl _ _) _) _) _)) hb); replace H2 := Aside0.mk (HashAt.below (by first | exact H2.out | exact H2.out.below (below_alloc (Below.refl _ _) _) | exact H2.out.below (below_alloc (below_alloc (Below.refl _ _) _) _) | exact H2.out.below (below_alloc (below_alloc (below_alloc (Below.refl _ _) _) _) _)) hb); replace HT := Aside0.mk (Tab.below (by first | exact HT.out | exact HT.out.below (below_alloc (Below.refl _ _) _) | exact HT.out.below (below_alloc (below_alloc (Below.refl _ _) _) _) | exact HT.out.below (below_alloc (below_alloc (below_alloc (Below.refl _ _) _) _) _)) hb); replace HB := Aside0.mk (below_step (by first | exact HB.out | exact below_alloc HB.out _ | exact below_alloc (below_alloc HB.out _) _ | exact below_alloc (below_alloc (below_alloc HB.out _) _) _) hb); clear hb)
    | (go_at_call 13; (with_reducible refine (Hk2.out g2 _ ?hH ?hT).mono ?_); (case hH => exact (by first | exact H2.out | exact H2.out.below (below_alloc (Below.refl _ _) _) | exact H2.out.below (below_alloc (below_alloc (Below.refl _ _) _) _) | exact H2.out.below (below_alloc (below_alloc (below_alloc (Below.refl _ _) _) _) _))); (case hT => exact (by first | exact HT.out | exact HT.out.below (below_alloc (Below.refl _ _) _) | exact HT.out.below (below_alloc (below_alloc (Below.refl _ _) _) _) | exact HT.out.below (below_alloc (below_alloc (below_alloc (Below.refl _ _) _) _) _))); rintro e w5 ⟨rfl, hb⟩; replace H1 := Aside0.mk (HashAt.below (by first | exact H1.out | exact H1.out.below (below_alloc (Below.refl _ _) _) | exact H1.out.below (below_alloc (below_alloc (Below.refl _ _) _) _) | exact H1.out.below (below_alloc (below_alloc (below_alloc (Below.refl _ _) _) _) _)) hb); replace H2 := Aside0.mk (HashAt.below (by first | exact H2.out | exact H2.out.below (below_alloc (Below.refl _ _) _) | exact H2.out.below (below_alloc (below_alloc (Below.refl _ _) _) _) | exact H2.out.below (below_alloc (below_alloc (below_alloc (Below.refl _ _) _) _) _)) hb); replace HT := Aside0.mk (Tab.below (by first | exact HT.out | exact HT.out.below (below_alloc (Below.refl _ _) _) | exact HT.out.below (below_alloc (below_alloc (Below.refl _ _) _) _) | exact HT.out.below (below_alloc (below_alloc (below_alloc (Below.refl _ _) _) _) _)) hb); replace HB := Aside0.mk (below_step (by first | exact HB.out | exact below_alloc HB.out _ | exact below_alloc (below_alloc HB.out _) _ | exact below_alloc (below_alloc (below_alloc HB.out _) _) _) hb); clear hb)
    | (go_at_call 22; (with_reducible refine (Hl1.out g1 _ ?hH).mono ?_); (case hH => exact (by first | exact H1.out | exact H1.out.below (below_alloc (Below.refl _ _) _) | exact H1.out.below (below_alloc (below_alloc (Below.refl _ _) _) _) | exact H1.out.below (below_alloc (below_alloc (below_alloc (Below.refl _ _) _) _) _))); rintro e w5 ⟨rfl, rfl⟩)
    | (go_at_call 22; (with_reducible refine (Hl2.out g2 _ ?hH).mono ?_); (case hH => exact (by first | exact H2.out | exact H2.out.below (below_alloc (Below.refl _ _) _) | exact H2.out.below (below_alloc (below_alloc (Below.refl _ _) _) _) | exact H2.out.below (below_alloc (below_alloc (below_alloc (Below.refl _ _) _) _) _))); rintro e w5 ⟨rfl, rfl⟩)
    | (go_at_call 16; (with_reducible refine (Hr1.out _ _ ?hC).mono ?_); (case hC => exact C_lit _ [97, 98] (2, 3) (by decide)); rintro e w5 ⟨rfl, hb⟩; replace H1 := Aside0.mk (HashAt.below (by first | exact H1.out | exact H1.out.below (below_alloc (Below.refl _ _) _) | exact H1.out.below (below_alloc (below_alloc (Below.refl _ _) _) _) | exact H1.out.below (below_alloc (below_alloc (below_alloc (Below.refl _ _) _) _) _)) hb); replace H2 := Aside0.mk (HashAt.below (by first | exact H2.out | exact H2.out.below (below_alloc (Below.refl _ _) _) | exact H2.out.below (below_alloc (below_alloc (Below.refl _ _) _) _) | exact H2.out.below (below_alloc (below_alloc (below_alloc (Below.refl _ _) _) _) _)) hb); replace HT := Aside0.mk (Tab.below (by first | exact HT.out | exact HT.out.below (below_alloc (Below.refl _ _) _) | exact HT.out.below (below_alloc (below_alloc (Below.refl _ _) _) _) | exact HT.out.below (below_alloc (below_alloc (below_alloc (Below.refl _ _) _) _) _)) hb); replace HB := Aside0.mk (below_step (by first | exact HB.out | exact below_alloc HB.out _ | exact below_alloc (below_alloc HB.out _) _ | exact below_alloc (below_alloc (below_alloc HB.out _) _) _) hb); clear hb)
    )
  go_ret
  exact ⟨rfl, HB.out⟩
end Go.Proofs.YthnmpkhjpfhloaaDoor.M
