import Derived.Test.YthnmpkhjpfhloaaDoorProg
import Derived.Below
import Derived.Deep.Draws
import Derived.Deep.AppendLies
import Derived.Maps.AppendAt
import Derived.OwnWalk
import Derived.Laws.BytesArg
import Derived.Laws.MakeOwn
import Derived.Laws.OwnMore
import Derived.Deep.OwnRows
import Derived.Tactics
import Derived.Lib.ConvBytes
import Derived.Laws.Slices
import Derived.WalkKit
import Derived.KernelRfl
import Derived.RowKit3
import Derived.Deep.LoopGhost
import Derived.Deep.QuietTactic
import Derived.BigQuiet
import Derived.WideLaws
import Derived.Deep.DeepCutAuto
import Derived.Deep.CutBlock
import Derived.Deep.RegionHeld3
import Derived.Laws.Rows
import Derived.Lib.AppendStr
import Derived.ArgAppend
import Derived.Laws.IdiomCopy
import Derived.OrdersHeld
import Derived.Laws.BitsLemmas
import Derived.RowKit
import Derived.Test.YthnmpkhjpfhloaaDoorWWords
import Derived.Test.YthnmpkhjpfhloaaDoorWLast
import Derived.Test.YthnmpkhjpfhloaaDoorWTab
import Derived.Test.YthnmpkhjpfhloaaDoorWFour
import Derived.Test.YthnmpkhjpfhloaaDoorWQPut
import Derived.Test.YthnmpkhjpfhloaaDoorWApart
import Derived.Test.YthnmpkhjpfhloaaDoorWArr
import Derived.Test.YthnmpkhjpfhloaaDoorWZeros
import Derived.Test.YthnmpkhjpfhloaaDoorWFoot
import Derived.Test.YthnmpkhjpfhloaaDoorWKept
import Derived.Test.YthnmpkhjpfhloaaDoorWShare
import Derived.Test.YthnmpkhjpfhloaaDoorWN
import Derived.Test.YthnmpkhjpfhloaaDoorWFootNe
import Derived.Test.YthnmpkhjpfhloaaDoorWAt
import Derived.Test.YthnmpkhjpfhloaaDoorWEqStruct
import Derived.Test.YthnmpkhjpfhloaaDoorWRepsOne
import Derived.Test.YthnmpkhjpfhloaaDoorWInv
import Derived.Test.YthnmpkhjpfhloaaDoorWInvWords
import Derived.Test.YthnmpkhjpfhloaaDoorWGuard
import Derived.Test.YthnmpkhjpfhloaaDoorWNEv
import Derived.Test.YthnmpkhjpfhloaaDoorWMore
import Derived.Laws.BitsAllLaws
import Derived.StillTailTactics
import Derived.Test.YthnmpkhjpfhloaaDoorMs
import Derived.Deep.WholeRow
import Derived.Test.YthnmpkhjpfhloaaDoorOa
namespace Go.Proofs.YthnmpkhjpfhloaaDoor.M
open Go.RowKit Go.Proofs.YthnmpkhjpfhloaaDoorW.PrintWords Go.Proofs.YthnmpkhjpfhloaaDoorW.PrintLast Go.Proofs.YthnmpkhjpfhloaaDoorW.PrintMore Go.Proofs.YthnmpkhjpfhloaaDoor.P
set_option linter.unusedVariables false
set_option linter.unusedSimpArgs false
set_option maxHeartbeats 8000000 in
set_option maxRecDepth 100000 in
set_option pp.deepTerms true in
set_option pp.maxSteps 1000000 in
theorem parts_calls (A0 : Option Addr) (c0 : Nat) (l : List (List Int)) (w : World) (hC : (Kd.slice 5 (Kd.int .u8)).C w A0 l.length l) (hc : l.length ≤ c0) :
    Calls Tryd.prog 15 #[.slice A0 l.length c0] w fun e w' => ∃ (v4 v5 : Value) (ps qs : List Piece), e = .returned (.tuple #[v4, v5]) ∧ Two w v4 v5 ps qs w' ∧ ps.map Piece.l = qs.map Piece.l ∧ total ps ≤ 70000 ∧ ps.length ≤ 40 := by
  have HC := Aside0.mk hC
  have HCC := Aside0.mk hc
  have HCL := Aside0.mk hC.2.1
  have HS := Aside0.mk (show Two w (.slice none 0 0) (.slice none 0 0) [] [] w from ⟨Kd.R_nil _ _ _ _ _, Kd.R_nil _ _ _ _ _, fun k hk => (by cases hk), fun p hp => (by cases hp), fun p hp => (by cases hp), Below.refl _ _⟩)
  have HM := Aside0.mk (show min l.length 40 ≤ 40 from Nat.min_le_right _ _)
  generalize hMM : min l.length 40 = M at *
  have HMM := Aside0.mk hMM
  clear hMM hC hc
  go_enter Tryd.func15, Tryd.ntmps15
  go_wp2
  go_loopg [4, 5, 6, 7] M (fun k v4 v5 v6 v7 wr => ∃ (ps qs : List Piece) (left i : Nat), v6 = .int .i64 left ∧ v7 = .int .i64 i ∧ Aside0 (i + k = M) ∧ Aside0 (ps.length = i) ∧ Aside0 (left + total ps = 70000) ∧ Aside0 (ps.map Piece.l = qs.map Piece.l) ∧ Aside0 (Two w v4 v5 ps qs wr))
  case atStart => exact ⟨[], [], 70000, 0, rfl, rfl, ⟨Nat.zero_add _⟩, ⟨rfl⟩, ⟨rfl⟩, ⟨rfl⟩, HS⟩
  case round =>
    clear HS
    obtain ⟨ps, qs, left, i, rfl, rfl, HI, HPL, HLE, HSM, HS⟩ := hrel
    by_cases hi : i < M
    · have HIM := Aside0.mk hi
      have hi1 : (i : Int) < (l.length : Int) := by have := HMM.out; omega
      have hi2 : (i : Int) < 40 := by have := HM.out; omega
      have hiw : wrap64 ((i : Int) + 1) = ((i + 1 : Nat) : Int) := by have := HM.out; unfold wrap64; omega
      obtain ⟨ad, A1, c1, rfl, hx, hc1, hC1⟩ := row_at HC.out i (by have := HMM.out; omega)
      have hxr : wr.cell? (ad.add i) = some (.slice A1 (l.getD i []).length c1) := (HS.out.bel.cell (World.block_lt_of_cell? w _ hx)).trans hx
      generalize l.getD i [] = b0 at hxr hc1 hC1
      have Hcut := Aside0.mk (cut_at A1 b0 c1 left hc1)
      have HCb := Aside0.mk (show Kd.C (Kd.int .u8) w A1 (b0.take left).length (b0.take left) by
        by_cases h : b0.length ≤ left
        · rw [List.take_of_length_le h]; exact hC1
        · exact Kd.C_take hC1 (by omega))
      have HLb := Aside0.mk (show (b0.take left).length ≤ left ∧ (b0.take left).length ≤ c1 by rw [List.length_take]; omega)
      have HLL := Aside0.mk (show left ≤ 70000 by have := HLE.out; omega)
      clear hi hx hc1 hC1
      have hb0 : b0.length = b0.length := rfl
      generalize b0.take left = b at *
      have hlw : wrap64 ((left : Int) - (b.length : Int)) = ((left - b.length : Nat) : Int) := by have := HLb.out; have := HLL.out; unfold wrap64; omega
      have Hlaid := Aside0.mk (fun (W : World) (hB : Below w.heap.size w W) => laid_calls A1 c1 b W (Kd.C_below HCb.out hB) HLb.out.2 (by have := HLb.out; have := HLL.out; omega))
      go_wp2_with (first
        | (go_at_call 20; (with_reducible refine (Hcut.out _).mono ?_); rintro e w3 ⟨rfl, hw_⟩; subst hw_)
        | (go_at_call 21; (with_reducible refine (Hlaid.out _ HS.out.bel).mono ?_); rintro e w4 ⟨A6, c6, rfl, hr, hb⟩; have HWS := Aside0.mk HS.out.bel.size; replace HS := Aside0.mk (HS.out.below hb); have HR := Aside0.mk (show RoomP w.heap.size ⟨A6, c6, b⟩ w4 from by obtain ⟨gi, ci, e6, _⟩ := Kd.R_form hr (by rw [List.length_append, marks_len]; omega); cases e6; exact ⟨gi, rfl, Kd.R_lower hr HWS.out⟩); clear hb hr)
        | ((with_reducible refine gate_builtin (b := .append) (xs := #[.tmp 29, .tmp 32]) rfl ?_); at_builtin; refine Kd.R_append KP (w0 := w) w.heap.size rfl (.tmp 29) (.tmp 32) 32 22 (.slice none 0 0) 24 rfl Tryd.underlying32 info22 rfl (by decide) (by decide) (u4) ps (⟨A6, c6, b⟩ : Piece) [.slice A6 b.length c6] (fun _ => True) (fun _ => False) rfl rfl rfl (fun _ hk => hk.elim) (fun k hk => trivial) HS.out.out HS.out.bel HS.out.bel.size (by have := HPL.out; have := HM.out; have := HIM.out; omega) ?_; intro v4 w5 ho hb hg hat; replace HS := Aside0.mk (HS.out.grow4 ho hb hg hat HR.out); clear HR ho hb hg hat)
        | ((with_reducible refine gate_builtin (b := .append) (xs := #[.const (.slice none 0 0), .tmp 35]) rfl ?_); (try (refine gate_guard (by rfl) ?_; dsimp only)); at_builtin; refine Kd.R_append_rows (Kd.int .u8) (w0 := w) w.heap.size rfl (.const (.slice none 0 0)) (.tmp 35) 22 5 (.int .u8 0) 1 rfl Tryd.underlying22 P.info5 rfl (by decide) (by omega) (.slice none 0 0) ([] : List Int) b A1 b.length c1 (fun _ => True) (fun _ => False) rfl rfl ?aO ?aR (fun _ _ h => h) (fun _ h => h.elim) ?aF ?aB ?aS ?aL ?_; (case aO => exact Kd.R_nil _ _ _ _ _); (case aR => exact Kd.C_below HCb.out HS.out.bel); (case aF => exact (fun _ _ => trivial)); (case aB => exact HS.out.bel); (case aS => exact HS.out.bel.size); (case aL => (have := HLb.out; have := HLL.out; simp; omega)); intro v9 w6 ho hb hg hat; (rw [List.nil_append] at ho; obtain ⟨A9, c9, e9⟩ := Kd.R_slice ho; subst e9; have HQ := Aside0.mk (show OwnP w.heap.size ⟨A9, c9, b⟩ w6 from ho); replace HS := Aside0.mk (HS.out.below (below_none hg)); clear ho hb hg hat))
        | ((with_reducible refine gate_builtin (b := .append) (xs := #[.tmp 34, .tmp 37]) rfl ?_); at_builtin; refine Kd.R_append KP (w0 := w) w.heap.size rfl (.tmp 34) (.tmp 37) 32 22 (.slice none 0 0) 24 rfl Tryd.underlying32 info22 rfl (by decide) (by decide) (u5) qs (⟨A9, c9, b⟩ : Piece) [.slice A9 b.length c9] (fun _ => True) (fun _ => False) rfl rfl rfl (fun _ hk => hk.elim) (fun k hk => trivial) HS.out.deep HS.out.bel HS.out.bel.size (by have := HPL.out; have := HM.out; have := HIM.out; have h_ := congrArg List.length HSM.out; rw [List.length_map, List.length_map] at h_; omega) ?_; intro v5 w7 ho hb hg hat; replace HS := Aside0.mk (HS.out.grow5 ho hb hg hat HQ.out); clear HQ ho hb hg hat))
      go_roundg (gk - 1)
      case measure => (have := HI.out; have := HIM.out; omega)
      case rel =>
        refine ⟨ps ++ [⟨A6, c6, b⟩], qs ++ [⟨A9, c9, b⟩], left - b.length, i + 1, by first | rfl | (rw [hlw]) | (congr 1; omega), rfl, ⟨by have := HI.out; have := HIM.out; omega⟩, ⟨by rw [List.length_append, HPL.out]; rfl⟩, ⟨?_⟩, ⟨by rw [List.map_append, List.map_append, HSM.out]; rfl⟩, HS⟩
        rw [total_push]
        have := HLE.out
        have := HLb.out
        show left - b.length + (total ps + b.length) = 70000
        omega
    · have hil : i = M := by have := HI.out; omega
      by_cases hi1 : (i : Int) < (l.length : Int)
      · have hi2 : ¬ ((i : Int) < 40) := by have := HMM.out; omega
        have HPM := Aside0.mk (show ps.length ≤ 40 by have := HPL.out; have := HM.out; omega)
        clear hi hil
        go_wp2
        refine bodyPost_ret (results_tmp2 (fn := Tryd.f15) rfl _ _ _) rfl ⟨_, _, rfl, ps, qs, HS.out, HSM.out, by have := HLE.out; omega, HPM.out⟩
      · have HPM := Aside0.mk (show ps.length ≤ 40 by have := HPL.out; have := HM.out; omega)
        clear hi hil
        go_wp2
        refine bodyPost_ret (results_tmp2 (fn := Tryd.f15) rfl _ _ _) rfl ⟨_, _, rfl, ps, qs, HS.out, HSM.out, by have := HLE.out; omega, HPM.out⟩
end Go.Proofs.YthnmpkhjpfhloaaDoor.M
