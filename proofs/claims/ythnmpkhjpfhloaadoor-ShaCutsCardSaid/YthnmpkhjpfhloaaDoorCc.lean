import Derived.Test.YthnmpkhjpfhloaaDoorProg
import Derived.Below
import Derived.Deep.Draws
import Derived.Deep.AppendLies
import Derived.Maps.AppendAt
import Derived.OwnWalk
import Derived.Laws.BytesArg
import Derived.Laws.MakeOwn
import Derived.Laws.OwnMore
import Derived.Deep.OwnRows
import Derived.Tactics
import Derived.Lib.ConvBytes
import Derived.Laws.Slices
import Derived.WalkKit
import Derived.KernelRfl
import Derived.RowKit3
import Derived.Deep.LoopGhost
import Derived.Deep.QuietTactic
import Derived.BigQuiet
import Derived.WideLaws
import Derived.Deep.DeepCutAuto
import Derived.Deep.CutBlock
import Derived.Deep.RegionHeld3
import Derived.Laws.Rows
import Derived.Lib.AppendStr
import Derived.ArgAppend
import Derived.Laws.IdiomCopy
import Derived.OrdersHeld
import Derived.Laws.BitsLemmas
import Derived.RowKit
import Derived.Test.YthnmpkhjpfhloaaDoorWWords
import Derived.Test.YthnmpkhjpfhloaaDoorWLast
import Derived.Test.YthnmpkhjpfhloaaDoorWTab
import Derived.Test.YthnmpkhjpfhloaaDoorWFour
import Derived.Test.YthnmpkhjpfhloaaDoorWQPut
import Derived.Test.YthnmpkhjpfhloaaDoorWApart
import Derived.Test.YthnmpkhjpfhloaaDoorWArr
import Derived.Test.YthnmpkhjpfhloaaDoorWZeros
import Derived.Test.YthnmpkhjpfhloaaDoorWFoot
import Derived.Test.YthnmpkhjpfhloaaDoorWKept
import Derived.Test.YthnmpkhjpfhloaaDoorWShare
import Derived.Test.YthnmpkhjpfhloaaDoorWN
import Derived.Test.YthnmpkhjpfhloaaDoorWFootNe
import Derived.Test.YthnmpkhjpfhloaaDoorWAt
import Derived.Test.YthnmpkhjpfhloaaDoorWEqStruct
import Derived.Test.YthnmpkhjpfhloaaDoorWRepsOne
import Derived.Test.YthnmpkhjpfhloaaDoorWInv
import Derived.Test.YthnmpkhjpfhloaaDoorWInvWords
import Derived.Test.YthnmpkhjpfhloaaDoorWGuard
import Derived.Test.YthnmpkhjpfhloaaDoorWNEv
import Derived.Test.YthnmpkhjpfhloaaDoorWMore
import Derived.Laws.BitsAllLaws
import Derived.StillTailTactics
import Derived.Test.YthnmpkhjpfhloaaDoorMs
import Derived.Deep.WholeRow
import Derived.Test.YthnmpkhjpfhloaaDoorCr
namespace Go.Proofs.YthnmpkhjpfhloaaDoor.M
open Go.RowKit Go.Proofs.YthnmpkhjpfhloaaDoorW.PrintWords Go.Proofs.YthnmpkhjpfhloaaDoorW.PrintLast Go.Proofs.YthnmpkhjpfhloaaDoorW.PrintMore
set_option linter.unusedVariables false
set_option linter.unusedSimpArgs false
theorem tmod_bound (a d : Int) (hd : 0 < d) : -d < Int.tmod a d ∧ Int.tmod a d < d := by
  constructor
  · rcases Int.le_total 0 a with h | h
    · rw [Int.tmod_eq_emod_of_nonneg h]; have := Int.emod_nonneg a (show d ≠ 0 by omega); omega
    · have h1 : Int.tmod a d = -Int.tmod (-a) d := by rw [Int.neg_tmod]; omega
      rw [h1, Int.tmod_eq_emod_of_nonneg (show 0 ≤ -a by omega)]
      have := Int.emod_lt_of_pos (-a) hd
      omega
  · exact Int.tmod_lt_of_pos a hd
theorem HashAt.grown {w w' : World} {g : Nat} {m : List Int} {row : Option Nat} (h : HashAt w g m) (hg : w.grownBy w' row) (hne : some g ≠ row) : HashAt w' g m := by
  obtain ⟨a, b, h1, h2⟩ := h
  exact ⟨a, b, blk_grown h1 hg hne, h2⟩
theorem info22 : (Tryd.prog.info? 22).map (fun i => (i.zero, i.size, i.bytes)) = some (some (.slice none 0 0), 1, 24) := by kernel_rfl
theorem cut_len (A : Option Addr) (b0 : List Int) (c : Nat) (w : World) (hc : b0.length ≤ c) : Calls Tryd.prog 20 #[.slice A b0.length c, .int .i64 3000] w fun e w' => e = .returned (.slice A (b0.take 3000).length c) ∧ w' = w := by
  by_cases h : b0.length ≤ 3000
  · rw [List.take_of_length_le h]
    exact cut_small A b0.length c 3000 w (by omega) (by decide)
  · rw [show (b0.take 3000).length = 3000 by rw [List.length_take]; omega]
    exact cut_big A b0.length c 3000 w (by omega) hc
set_option maxHeartbeats 8000000 in
set_option maxRecDepth 100000 in
set_option pp.deepTerms true in
set_option pp.maxSteps 1000000 in
theorem cuts_core (A0 : Option Addr) (c0 : Nat) (b0 : List Int) (A1 : Option Addr) (c1 : Nat) (cuts : List Int) (w : World) (hT : Tab w) (hb : Kd.C (Kd.int .u8) w A0 b0.length b0) (hc0 : b0.length ≤ c0) (hcu : Kd.C (Kd.int .i64) w A1 cuts.length cuts) (hc1 : cuts.length ≤ c1) (hv : ∀ x ∈ cuts, -9223372036854775808 ≤ x ∧ x ≤ 9223372036854775807) :
    Calls Tryd.prog 7 #[.slice A0 b0.length c0, .slice A1 cuts.length c1] w fun e w' => e = .returned (.bool true) ∧ Below w.heap.size w w' := by
  have HT := Aside0.mk hT
  have HTw := Aside0.mk hT
  have HZ := Aside0.mk (show w.heap.size ≠ 0 by have h_ := World.block_lt_of_cell? w _ (hT 0 (by decide)); intro e; rw [e] at h_; exact Nat.not_lt_zero _ h_)
  have HB := Aside0.mk (Below.refl w.heap.size w)
  have Hcut := Aside0.mk (cut_len A0 b0 c0 w hc0)
  have hm : min 3000 b0.length ≤ b0.length := Nat.min_le_right _ _
  have HCb := Aside0.mk (show Kd.C (Kd.int .u8) w A0 (b0.take 3000).length (b0.take 3000) by
    by_cases h : b0.length ≤ 3000
    · rw [List.take_of_length_le h]; exact hb
    · exact Kd.C_take hb (by omega))
  have HL3 := Aside0.mk (show (b0.take 3000).length ≤ 3000 by rw [List.length_take]; omega)
  have HLc := Aside0.mk (show (b0.take 3000).length ≤ c0 by rw [List.length_take]; omega)
  have HCU := Aside0.mk hcu
  have HV := Aside0.mk hv
  have HCL := Aside0.mk hcu.2.1
  clear hT hb hc0 hcu hc1 hv hm
  generalize b0.take 3000 = b at *
  generalize hLL : b.length = L at *
  have HLb := Aside0.mk hLL
  clear hLL
  have HW0 := Aside0.mk (fun hp => C_lt HCb.out (show 0 < L from hp))
  go_enter Tryd.func7, Tryd.ntmps7
  go_wp2_with (first
    | (go_at_call 20; (with_reducible refine Hcut.out.mono ?_); rintro e w' ⟨rfl, hw_⟩; have hw_ := hw_.symm; subst hw_)
    | (go_at_call 9; (with_reducible refine (new_calls _).mono ?_); rintro e w1 ⟨g, rfl, hg, hH, hb⟩; have H1 := Aside0.mk hH; have HG := Aside0.mk hg; replace HT := Aside0.mk (HT.out.below hb); replace HB := Aside0.mk hb; clear hH hg hb)
    | (go_at_call 14; (with_reducible refine (told_calls _ HT.out).mono ?_); rintro e w2 ⟨rfl, hb⟩; replace H1 := Aside0.mk (H1.out.below hb); replace HT := Aside0.mk (HT.out.below hb); replace HB := Aside0.mk (below_step HB.out hb); clear hb))
  have HNG := Aside0.mk (show 0 < L → ∀ ad, A0 = some ad → ad.block ≠ g from fun hp ad e => by have := HW0.out hp ad e; have := HG.out; omega)
  have HO0 := Aside0.mk (Kd.R_nil KP 22 w2 w.heap.size (fun k => k ≠ g))
  have HM := Aside0.mk (show min cuts.length 40 ≤ 40 from Nat.min_le_right _ _)
  generalize hMM : min cuts.length 40 = M at *
  have HMM := Aside0.mk hMM
  clear hMM
  go_loopg [6, 7, 8] M (fun k v6 v7 v8 wr => ∃ (ps : List Piece) (at_ i : Nat), v7 = .int .i64 at_ ∧ v8 = .int .i64 i ∧ Aside0 (i + k = M) ∧ Aside0 (at_ ≤ L) ∧ Aside0 (ps.length = i) ∧ Aside0 (Kd.R KP 22 wr w.heap.size (fun k => k ≠ g) v6 ps) ∧ Aside0 (∀ p ∈ ps, p.ok w) ∧ Aside0 ((ps.map Piece.l).flatten = b.take at_) ∧ Aside0 (HashAt wr g (b.take at_)) ∧ Aside0 (Tab wr) ∧ Aside0 (Below w.heap.size w wr))
  case atStart => exact ⟨[], 0, 0, rfl, rfl, ⟨Nat.zero_add _⟩, ⟨Nat.zero_le _⟩, ⟨rfl⟩, HO0, ⟨fun p hp => by cases hp⟩, ⟨rfl⟩, H1, HT, HB⟩
  case round =>
    clear HO0 H1 HT HB
    obtain ⟨ps, at_, i, rfl, rfl, HI, HAT, HPL, HO, HPO, HPF, H1, HT, HB⟩ := hrel
    obtain ⟨A6, c6, e6⟩ := Kd.R_slice HO.out
    subst e6
    by_cases hi : i < M
    · have HIM := Aside0.mk hi
      have hi1 : (i : Int) < (cuts.length : Int) := by have := HMM.out; omega
      have hi2 : (i : Int) < 40 := by have := HM.out; omega
      have hiw : wrap64 ((i : Int) + 1) = ((i + 1 : Nat) : Int) := by have := HM.out; unfold wrap64; omega
      clear hi
      by_cases hat : at_ < L
      · obtain ⟨adc, rfl, hx⟩ := Kd.at_int HCU.out (i : Int) (by omega) (by omega)
        rw [Int.toNat_natCast] at hx
        have hxr : wr.cell? (adc.add i) = some (.int .i64 (rd cuts (i : Int))) := (HB.out.cell (World.block_lt_of_cell? w _ hx)).trans hx
        have hcv := HV.out (rd cuts (i : Int)) (by
          show cuts.getD i 0 ∈ cuts
          rw [List.getD_eq_getElem?_getD, List.getElem?_eq_getElem (by omega)]; exact List.getElem_mem _)
        generalize rd cuts (i : Int) = cv at hxr hcv
        have htm := tmod_bound cv ((L : Int) - (at_ : Int) + 1) (by omega)
        generalize hr : Int.tmod cv ((L : Int) - (at_ : Int) + 1) = r at htm
        have h3 := HL3.out
        have hlt : (at_ : Int) < (L : Int) := by omega
        have hgt : decide ((at_ : Int) < (L : Int)) = true := decide_eq_true hlt
        clear hx
        by_cases hrn : r < 0
        · have hrd : decide (r < 0) = true := decide_eq_true hrn
          obtain ⟨to_, hto⟩ : ∃ to_ : Nat, (to_ : Int) = (at_ : Int) + -r := ⟨((at_ : Int) + -r).toNat, by omega⟩
          have hcut : ∀ W : World, (Instr.slice 22 (.slice A0 L c0) (some (.int .i64 (at_ : Int))) (some (.int .i64 ((at_ : Int) + -r))) none).run Tryd.prog W = .ok (.slice (if c0 = at_ then A0 else A0.map (·.add (at_ * 1))) (to_ - at_) (c0 - at_)) W := by
            obtain ⟨i05, hi05, _, hsz05, _⟩ := info_parts P.info5
            have h_ := cut_mid (P := Tryd.prog) 22 5 .i64 .i64 Tryd.underlying22 hi05 1 (by simpa using hsz05) A0 L c0 (at_ : Int) ((at_ : Int) + -r) (by omega) (by omega) (by omega) HLc.out
            have e_ : (((at_ : Int) + -r) : Int).toNat = to_ := by omega
            rw [Int.toNat_natCast] at h_
            first
              | (rw [e_] at h_; exact h_)
              | (have e2_ : to_ = at_ := by omega
                 rw [e2_]; exact h_)
          have hcutT : ∀ W : World, (Instr.slice 22 (.slice A0 L c0) none (some (.int .i64 ((at_ : Int) + -r))) none).run Tryd.prog W = .ok (.slice A0 to_ c0) W := by
            obtain ⟨i05, hi05, _, hsz05, _⟩ := info_parts P.info5
            have h_ := cut_to (P := Tryd.prog) 22 5 .i64 Tryd.underlying22 hi05 A0 L c0 ((at_ : Int) + -r) (by omega) (by omega) HLc.out
            have e_ : (((at_ : Int) + -r) : Int).toNat = to_ := by omega
            rw [e_] at h_
            exact h_
          have hPl : ((b.drop at_).take (to_ - at_)).length = to_ - at_ := by rw [List.length_take, List.length_drop]; have := HLb.out; omega
          have hCp := Kd.C_take (m := to_ - at_) (Kd.C_drop (m := at_) (c := c0) (HLb.out ▸ HCb.out) (by have := HLb.out; omega) (by have := HLb.out; have := HLc.out; omega)) (by rw [List.length_drop]; have := HLb.out; omega)
          have hnp : 0 < to_ - at_ → ∀ ad, (if c0 = at_ then A0 else A0.map (·.add (at_ * 1))) = some ad → ad.block ≠ g := fun hp => cut_block (HNG.out (by omega))
          have HCT := Aside0.mk (show Kd.C (Kd.int .u8) w A0 to_ (b.take to_) by
            have h_ := Kd.C_take (m := to_) (HLb.out ▸ HCb.out) (by have := HLb.out; omega)
            rwa [show (b.take to_).length = to_ by rw [List.length_take]; have := HLb.out; omega] at h_)
          have HTL := Aside0.mk (show (b.take to_).length = to_ by rw [List.length_take]; have := HLb.out; omega)
          obtain ⟨P, hPA, hPc, hPL⟩ : ∃ P : Piece, P.A = (if c0 = at_ then A0 else A0.map (·.add (at_ * 1))) ∧ P.c = c0 - at_ ∧ P.l = (b.drop at_).take (to_ - at_) := ⟨⟨_, _, _⟩, rfl, rfl, rfl⟩
          have HPE := Aside0.mk (show P.enc = .slice P.A (to_ - at_) (c0 - at_) by unfold Piece.enc; rw [hPc, hPL, hPl])
          have HPK := Aside0.mk (show P.ok w from ⟨by rw [hPA, hPL]; exact hCp, by rw [hPL, hPl, hPc]; have := HLc.out; omega⟩)
          have HPT := Aside0.mk (show b.take at_ ++ P.l = b.take to_ by rw [hPL, ← List.take_add, show at_ + (to_ - at_) = to_ by omega])
          have HPN := Aside0.mk (show 0 < to_ - at_ → ∀ ad, P.A = some ad → ad.block ≠ g by rw [hPA]; exact hnp)
          have HPLN := Aside0.mk (show P.l.length = to_ - at_ by rw [hPL, hPl])
          rw [← hPA] at hcut
          have HTO := Aside0.mk (show at_ ≤ to_ ∧ to_ ≤ L by omega)
          have Hw := Aside0.mk (fun (W : World) (hH : HashAt W g (b.take at_)) (hB : Below w.heap.size w W) => (show Calls Tryd.prog 10 #[.pointer (some ⟨g, 0, none⟩), .slice P.A (to_ - at_) (c0 - at_)] W fun e w' => (∃ v, e = .returned v) ∧ HashAt w' g (b.take to_) ∧ But g W w' from by
            have h_ := write_calls g P.A (c0 - at_) (b.take at_) P.l W hH (HPLN.out ▸ Kd.C_below (HPLN.out ▸ HPK.out.1) hB) (HPLN.out ▸ HPN.out) (by rw [HPLN.out]; have := HLc.out; omega) (HTw.out.below hB) (by have := HG.out; have := HZ.out; omega) (by rw [HPLN.out, List.length_take]; have := HLb.out; have := HL3.out; omega)
            rw [HPLN.out, HPT.out] at h_
            exact h_))
          have Hk := Aside0.mk (fun (W : World) (hH : HashAt W g (b.take to_)) hT => key_calls g (b.take to_) W hH hT (by rw [HTL.out]; have := HL3.out; omega))
          have Hs := Aside0.mk (fun (ad : Addr) (W : World) hC hT => (show Calls Tryd.prog 11 #[.slice (some ad) 1 1] W fun e w' => e = .returned (.agg (arr8 (sumL (b.take to_)))) ∧ Below W.heap.size W w' from by
            have h_ := sum_calls (some ad) 1 [b.take to_] W hC (Nat.le_refl 1) hT (by have := HTL.out; have := HL3.out; simp; omega)
            rw [show ([b.take to_] : List (List Int)).flatten = b.take to_ by simp] at h_
            exact h_))
          have Hl := Aside0.mk (fun (W : World) (hH : HashAt W g (b.take to_)) => (show Calls Tryd.prog 22 #[.pointer (some ⟨g, 0, none⟩)] W fun e w' => e = .returned (.int .i64 ((at_ : Int) + -r)) ∧ w' = W from by
            have h_ := len_calls g (b.take to_) W hH
            rw [HTL.out, show ((to_ : Nat) : Int) = ((at_ : Int) + -r) by omega] at h_
            exact h_))
          have heq : ∀ W : World, (Op.equalIn 10000 27 (.agg (arr8 (sumL (b.take to_)))) (.agg (arr8 (sumL (b.take to_))))).run Tryd.prog W = .ok true W := fun W => eq_key 9998 _ (sumL_len _) W
          have HR := Aside0.mk (fun (W : World) (hB : Below w.heap.size w W) => (show (Kd.slice 5 (Kd.int .u8)).C (W.alloc (.cells #[.slice A0 to_ c0] 22)) (some ⟨W.heap.size, 0, none⟩) 1 [b.take to_] from by
            have h_ := C_row1 (c1 := c0) (l := b.take to_) (W := W) (A1 := A0) (by rw [HTL.out]; exact Kd.C_below HCT.out hB) (by have := HTL.out; have := HTO.out; have := HLc.out; omega)
            rw [HTL.out] at h_
            exact h_))
          generalize arr8 (sumL (b.take to_)) = ck at Hk Hs heq
          generalize hln : to_ - at_ = ln at hcut HPE Hw
          have HLN := Aside0.mk hln
          generalize hcp : c0 - at_ = cp at hcut HPE Hw
          clear hPl hCp hnp hPA hPc hPL hln hcp
          go_wp2_with (first
            | ((with_reducible refine gate_builtin (b := .append) (xs := #[.tmp 52, .tmp 57]) rfl ?_); at_builtin; refine Kd.R_append KP (w0 := w) w.heap.size rfl (.tmp 52) (.tmp 57) 32 22 (.slice none 0 0) 24 rfl Tryd.underlying32 info22 rfl (by decide) (by decide) (.slice A6 ps.length c6) ps P [.slice P.A ln cp] (fun k => k ≠ g) (fun _ => False) rfl rfl (show [_] = [Piece.enc P] by rw [HPE.out]) (fun _ hk => hk.elim) (fun k hk => by have := H1.out.lt; omega) HO.out HB.out HB.out.size (by have := HPL.out; have := HM.out; have := HIM.out; omega) ?_; intro v6 w4 ho hb hg hat; have H14 := Aside0.mk (HashAt.grown H1.out hg (fun e => HO.out.1 g e.symm rfl)); replace HO := Aside0.mk ho; replace HB := Aside0.mk hb; replace H1 := H14; clear H14 ho hb hg hat)
            | (go_at_call 10; (with_reducible refine (Hw.out _ ?hH ?hB).mono ?_); (case hH => exact H1.out); (case hB => exact HB.out); rintro e w5 ⟨⟨v5_, rfl⟩, hh5, hbut5⟩; replace H1 := Aside0.mk hh5; replace HO := Aside0.mk (Kd.R_step HO.out (fun k hk hlt => hbut5.block k hlt hk)); replace HB := Aside0.mk (But.below HB.out hbut5 HG.out); replace HT := Aside0.mk (HTw.out.below HB.out); clear hh5 hbut5))
          have hcw : (0 : Int) ≤ (at_ : Int) := by omega
          go_region_with (first
            | (go_at_call 13; (with_reducible refine (Hk.out _ ?hH ?hT).mono ?_); (case hH => exact (by first | exact H1.out.below (below_drew1 (Below.refl _ _)) | exact H1.out.below (below_drew1 (below_alloc (Below.refl _ _) _)) | exact H1.out.below (below_alloc (Below.refl _ _) _) | exact H1.out)); (case hT => exact (by first | exact HT.out.below (below_drew1 (Below.refl _ _)) | exact HT.out.below (below_drew1 (below_alloc (Below.refl _ _) _)) | exact HT.out.below (below_alloc (Below.refl _ _) _) | exact HT.out)); rintro e w6 ⟨rfl, hb⟩; (try have HCR := Aside0.mk (Kd.C_below (Kd.C_drew (HR.out _ HB.out)) hb)); replace H1 := Aside0.mk (HashAt.below (by first | exact H1.out.below (below_drew1 (Below.refl _ _)) | exact H1.out.below (below_drew1 (below_alloc (Below.refl _ _) _)) | exact H1.out.below (below_alloc (Below.refl _ _) _) | exact H1.out) hb); replace HT := Aside0.mk (Tab.below (by first | exact HT.out.below (below_drew1 (Below.refl _ _)) | exact HT.out.below (below_drew1 (below_alloc (Below.refl _ _) _)) | exact HT.out.below (below_alloc (Below.refl _ _) _) | exact HT.out) hb); replace HO := Aside0.mk (Kd.R_below (by first | exact Kd.R_below HO.out (below_drew1 (Below.refl _ _)) | exact Kd.R_below HO.out (below_drew1 (below_alloc (Below.refl _ _) _)) | exact Kd.R_below HO.out (below_alloc (Below.refl _ _) _) | exact HO.out) hb); replace HB := Aside0.mk (below_step (by first | exact below_drew1 HB.out | exact below_drew1 (below_alloc HB.out _) | exact below_alloc HB.out _ | exact HB.out) hb); clear hb)
            | (go_at_call 11; (with_reducible refine (Hs.out _ _ ?hC ?hT).mono ?_); (case hC => first | exact HR.out _ HB.out | exact HCR.out); (case hT => exact (by first | exact HT.out.below (below_drew1 (Below.refl _ _)) | exact HT.out.below (below_drew1 (below_alloc (Below.refl _ _) _)) | exact HT.out.below (below_alloc (Below.refl _ _) _) | exact HT.out)); rintro e w7 ⟨rfl, hb⟩; replace H1 := Aside0.mk (HashAt.below (by first | exact H1.out.below (below_drew1 (Below.refl _ _)) | exact H1.out.below (below_drew1 (below_alloc (Below.refl _ _) _)) | exact H1.out.below (below_alloc (Below.refl _ _) _) | exact H1.out) hb); replace HT := Aside0.mk (Tab.below (by first | exact HT.out.below (below_drew1 (Below.refl _ _)) | exact HT.out.below (below_drew1 (below_alloc (Below.refl _ _) _)) | exact HT.out.below (below_alloc (Below.refl _ _) _) | exact HT.out) hb); replace HO := Aside0.mk (Kd.R_below (by first | exact Kd.R_below HO.out (below_drew1 (Below.refl _ _)) | exact Kd.R_below HO.out (below_drew1 (below_alloc (Below.refl _ _) _)) | exact Kd.R_below HO.out (below_alloc (Below.refl _ _) _) | exact HO.out) hb); replace HB := Aside0.mk (below_step (by first | exact below_drew1 HB.out | exact below_drew1 (below_alloc HB.out _) | exact below_alloc HB.out _ | exact HB.out) hb); clear hb)
            | (go_at_call 22; (with_reducible refine (Hl.out _ ?hH).mono ?_); (case hH => exact (by first | exact H1.out.below (below_drew1 (Below.refl _ _)) | exact H1.out.below (below_drew1 (below_alloc (Below.refl _ _) _)) | exact H1.out.below (below_alloc (Below.refl _ _) _) | exact H1.out)); rintro e w8 ⟨rfl, rfl⟩))
          all_goals (go_wp2; go_roundg (gk - 1))
          all_goals first
            | (show gk - 1 < gk; have := HI.out; have := HIM.out; omega)
            | exact ⟨ps ++ [P], to_, i + 1, by rw [hto], rfl, ⟨by have := HI.out; have := HIM.out; omega⟩, ⟨HTO.out.2⟩, ⟨by rw [List.length_append, HPL.out]; rfl⟩, HO, ⟨fun p hp => by rcases List.mem_append.1 hp with h_ | h_; exact HPO.out p h_; (have e_ : p = P := by simpa using h_); rw [e_]; exact HPK.out⟩, ⟨by rw [List.map_append, List.flatten_append, HPF.out]; simpa using HPT.out⟩, H1, HT, HB⟩
        · have hrd : decide (r < 0) = false := decide_eq_false hrn
          obtain ⟨to_, hto⟩ : ∃ to_ : Nat, (to_ : Int) = (at_ : Int) + r := ⟨((at_ : Int) + r).toNat, by omega⟩
          have hcut : ∀ W : World, (Instr.slice 22 (.slice A0 L c0) (some (.int .i64 (at_ : Int))) (some (.int .i64 ((at_ : Int) + r))) none).run Tryd.prog W = .ok (.slice (if c0 = at_ then A0 else A0.map (·.add (at_ * 1))) (to_ - at_) (c0 - at_)) W := by
            obtain ⟨i05, hi05, _, hsz05, _⟩ := info_parts P.info5
            have h_ := cut_mid (P := Tryd.prog) 22 5 .i64 .i64 Tryd.underlying22 hi05 1 (by simpa using hsz05) A0 L c0 (at_ : Int) ((at_ : Int) + r) (by omega) (by omega) (by omega) HLc.out
            have e_ : (((at_ : Int) + r) : Int).toNat = to_ := by omega
            rw [Int.toNat_natCast] at h_
            first
              | (rw [e_] at h_; exact h_)
              | (have e2_ : to_ = at_ := by omega
                 rw [e2_]; exact h_)
          have hcutT : ∀ W : World, (Instr.slice 22 (.slice A0 L c0) none (some (.int .i64 ((at_ : Int) + r))) none).run Tryd.prog W = .ok (.slice A0 to_ c0) W := by
            obtain ⟨i05, hi05, _, hsz05, _⟩ := info_parts P.info5
            have h_ := cut_to (P := Tryd.prog) 22 5 .i64 Tryd.underlying22 hi05 A0 L c0 ((at_ : Int) + r) (by omega) (by omega) HLc.out
            have e_ : (((at_ : Int) + r) : Int).toNat = to_ := by omega
            rw [e_] at h_
            exact h_
          have hPl : ((b.drop at_).take (to_ - at_)).length = to_ - at_ := by rw [List.length_take, List.length_drop]; have := HLb.out; omega
          have hCp := Kd.C_take (m := to_ - at_) (Kd.C_drop (m := at_) (c := c0) (HLb.out ▸ HCb.out) (by have := HLb.out; omega) (by have := HLb.out; have := HLc.out; omega)) (by rw [List.length_drop]; have := HLb.out; omega)
          have hnp : 0 < to_ - at_ → ∀ ad, (if c0 = at_ then A0 else A0.map (·.add (at_ * 1))) = some ad → ad.block ≠ g := fun hp => cut_block (HNG.out (by omega))
          have HCT := Aside0.mk (show Kd.C (Kd.int .u8) w A0 to_ (b.take to_) by
            have h_ := Kd.C_take (m := to_) (HLb.out ▸ HCb.out) (by have := HLb.out; omega)
            rwa [show (b.take to_).length = to_ by rw [List.length_take]; have := HLb.out; omega] at h_)
          have HTL := Aside0.mk (show (b.take to_).length = to_ by rw [List.length_take]; have := HLb.out; omega)
          obtain ⟨P, hPA, hPc, hPL⟩ : ∃ P : Piece, P.A = (if c0 = at_ then A0 else A0.map (·.add (at_ * 1))) ∧ P.c = c0 - at_ ∧ P.l = (b.drop at_).take (to_ - at_) := ⟨⟨_, _, _⟩, rfl, rfl, rfl⟩
          have HPE := Aside0.mk (show P.enc = .slice P.A (to_ - at_) (c0 - at_) by unfold Piece.enc; rw [hPc, hPL, hPl])
          have HPK := Aside0.mk (show P.ok w from ⟨by rw [hPA, hPL]; exact hCp, by rw [hPL, hPl, hPc]; have := HLc.out; omega⟩)
          have HPT := Aside0.mk (show b.take at_ ++ P.l = b.take to_ by rw [hPL, ← List.take_add, show at_ + (to_ - at_) = to_ by omega])
          have HPN := Aside0.mk (show 0 < to_ - at_ → ∀ ad, P.A = some ad → ad.block ≠ g by rw [hPA]; exact hnp)
          have HPLN := Aside0.mk (show P.l.length = to_ - at_ by rw [hPL, hPl])
          rw [← hPA] at hcut
          have HTO := Aside0.mk (show at_ ≤ to_ ∧ to_ ≤ L by omega)
          have Hw := Aside0.mk (fun (W : World) (hH : HashAt W g (b.take at_)) (hB : Below w.heap.size w W) => (show Calls Tryd.prog 10 #[.pointer (some ⟨g, 0, none⟩), .slice P.A (to_ - at_) (c0 - at_)] W fun e w' => (∃ v, e = .returned v) ∧ HashAt w' g (b.take to_) ∧ But g W w' from by
            have h_ := write_calls g P.A (c0 - at_) (b.take at_) P.l W hH (HPLN.out ▸ Kd.C_below (HPLN.out ▸ HPK.out.1) hB) (HPLN.out ▸ HPN.out) (by rw [HPLN.out]; have := HLc.out; omega) (HTw.out.below hB) (by have := HG.out; have := HZ.out; omega) (by rw [HPLN.out, List.length_take]; have := HLb.out; have := HL3.out; omega)
            rw [HPLN.out, HPT.out] at h_
            exact h_))
          have Hk := Aside0.mk (fun (W : World) (hH : HashAt W g (b.take to_)) hT => key_calls g (b.take to_) W hH hT (by rw [HTL.out]; have := HL3.out; omega))
          have Hs := Aside0.mk (fun (ad : Addr) (W : World) hC hT => (show Calls Tryd.prog 11 #[.slice (some ad) 1 1] W fun e w' => e = .returned (.agg (arr8 (sumL (b.take to_)))) ∧ Below W.heap.size W w' from by
            have h_ := sum_calls (some ad) 1 [b.take to_] W hC (Nat.le_refl 1) hT (by have := HTL.out; have := HL3.out; simp; omega)
            rw [show ([b.take to_] : List (List Int)).flatten = b.take to_ by simp] at h_
            exact h_))
          have Hl := Aside0.mk (fun (W : World) (hH : HashAt W g (b.take to_)) => (show Calls Tryd.prog 22 #[.pointer (some ⟨g, 0, none⟩)] W fun e w' => e = .returned (.int .i64 ((at_ : Int) + r)) ∧ w' = W from by
            have h_ := len_calls g (b.take to_) W hH
            rw [HTL.out, show ((to_ : Nat) : Int) = ((at_ : Int) + r) by omega] at h_
            exact h_))
          have heq : ∀ W : World, (Op.equalIn 10000 27 (.agg (arr8 (sumL (b.take to_)))) (.agg (arr8 (sumL (b.take to_))))).run Tryd.prog W = .ok true W := fun W => eq_key 9998 _ (sumL_len _) W
          have HR := Aside0.mk (fun (W : World) (hB : Below w.heap.size w W) => (show (Kd.slice 5 (Kd.int .u8)).C (W.alloc (.cells #[.slice A0 to_ c0] 22)) (some ⟨W.heap.size, 0, none⟩) 1 [b.take to_] from by
            have h_ := C_row1 (c1 := c0) (l := b.take to_) (W := W) (A1 := A0) (by rw [HTL.out]; exact Kd.C_below HCT.out hB) (by have := HTL.out; have := HTO.out; have := HLc.out; omega)
            rw [HTL.out] at h_
            exact h_))
          generalize arr8 (sumL (b.take to_)) = ck at Hk Hs heq
          generalize hln : to_ - at_ = ln at hcut HPE Hw
          have HLN := Aside0.mk hln
          generalize hcp : c0 - at_ = cp at hcut HPE Hw
          clear hPl hCp hnp hPA hPc hPL hln hcp
          go_wp2_with (first
            | ((with_reducible refine gate_builtin (b := .append) (xs := #[.tmp 52, .tmp 57]) rfl ?_); at_builtin; refine Kd.R_append KP (w0 := w) w.heap.size rfl (.tmp 52) (.tmp 57) 32 22 (.slice none 0 0) 24 rfl Tryd.underlying32 info22 rfl (by decide) (by decide) (.slice A6 ps.length c6) ps P [.slice P.A ln cp] (fun k => k ≠ g) (fun _ => False) rfl rfl (show [_] = [Piece.enc P] by rw [HPE.out]) (fun _ hk => hk.elim) (fun k hk => by have := H1.out.lt; omega) HO.out HB.out HB.out.size (by have := HPL.out; have := HM.out; have := HIM.out; omega) ?_; intro v6 w4 ho hb hg hat; have H14 := Aside0.mk (HashAt.grown H1.out hg (fun e => HO.out.1 g e.symm rfl)); replace HO := Aside0.mk ho; replace HB := Aside0.mk hb; replace H1 := H14; clear H14 ho hb hg hat)
            | (go_at_call 10; (with_reducible refine (Hw.out _ ?hH ?hB).mono ?_); (case hH => exact H1.out); (case hB => exact HB.out); rintro e w5 ⟨⟨v5_, rfl⟩, hh5, hbut5⟩; replace H1 := Aside0.mk hh5; replace HO := Aside0.mk (Kd.R_step HO.out (fun k hk hlt => hbut5.block k hlt hk)); replace HB := Aside0.mk (But.below HB.out hbut5 HG.out); replace HT := Aside0.mk (HTw.out.below HB.out); clear hh5 hbut5))
          have hcw : (0 : Int) ≤ (at_ : Int) := by omega
          go_region_with (first
            | (go_at_call 13; (with_reducible refine (Hk.out _ ?hH ?hT).mono ?_); (case hH => exact (by first | exact H1.out.below (below_drew1 (Below.refl _ _)) | exact H1.out.below (below_drew1 (below_alloc (Below.refl _ _) _)) | exact H1.out.below (below_alloc (Below.refl _ _) _) | exact H1.out)); (case hT => exact (by first | exact HT.out.below (below_drew1 (Below.refl _ _)) | exact HT.out.below (below_drew1 (below_alloc (Below.refl _ _) _)) | exact HT.out.below (below_alloc (Below.refl _ _) _) | exact HT.out)); rintro e w6 ⟨rfl, hb⟩; (try have HCR := Aside0.mk (Kd.C_below (Kd.C_drew (HR.out _ HB.out)) hb)); replace H1 := Aside0.mk (HashAt.below (by first | exact H1.out.below (below_drew1 (Below.refl _ _)) | exact H1.out.below (below_drew1 (below_alloc (Below.refl _ _) _)) | exact H1.out.below (below_alloc (Below.refl _ _) _) | exact H1.out) hb); replace HT := Aside0.mk (Tab.below (by first | exact HT.out.below (below_drew1 (Below.refl _ _)) | exact HT.out.below (below_drew1 (below_alloc (Below.refl _ _) _)) | exact HT.out.below (below_alloc (Below.refl _ _) _) | exact HT.out) hb); replace HO := Aside0.mk (Kd.R_below (by first | exact Kd.R_below HO.out (below_drew1 (Below.refl _ _)) | exact Kd.R_below HO.out (below_drew1 (below_alloc (Below.refl _ _) _)) | exact Kd.R_below HO.out (below_alloc (Below.refl _ _) _) | exact HO.out) hb); replace HB := Aside0.mk (below_step (by first | exact below_drew1 HB.out | exact below_drew1 (below_alloc HB.out _) | exact below_alloc HB.out _ | exact HB.out) hb); clear hb)
            | (go_at_call 11; (with_reducible refine (Hs.out _ _ ?hC ?hT).mono ?_); (case hC => first | exact HR.out _ HB.out | exact HCR.out); (case hT => exact (by first | exact HT.out.below (below_drew1 (Below.refl _ _)) | exact HT.out.below (below_drew1 (below_alloc (Below.refl _ _) _)) | exact HT.out.below (below_alloc (Below.refl _ _) _) | exact HT.out)); rintro e w7 ⟨rfl, hb⟩; replace H1 := Aside0.mk (HashAt.below (by first | exact H1.out.below (below_drew1 (Below.refl _ _)) | exact H1.out.below (below_drew1 (below_alloc (Below.refl _ _) _)) | exact H1.out.below (below_alloc (Below.refl _ _) _) | exact H1.out) hb); replace HT := Aside0.mk (Tab.below (by first | exact HT.out.below (below_drew1 (Below.refl _ _)) | exact HT.out.below (below_drew1 (below_alloc (Below.refl _ _) _)) | exact HT.out.below (below_alloc (Below.refl _ _) _) | exact HT.out) hb); replace HO := Aside0.mk (Kd.R_below (by first | exact Kd.R_below HO.out (below_drew1 (Below.refl _ _)) | exact Kd.R_below HO.out (below_drew1 (below_alloc (Below.refl _ _) _)) | exact Kd.R_below HO.out (below_alloc (Below.refl _ _) _) | exact HO.out) hb); replace HB := Aside0.mk (below_step (by first | exact below_drew1 HB.out | exact below_drew1 (below_alloc HB.out _) | exact below_alloc HB.out _ | exact HB.out) hb); clear hb)
            | (go_at_call 22; (with_reducible refine (Hl.out _ ?hH).mono ?_); (case hH => exact (by first | exact H1.out.below (below_drew1 (Below.refl _ _)) | exact H1.out.below (below_drew1 (below_alloc (Below.refl _ _) _)) | exact H1.out.below (below_alloc (Below.refl _ _) _) | exact H1.out)); rintro e w8 ⟨rfl, rfl⟩))
          all_goals (go_wp2; go_roundg (gk - 1))
          all_goals first
            | (show gk - 1 < gk; have := HI.out; have := HIM.out; omega)
            | exact ⟨ps ++ [P], to_, i + 1, by rw [hto], rfl, ⟨by have := HI.out; have := HIM.out; omega⟩, ⟨HTO.out.2⟩, ⟨by rw [List.length_append, HPL.out]; rfl⟩, HO, ⟨fun p hp => by rcases List.mem_append.1 hp with h_ | h_; exact HPO.out p h_; (have e_ : p = P := by simpa using h_); rw [e_]; exact HPK.out⟩, ⟨by rw [List.map_append, List.flatten_append, HPF.out]; simpa using HPT.out⟩, H1, HT, HB⟩
      · have hlt : ¬ ((at_ : Int) < (L : Int)) := by omega
        have hgt : decide ((at_ : Int) < (L : Int)) = false := decide_eq_false hlt
        have hatL := HAT.out
        have h3 := HL3.out
        obtain ⟨to_, hto⟩ : ∃ to_ : Nat, (to_ : Int) = (at_ : Int) := ⟨at_, rfl⟩
        have hcut : ∀ W : World, (Instr.slice 22 (.slice A0 L c0) (some (.int .i64 (at_ : Int))) (some (.int .i64 (at_ : Int))) none).run Tryd.prog W = .ok (.slice (if c0 = at_ then A0 else A0.map (·.add (at_ * 1))) (to_ - at_) (c0 - at_)) W := by
          obtain ⟨i05, hi05, _, hsz05, _⟩ := info_parts P.info5
          have h_ := cut_mid (P := Tryd.prog) 22 5 .i64 .i64 Tryd.underlying22 hi05 1 (by simpa using hsz05) A0 L c0 (at_ : Int) (at_ : Int) (by omega) (by omega) (by omega) HLc.out
          have e_ : ((at_ : Int) : Int).toNat = to_ := by omega
          rw [Int.toNat_natCast] at h_
          first
            | (rw [e_] at h_; exact h_)
            | (have e2_ : to_ = at_ := by omega
               rw [e2_]; exact h_)
        have hcutT : ∀ W : World, (Instr.slice 22 (.slice A0 L c0) none (some (.int .i64 (at_ : Int))) none).run Tryd.prog W = .ok (.slice A0 to_ c0) W := by
          obtain ⟨i05, hi05, _, hsz05, _⟩ := info_parts P.info5
          have h_ := cut_to (P := Tryd.prog) 22 5 .i64 Tryd.underlying22 hi05 A0 L c0 (at_ : Int) (by omega) (by omega) HLc.out
          have e_ : ((at_ : Int) : Int).toNat = to_ := by omega
          rw [e_] at h_
          exact h_
        have hPl : ((b.drop at_).take (to_ - at_)).length = to_ - at_ := by rw [List.length_take, List.length_drop]; have := HLb.out; omega
        have hCp := Kd.C_take (m := to_ - at_) (Kd.C_drop (m := at_) (c := c0) (HLb.out ▸ HCb.out) (by have := HLb.out; omega) (by have := HLb.out; have := HLc.out; omega)) (by rw [List.length_drop]; have := HLb.out; omega)
        have hnp : 0 < to_ - at_ → ∀ ad, (if c0 = at_ then A0 else A0.map (·.add (at_ * 1))) = some ad → ad.block ≠ g := fun hp => cut_block (HNG.out (by omega))
        have HCT := Aside0.mk (show Kd.C (Kd.int .u8) w A0 to_ (b.take to_) by
          have h_ := Kd.C_take (m := to_) (HLb.out ▸ HCb.out) (by have := HLb.out; omega)
          rwa [show (b.take to_).length = to_ by rw [List.length_take]; have := HLb.out; omega] at h_)
        have HTL := Aside0.mk (show (b.take to_).length = to_ by rw [List.length_take]; have := HLb.out; omega)
        obtain ⟨P, hPA, hPc, hPL⟩ : ∃ P : Piece, P.A = (if c0 = at_ then A0 else A0.map (·.add (at_ * 1))) ∧ P.c = c0 - at_ ∧ P.l = (b.drop at_).take (to_ - at_) := ⟨⟨_, _, _⟩, rfl, rfl, rfl⟩
        have HPE := Aside0.mk (show P.enc = .slice P.A (to_ - at_) (c0 - at_) by unfold Piece.enc; rw [hPc, hPL, hPl])
        have HPK := Aside0.mk (show P.ok w from ⟨by rw [hPA, hPL]; exact hCp, by rw [hPL, hPl, hPc]; have := HLc.out; omega⟩)
        have HPT := Aside0.mk (show b.take at_ ++ P.l = b.take to_ by rw [hPL, ← List.take_add, show at_ + (to_ - at_) = to_ by omega])
        have HPN := Aside0.mk (show 0 < to_ - at_ → ∀ ad, P.A = some ad → ad.block ≠ g by rw [hPA]; exact hnp)
        have HPLN := Aside0.mk (show P.l.length = to_ - at_ by rw [hPL, hPl])
        rw [← hPA] at hcut
        have HTO := Aside0.mk (show at_ ≤ to_ ∧ to_ ≤ L by omega)
        have Hw := Aside0.mk (fun (W : World) (hH : HashAt W g (b.take at_)) (hB : Below w.heap.size w W) => (show Calls Tryd.prog 10 #[.pointer (some ⟨g, 0, none⟩), .slice P.A (to_ - at_) (c0 - at_)] W fun e w' => (∃ v, e = .returned v) ∧ HashAt w' g (b.take to_) ∧ But g W w' from by
          have h_ := write_calls g P.A (c0 - at_) (b.take at_) P.l W hH (HPLN.out ▸ Kd.C_below (HPLN.out ▸ HPK.out.1) hB) (HPLN.out ▸ HPN.out) (by rw [HPLN.out]; have := HLc.out; omega) (HTw.out.below hB) (by have := HG.out; have := HZ.out; omega) (by rw [HPLN.out, List.length_take]; have := HLb.out; have := HL3.out; omega)
          rw [HPLN.out, HPT.out] at h_
          exact h_))
        have Hk := Aside0.mk (fun (W : World) (hH : HashAt W g (b.take to_)) hT => key_calls g (b.take to_) W hH hT (by rw [HTL.out]; have := HL3.out; omega))
        have Hs := Aside0.mk (fun (ad : Addr) (W : World) hC hT => (show Calls Tryd.prog 11 #[.slice (some ad) 1 1] W fun e w' => e = .returned (.agg (arr8 (sumL (b.take to_)))) ∧ Below W.heap.size W w' from by
          have h_ := sum_calls (some ad) 1 [b.take to_] W hC (Nat.le_refl 1) hT (by have := HTL.out; have := HL3.out; simp; omega)
          rw [show ([b.take to_] : List (List Int)).flatten = b.take to_ by simp] at h_
          exact h_))
        have Hl := Aside0.mk (fun (W : World) (hH : HashAt W g (b.take to_)) => (show Calls Tryd.prog 22 #[.pointer (some ⟨g, 0, none⟩)] W fun e w' => e = .returned (.int .i64 (at_ : Int)) ∧ w' = W from by
          have h_ := len_calls g (b.take to_) W hH
          rw [HTL.out, show ((to_ : Nat) : Int) = (at_ : Int) by omega] at h_
          exact h_))
        have heq : ∀ W : World, (Op.equalIn 10000 27 (.agg (arr8 (sumL (b.take to_)))) (.agg (arr8 (sumL (b.take to_))))).run Tryd.prog W = .ok true W := fun W => eq_key 9998 _ (sumL_len _) W
        have HR := Aside0.mk (fun (W : World) (hB : Below w.heap.size w W) => (show (Kd.slice 5 (Kd.int .u8)).C (W.alloc (.cells #[.slice A0 to_ c0] 22)) (some ⟨W.heap.size, 0, none⟩) 1 [b.take to_] from by
          have h_ := C_row1 (c1 := c0) (l := b.take to_) (W := W) (A1 := A0) (by rw [HTL.out]; exact Kd.C_below HCT.out hB) (by have := HTL.out; have := HTO.out; have := HLc.out; omega)
          rw [HTL.out] at h_
          exact h_))
        generalize arr8 (sumL (b.take to_)) = ck at Hk Hs heq
        generalize hln : to_ - at_ = ln at hcut HPE Hw
        have HLN := Aside0.mk hln
        generalize hcp : c0 - at_ = cp at hcut HPE Hw
        clear hPl hCp hnp hPA hPc hPL hln hcp
        go_wp2_with (first
          | ((with_reducible refine gate_builtin (b := .append) (xs := #[.tmp 52, .tmp 57]) rfl ?_); at_builtin; refine Kd.R_append KP (w0 := w) w.heap.size rfl (.tmp 52) (.tmp 57) 32 22 (.slice none 0 0) 24 rfl Tryd.underlying32 info22 rfl (by decide) (by decide) (.slice A6 ps.length c6) ps P [.slice P.A ln cp] (fun k => k ≠ g) (fun _ => False) rfl rfl (show [_] = [Piece.enc P] by rw [HPE.out]) (fun _ hk => hk.elim) (fun k hk => by have := H1.out.lt; omega) HO.out HB.out HB.out.size (by have := HPL.out; have := HM.out; have := HIM.out; omega) ?_; intro v6 w4 ho hb hg hat; have H14 := Aside0.mk (HashAt.grown H1.out hg (fun e => HO.out.1 g e.symm rfl)); replace HO := Aside0.mk ho; replace HB := Aside0.mk hb; replace H1 := H14; clear H14 ho hb hg hat)
          | (go_at_call 10; (with_reducible refine (Hw.out _ ?hH ?hB).mono ?_); (case hH => exact H1.out); (case hB => exact HB.out); rintro e w5 ⟨⟨v5_, rfl⟩, hh5, hbut5⟩; replace H1 := Aside0.mk hh5; replace HO := Aside0.mk (Kd.R_step HO.out (fun k hk hlt => hbut5.block k hlt hk)); replace HB := Aside0.mk (But.below HB.out hbut5 HG.out); replace HT := Aside0.mk (HTw.out.below HB.out); clear hh5 hbut5))
        have hcw : (0 : Int) ≤ (at_ : Int) := by omega
        go_region_with (first
          | (go_at_call 13; (with_reducible refine (Hk.out _ ?hH ?hT).mono ?_); (case hH => exact (by first | exact H1.out.below (below_drew1 (Below.refl _ _)) | exact H1.out.below (below_drew1 (below_alloc (Below.refl _ _) _)) | exact H1.out.below (below_alloc (Below.refl _ _) _) | exact H1.out)); (case hT => exact (by first | exact HT.out.below (below_drew1 (Below.refl _ _)) | exact HT.out.below (below_drew1 (below_alloc (Below.refl _ _) _)) | exact HT.out.below (below_alloc (Below.refl _ _) _) | exact HT.out)); rintro e w6 ⟨rfl, hb⟩; (try have HCR := Aside0.mk (Kd.C_below (Kd.C_drew (HR.out _ HB.out)) hb)); replace H1 := Aside0.mk (HashAt.below (by first | exact H1.out.below (below_drew1 (Below.refl _ _)) | exact H1.out.below (below_drew1 (below_alloc (Below.refl _ _) _)) | exact H1.out.below (below_alloc (Below.refl _ _) _) | exact H1.out) hb); replace HT := Aside0.mk (Tab.below (by first | exact HT.out.below (below_drew1 (Below.refl _ _)) | exact HT.out.below (below_drew1 (below_alloc (Below.refl _ _) _)) | exact HT.out.below (below_alloc (Below.refl _ _) _) | exact HT.out) hb); replace HO := Aside0.mk (Kd.R_below (by first | exact Kd.R_below HO.out (below_drew1 (Below.refl _ _)) | exact Kd.R_below HO.out (below_drew1 (below_alloc (Below.refl _ _) _)) | exact Kd.R_below HO.out (below_alloc (Below.refl _ _) _) | exact HO.out) hb); replace HB := Aside0.mk (below_step (by first | exact below_drew1 HB.out | exact below_drew1 (below_alloc HB.out _) | exact below_alloc HB.out _ | exact HB.out) hb); clear hb)
          | (go_at_call 11; (with_reducible refine (Hs.out _ _ ?hC ?hT).mono ?_); (case hC => first | exact HR.out _ HB.out | exact HCR.out); (case hT => exact (by first | exact HT.out.below (below_drew1 (Below.refl _ _)) | exact HT.out.below (below_drew1 (below_alloc (Below.refl _ _) _)) | exact HT.out.below (below_alloc (Below.refl _ _) _) | exact HT.out)); rintro e w7 ⟨rfl, hb⟩; replace H1 := Aside0.mk (HashAt.below (by first | exact H1.out.below (below_drew1 (Below.refl _ _)) | exact H1.out.below (below_drew1 (below_alloc (Below.refl _ _) _)) | exact H1.out.below (below_alloc (Below.refl _ _) _) | exact H1.out) hb); replace HT := Aside0.mk (Tab.below (by first | exact HT.out.below (below_drew1 (Below.refl _ _)) | exact HT.out.below (below_drew1 (below_alloc (Below.refl _ _) _)) | exact HT.out.below (below_alloc (Below.refl _ _) _) | exact HT.out) hb); replace HO := Aside0.mk (Kd.R_below (by first | exact Kd.R_below HO.out (below_drew1 (Below.refl _ _)) | exact Kd.R_below HO.out (below_drew1 (below_alloc (Below.refl _ _) _)) | exact Kd.R_below HO.out (below_alloc (Below.refl _ _) _) | exact HO.out) hb); replace HB := Aside0.mk (below_step (by first | exact below_drew1 HB.out | exact below_drew1 (below_alloc HB.out _) | exact below_alloc HB.out _ | exact HB.out) hb); clear hb)
          | (go_at_call 22; (with_reducible refine (Hl.out _ ?hH).mono ?_); (case hH => exact (by first | exact H1.out.below (below_drew1 (Below.refl _ _)) | exact H1.out.below (below_drew1 (below_alloc (Below.refl _ _) _)) | exact H1.out.below (below_alloc (Below.refl _ _) _) | exact H1.out)); rintro e w8 ⟨rfl, rfl⟩))
        all_goals (go_wp2; go_roundg (gk - 1))
        all_goals first
          | (show gk - 1 < gk; have := HI.out; have := HIM.out; omega)
          | exact ⟨ps ++ [P], to_, i + 1, by rw [hto], rfl, ⟨by have := HI.out; have := HIM.out; omega⟩, ⟨HTO.out.2⟩, ⟨by rw [List.length_append, HPL.out]; rfl⟩, HO, ⟨fun p hp => by rcases List.mem_append.1 hp with h_ | h_; exact HPO.out p h_; (have e_ : p = P := by simpa using h_); rw [e_]; exact HPK.out⟩, ⟨by rw [List.map_append, List.flatten_append, HPF.out]; simpa using HPT.out⟩, H1, HT, HB⟩
    · by_cases hi1 : (i : Int) < (cuts.length : Int)
      · have hi2 : ¬ ((i : Int) < 40) := by have := HMM.out; have := HI.out; omega
        clear hi
        have h3 := HL3.out
        have hcut : ∀ W : World, (Instr.slice 22 (.slice A0 L c0) (some (.int .i64 (at_ : Int))) none none).run Tryd.prog W = .ok (.slice (if c0 = at_ then A0 else A0.map (·.add (at_ * 1))) (L - at_) (c0 - at_)) W := by
          obtain ⟨i05, hi05, _, hsz05, _⟩ := info_parts P.info5
          have h_ := cut_from (P := Tryd.prog) 22 5 .i64 Tryd.underlying22 hi05 1 (by simpa using hsz05) A0 L c0 (at_ : Int) (by omega) (by have := HAT.out; omega)
          rw [Int.toNat_natCast] at h_
          exact h_
        have hat := HAT.out
        have hPl : (b.drop at_).length = L - at_ := by rw [List.length_drop]; have := HLb.out; omega
        have hCp := Kd.C_drop (m := at_) (c := c0) (HLb.out ▸ HCb.out) (by have := HLb.out; omega) (by have := HLb.out; have := HLc.out; omega)
        have hnp : 0 < L - at_ → ∀ ad, (if c0 = at_ then A0 else A0.map (·.add (at_ * 1))) = some ad → ad.block ≠ g := fun hp => cut_block (HNG.out (by omega))
        obtain ⟨P, hPA, hPc, hPL⟩ : ∃ P : Piece, P.A = (if c0 = at_ then A0 else A0.map (·.add (at_ * 1))) ∧ P.c = c0 - at_ ∧ P.l = b.drop at_ := ⟨⟨_, _, _⟩, rfl, rfl, rfl⟩
        have HPE := Aside0.mk (show P.enc = .slice P.A (L - at_) (c0 - at_) by unfold Piece.enc; rw [hPc, hPL, hPl])
        have HPK := Aside0.mk (show P.ok w from ⟨by rw [hPA, hPL]; exact hCp, by rw [hPL, hPl, hPc]; have := HLc.out; omega⟩)
        have HPT := Aside0.mk (show b.take at_ ++ P.l = b by rw [hPL, List.take_append_drop])
        have HPN := Aside0.mk (show 0 < L - at_ → ∀ ad, P.A = some ad → ad.block ≠ g by rw [hPA]; exact hnp)
        have HPLN := Aside0.mk (show P.l.length = L - at_ by rw [hPL, hPl])
        rw [← hPA] at hcut
        have Hw := Aside0.mk (fun (W : World) (hH : HashAt W g (b.take at_)) (hB : Below w.heap.size w W) => (show Calls Tryd.prog 10 #[.pointer (some ⟨g, 0, none⟩), .slice P.A (L - at_) (c0 - at_)] W fun e w' => (∃ v, e = .returned v) ∧ HashAt w' g b ∧ But g W w' from by
          have h_ := write_calls g P.A (c0 - at_) (b.take at_) P.l W hH (HPLN.out ▸ Kd.C_below (HPLN.out ▸ HPK.out.1) hB) (HPLN.out ▸ HPN.out) (by rw [HPLN.out]; have := HLc.out; omega) (HTw.out.below hB) (by have := HG.out; have := HZ.out; omega) (by rw [HPLN.out, List.length_take]; have := HLb.out; have := HL3.out; omega)
          rw [HPLN.out, HPT.out] at h_
          exact h_))
        have Hk := Aside0.mk (fun (W : World) (hH : HashAt W g b) hT => key_calls g b W hH hT (by rw [HLb.out]; have := HL3.out; omega))
        have Hs := Aside0.mk (fun (W : World) (hB : Below w.heap.size w W) => (show Calls Tryd.prog 11 #[.slice (some ⟨W.heap.size, 0, none⟩) 1 1] (W.alloc (.cells #[.slice A0 L c0] 22)) fun e w' => e = .returned (.agg (arr8 (sumL b))) ∧ Below (W.alloc (.cells #[.slice A0 L c0] 22)).heap.size (W.alloc (.cells #[.slice A0 L c0] 22)) w' from by
          have h1_ := C_row1 (c1 := c0) (l := b) (W := W) (A1 := A0) (by rw [HLb.out]; exact Kd.C_below HCb.out hB) (by have := HLb.out; have := HLc.out; omega)
          rw [HLb.out] at h1_
          have h_ := sum_calls (some ⟨W.heap.size, 0, none⟩) 1 [b] _ h1_ (Nat.le_refl 1) ((HTw.out.below hB).below (below_alloc (Below.refl _ _) _)) (by have := HLb.out; have := HL3.out; simp; omega)
          rw [show ([b] : List (List Int)).flatten = b by simp] at h_
          exact h_))
        have Hs2 := Aside0.mk (fun (W : World) (v : Value) (hO : Kd.R KP 22 W w.heap.size (fun k => k ≠ g) v (ps ++ [P])) (hB : Below w.heap.size w W) => (show Calls Tryd.prog 11 #[v] W fun e w' => e = .returned (.agg (arr8 (sumL b))) ∧ Below W.heap.size W w' from by
          obtain ⟨A9, c9, rfl, hc9, hC9⟩ := Kd.R_reads hO
          have hf : ((ps ++ [P]).map Piece.l).flatten = b := by rw [List.map_append, List.flatten_append, HPF.out]; simpa using HPT.out
          have h1_ := C_pieces hC9 (fun p hp => Piece.ok_below (w := w) (by rcases List.mem_append.1 hp with h_ | h_; exact HPO.out p h_; (have e_ : p = P := by simpa using h_); rw [e_]; exact HPK.out) hB)
          have h_ := sum_calls A9 c9 ((ps ++ [P]).map Piece.l) W (by rw [List.length_map]; exact h1_) (by rw [List.length_map]; exact hc9) (HTw.out.below hB) (by rw [hf]; have := HLb.out; have := HL3.out; omega)
          rw [hf, List.length_map] at h_
          exact h_))
        have heq : ∀ W : World, (Op.equalIn 10000 27 (.agg (arr8 (sumL b))) (.agg (arr8 (sumL b)))).run Tryd.prog W = .ok true W := fun W => eq_key 9998 _ (sumL_len _) W
        generalize arr8 (sumL b) = ck at Hk Hs Hs2 heq
        generalize hln : L - at_ = ln at hcut HPE Hw
        have HLN := Aside0.mk hln
        generalize hcp : c0 - at_ = cp at hcut HPE Hw
        clear hPl hCp hnp hPA hPc hPL hln hcp hat
        have H13 := Aside0.mk (fun (W : World) (hH : HashAt W g b) hT => Hk.out W hH hT)
        go_wp2_with (first
          | ((with_reducible refine gate_builtin (b := .append) (xs := #[.tmp 80, .tmp 84]) rfl ?_); at_builtin; refine Kd.R_append KP (w0 := w) w.heap.size rfl (.tmp 80) (.tmp 84) 32 22 (.slice none 0 0) 24 rfl Tryd.underlying32 info22 rfl (by decide) (by decide) (.slice A6 ps.length c6) ps P [.slice P.A ln cp] (fun k => k ≠ g) (fun _ => False) rfl rfl (show [_] = [Piece.enc P] by rw [HPE.out]) (fun _ hk => hk.elim) (fun k hk => by have := H1.out.lt; omega) HO.out HB.out HB.out.size (by have := HPL.out; have := HM.out; have := HI.out; omega) ?_; intro v6 w4 ho hb hg hat; have H14 := Aside0.mk (HashAt.grown H1.out hg (fun e => HO.out.1 g e.symm rfl)); replace HO := Aside0.mk ho; replace HB := Aside0.mk hb; replace H1 := H14; clear H14 ho hb hg hat)
          | (go_at_call 10; (with_reducible refine (Hw.out _ ?hH ?hB).mono ?_); (case hH => exact H1.out); (case hB => exact HB.out); rintro e w5 ⟨⟨v5_, rfl⟩, hh5, hbut5⟩; replace H1 := Aside0.mk hh5; replace HO := Aside0.mk (Kd.R_step HO.out (fun k hk hlt => hbut5.block k hlt hk)); replace HB := Aside0.mk (But.below HB.out hbut5 HG.out); replace HT := Aside0.mk (HTw.out.below HB.out); clear hh5 hbut5)
          | (go_at_call 13; (with_reducible refine (Hk.out _ ?hH ?hT).mono ?_); (case hH => exact (by first | exact H1.out.below (below_drew1 (Below.refl _ _)) | exact H1.out.below (below_drew1 (below_alloc (Below.refl _ _) _)) | exact H1.out.below (below_alloc (Below.refl _ _) _) | exact H1.out)); (case hT => exact (by first | exact HT.out.below (below_drew1 (Below.refl _ _)) | exact HT.out.below (below_drew1 (below_alloc (Below.refl _ _) _)) | exact HT.out.below (below_alloc (Below.refl _ _) _) | exact HT.out)); rintro e w6 ⟨rfl, hb⟩; replace H1 := Aside0.mk (HashAt.below (by first | exact H1.out.below (below_drew1 (Below.refl _ _)) | exact H1.out.below (below_drew1 (below_alloc (Below.refl _ _) _)) | exact H1.out.below (below_alloc (Below.refl _ _) _) | exact H1.out) hb); replace HT := Aside0.mk (Tab.below (by first | exact HT.out.below (below_drew1 (Below.refl _ _)) | exact HT.out.below (below_drew1 (below_alloc (Below.refl _ _) _)) | exact HT.out.below (below_alloc (Below.refl _ _) _) | exact HT.out) hb); replace HO := Aside0.mk (Kd.R_below (by first | exact Kd.R_below HO.out (below_drew1 (Below.refl _ _)) | exact Kd.R_below HO.out (below_drew1 (below_alloc (Below.refl _ _) _)) | exact Kd.R_below HO.out (below_alloc (Below.refl _ _) _) | exact HO.out) hb); replace HB := Aside0.mk (below_step (by first | exact below_drew1 HB.out | exact below_drew1 (below_alloc HB.out _) | exact below_alloc HB.out _ | exact HB.out) hb); clear hb)
          | (go_at_call 11; (with_reducible refine (Hs.out _ ?hB).mono ?_); (case hB => exact HB.out); rintro e w7 ⟨rfl, hb⟩; replace H1 := Aside0.mk (HashAt.below (by first | exact H1.out.below (below_drew1 (Below.refl _ _)) | exact H1.out.below (below_drew1 (below_alloc (Below.refl _ _) _)) | exact H1.out.below (below_alloc (Below.refl _ _) _) | exact H1.out) hb); replace HT := Aside0.mk (Tab.below (by first | exact HT.out.below (below_drew1 (Below.refl _ _)) | exact HT.out.below (below_drew1 (below_alloc (Below.refl _ _) _)) | exact HT.out.below (below_alloc (Below.refl _ _) _) | exact HT.out) hb); replace HO := Aside0.mk (Kd.R_below (by first | exact Kd.R_below HO.out (below_drew1 (Below.refl _ _)) | exact Kd.R_below HO.out (below_drew1 (below_alloc (Below.refl _ _) _)) | exact Kd.R_below HO.out (below_alloc (Below.refl _ _) _) | exact HO.out) hb); replace HB := Aside0.mk (below_step (by first | exact below_drew1 HB.out | exact below_drew1 (below_alloc HB.out _) | exact below_alloc HB.out _ | exact HB.out) hb); clear hb)
          | (go_at_call 11; (with_reducible refine (Hs2.out _ _ ?hO ?hB).mono ?_); (case hO => exact HO.out); (case hB => exact HB.out); rintro e w8 ⟨rfl, hb⟩; replace H1 := Aside0.mk (HashAt.below (by first | exact H1.out.below (below_drew1 (Below.refl _ _)) | exact H1.out.below (below_drew1 (below_alloc (Below.refl _ _) _)) | exact H1.out.below (below_alloc (Below.refl _ _) _) | exact H1.out) hb); replace HT := Aside0.mk (Tab.below (by first | exact HT.out.below (below_drew1 (Below.refl _ _)) | exact HT.out.below (below_drew1 (below_alloc (Below.refl _ _) _)) | exact HT.out.below (below_alloc (Below.refl _ _) _) | exact HT.out) hb); replace HO := Aside0.mk (Kd.R_below (by first | exact Kd.R_below HO.out (below_drew1 (Below.refl _ _)) | exact Kd.R_below HO.out (below_drew1 (below_alloc (Below.refl _ _) _)) | exact Kd.R_below HO.out (below_alloc (Below.refl _ _) _) | exact HO.out) hb); replace HB := Aside0.mk (below_step (by first | exact below_drew1 HB.out | exact below_drew1 (below_alloc HB.out _) | exact below_alloc HB.out _ | exact HB.out) hb); clear hb))
        go_ret
        exact ⟨rfl, HB.out⟩
      · clear hi
        have h3 := HL3.out
        have hcut : ∀ W : World, (Instr.slice 22 (.slice A0 L c0) (some (.int .i64 (at_ : Int))) none none).run Tryd.prog W = .ok (.slice (if c0 = at_ then A0 else A0.map (·.add (at_ * 1))) (L - at_) (c0 - at_)) W := by
          obtain ⟨i05, hi05, _, hsz05, _⟩ := info_parts P.info5
          have h_ := cut_from (P := Tryd.prog) 22 5 .i64 Tryd.underlying22 hi05 1 (by simpa using hsz05) A0 L c0 (at_ : Int) (by omega) (by have := HAT.out; omega)
          rw [Int.toNat_natCast] at h_
          exact h_
        have hat := HAT.out
        have hPl : (b.drop at_).length = L - at_ := by rw [List.length_drop]; have := HLb.out; omega
        have hCp := Kd.C_drop (m := at_) (c := c0) (HLb.out ▸ HCb.out) (by have := HLb.out; omega) (by have := HLb.out; have := HLc.out; omega)
        have hnp : 0 < L - at_ → ∀ ad, (if c0 = at_ then A0 else A0.map (·.add (at_ * 1))) = some ad → ad.block ≠ g := fun hp => cut_block (HNG.out (by omega))
        obtain ⟨P, hPA, hPc, hPL⟩ : ∃ P : Piece, P.A = (if c0 = at_ then A0 else A0.map (·.add (at_ * 1))) ∧ P.c = c0 - at_ ∧ P.l = b.drop at_ := ⟨⟨_, _, _⟩, rfl, rfl, rfl⟩
        have HPE := Aside0.mk (show P.enc = .slice P.A (L - at_) (c0 - at_) by unfold Piece.enc; rw [hPc, hPL, hPl])
        have HPK := Aside0.mk (show P.ok w from ⟨by rw [hPA, hPL]; exact hCp, by rw [hPL, hPl, hPc]; have := HLc.out; omega⟩)
        have HPT := Aside0.mk (show b.take at_ ++ P.l = b by rw [hPL, List.take_append_drop])
        have HPN := Aside0.mk (show 0 < L - at_ → ∀ ad, P.A = some ad → ad.block ≠ g by rw [hPA]; exact hnp)
        have HPLN := Aside0.mk (show P.l.length = L - at_ by rw [hPL, hPl])
        rw [← hPA] at hcut
        have Hw := Aside0.mk (fun (W : World) (hH : HashAt W g (b.take at_)) (hB : Below w.heap.size w W) => (show Calls Tryd.prog 10 #[.pointer (some ⟨g, 0, none⟩), .slice P.A (L - at_) (c0 - at_)] W fun e w' => (∃ v, e = .returned v) ∧ HashAt w' g b ∧ But g W w' from by
          have h_ := write_calls g P.A (c0 - at_) (b.take at_) P.l W hH (HPLN.out ▸ Kd.C_below (HPLN.out ▸ HPK.out.1) hB) (HPLN.out ▸ HPN.out) (by rw [HPLN.out]; have := HLc.out; omega) (HTw.out.below hB) (by have := HG.out; have := HZ.out; omega) (by rw [HPLN.out, List.length_take]; have := HLb.out; have := HL3.out; omega)
          rw [HPLN.out, HPT.out] at h_
          exact h_))
        have Hk := Aside0.mk (fun (W : World) (hH : HashAt W g b) hT => key_calls g b W hH hT (by rw [HLb.out]; have := HL3.out; omega))
        have Hs := Aside0.mk (fun (W : World) (hB : Below w.heap.size w W) => (show Calls Tryd.prog 11 #[.slice (some ⟨W.heap.size, 0, none⟩) 1 1] (W.alloc (.cells #[.slice A0 L c0] 22)) fun e w' => e = .returned (.agg (arr8 (sumL b))) ∧ Below (W.alloc (.cells #[.slice A0 L c0] 22)).heap.size (W.alloc (.cells #[.slice A0 L c0] 22)) w' from by
          have h1_ := C_row1 (c1 := c0) (l := b) (W := W) (A1 := A0) (by rw [HLb.out]; exact Kd.C_below HCb.out hB) (by have := HLb.out; have := HLc.out; omega)
          rw [HLb.out] at h1_
          have h_ := sum_calls (some ⟨W.heap.size, 0, none⟩) 1 [b] _ h1_ (Nat.le_refl 1) ((HTw.out.below hB).below (below_alloc (Below.refl _ _) _)) (by have := HLb.out; have := HL3.out; simp; omega)
          rw [show ([b] : List (List Int)).flatten = b by simp] at h_
          exact h_))
        have Hs2 := Aside0.mk (fun (W : World) (v : Value) (hO : Kd.R KP 22 W w.heap.size (fun k => k ≠ g) v (ps ++ [P])) (hB : Below w.heap.size w W) => (show Calls Tryd.prog 11 #[v] W fun e w' => e = .returned (.agg (arr8 (sumL b))) ∧ Below W.heap.size W w' from by
          obtain ⟨A9, c9, rfl, hc9, hC9⟩ := Kd.R_reads hO
          have hf : ((ps ++ [P]).map Piece.l).flatten = b := by rw [List.map_append, List.flatten_append, HPF.out]; simpa using HPT.out
          have h1_ := C_pieces hC9 (fun p hp => Piece.ok_below (w := w) (by rcases List.mem_append.1 hp with h_ | h_; exact HPO.out p h_; (have e_ : p = P := by simpa using h_); rw [e_]; exact HPK.out) hB)
          have h_ := sum_calls A9 c9 ((ps ++ [P]).map Piece.l) W (by rw [List.length_map]; exact h1_) (by rw [List.length_map]; exact hc9) (HTw.out.below hB) (by rw [hf]; have := HLb.out; have := HL3.out; omega)
          rw [hf, List.length_map] at h_
          exact h_))
        have heq : ∀ W : World, (Op.equalIn 10000 27 (.agg (arr8 (sumL b))) (.agg (arr8 (sumL b)))).run Tryd.prog W = .ok true W := fun W => eq_key 9998 _ (sumL_len _) W
        generalize arr8 (sumL b) = ck at Hk Hs Hs2 heq
        generalize hln : L - at_ = ln at hcut HPE Hw
        have HLN := Aside0.mk hln
        generalize hcp : c0 - at_ = cp at hcut HPE Hw
        clear hPl hCp hnp hPA hPc hPL hln hcp hat
        have H13 := Aside0.mk (fun (W : World) (hH : HashAt W g b) hT => Hk.out W hH hT)
        go_wp2_with (first
          | ((with_reducible refine gate_builtin (b := .append) (xs := #[.tmp 80, .tmp 84]) rfl ?_); at_builtin; refine Kd.R_append KP (w0 := w) w.heap.size rfl (.tmp 80) (.tmp 84) 32 22 (.slice none 0 0) 24 rfl Tryd.underlying32 info22 rfl (by decide) (by decide) (.slice A6 ps.length c6) ps P [.slice P.A ln cp] (fun k => k ≠ g) (fun _ => False) rfl rfl (show [_] = [Piece.enc P] by rw [HPE.out]) (fun _ hk => hk.elim) (fun k hk => by have := H1.out.lt; omega) HO.out HB.out HB.out.size (by have := HPL.out; have := HM.out; have := HI.out; omega) ?_; intro v6 w4 ho hb hg hat; have H14 := Aside0.mk (HashAt.grown H1.out hg (fun e => HO.out.1 g e.symm rfl)); replace HO := Aside0.mk ho; replace HB := Aside0.mk hb; replace H1 := H14; clear H14 ho hb hg hat)
          | (go_at_call 10; (with_reducible refine (Hw.out _ ?hH ?hB).mono ?_); (case hH => exact H1.out); (case hB => exact HB.out); rintro e w5 ⟨⟨v5_, rfl⟩, hh5, hbut5⟩; replace H1 := Aside0.mk hh5; replace HO := Aside0.mk (Kd.R_step HO.out (fun k hk hlt => hbut5.block k hlt hk)); replace HB := Aside0.mk (But.below HB.out hbut5 HG.out); replace HT := Aside0.mk (HTw.out.below HB.out); clear hh5 hbut5)
          | (go_at_call 13; (with_reducible refine (Hk.out _ ?hH ?hT).mono ?_); (case hH => exact (by first | exact H1.out.below (below_drew1 (Below.refl _ _)) | exact H1.out.below (below_drew1 (below_alloc (Below.refl _ _) _)) | exact H1.out.below (below_alloc (Below.refl _ _) _) | exact H1.out)); (case hT => exact (by first | exact HT.out.below (below_drew1 (Below.refl _ _)) | exact HT.out.below (below_drew1 (below_alloc (Below.refl _ _) _)) | exact HT.out.below (below_alloc (Below.refl _ _) _) | exact HT.out)); rintro e w6 ⟨rfl, hb⟩; replace H1 := Aside0.mk (HashAt.below (by first | exact H1.out.below (below_drew1 (Below.refl _ _)) | exact H1.out.below (below_drew1 (below_alloc (Below.refl _ _) _)) | exact H1.out.below (below_alloc (Below.refl _ _) _) | exact H1.out) hb); replace HT := Aside0.mk (Tab.below (by first | exact HT.out.below (below_drew1 (Below.refl _ _)) | exact HT.out.below (below_drew1 (below_alloc (Below.refl _ _) _)) | exact HT.out.below (below_alloc (Below.refl _ _) _) | exact HT.out) hb); replace HO := Aside0.mk (Kd.R_below (by first | exact Kd.R_below HO.out (below_drew1 (Below.refl _ _)) | exact Kd.R_below HO.out (below_drew1 (below_alloc (Below.refl _ _) _)) | exact Kd.R_below HO.out (below_alloc (Below.refl _ _) _) | exact HO.out) hb); replace HB := Aside0.mk (below_step (by first | exact below_drew1 HB.out | exact below_drew1 (below_alloc HB.out _) | exact below_alloc HB.out _ | exact HB.out) hb); clear hb)
          | (go_at_call 11; (with_reducible refine (Hs.out _ ?hB).mono ?_); (case hB => exact HB.out); rintro e w7 ⟨rfl, hb⟩; replace H1 := Aside0.mk (HashAt.below (by first | exact H1.out.below (below_drew1 (Below.refl _ _)) | exact H1.out.below (below_drew1 (below_alloc (Below.refl _ _) _)) | exact H1.out.below (below_alloc (Below.refl _ _) _) | exact H1.out) hb); replace HT := Aside0.mk (Tab.below (by first | exact HT.out.below (below_drew1 (Below.refl _ _)) | exact HT.out.below (below_drew1 (below_alloc (Below.refl _ _) _)) | exact HT.out.below (below_alloc (Below.refl _ _) _) | exact HT.out) hb); replace HO := Aside0.mk (Kd.R_below (by first | exact Kd.R_below HO.out (below_drew1 (Below.refl _ _)) | exact Kd.R_below HO.out (below_drew1 (below_alloc (Below.refl _ _) _)) | exact Kd.R_below HO.out (below_alloc (Below.refl _ _) _) | exact HO.out) hb); replace HB := Aside0.mk (below_step (by first | exact below_drew1 HB.out | exact below_drew1 (below_alloc HB.out _) | exact below_alloc HB.out _ | exact HB.out) hb); clear hb)
          | (go_at_call 11; (with_reducible refine (Hs2.out _ _ ?hO ?hB).mono ?_); (case hO => exact HO.out); (case hB => exact HB.out); rintro e w8 ⟨rfl, hb⟩; replace H1 := Aside0.mk (HashAt.below (by first | exact H1.out.below (below_drew1 (Below.refl _ _)) | exact H1.out.below (below_drew1 (below_alloc (Below.refl _ _) _)) | exact H1.out.below (below_alloc (Below.refl _ _) _) | exact H1.out) hb); replace HT := Aside0.mk (Tab.below (by first | exact HT.out.below (below_drew1 (Below.refl _ _)) | exact HT.out.below (below_drew1 (below_alloc (Below.refl _ _) _)) | exact HT.out.below (below_alloc (Below.refl _ _) _) | exact HT.out) hb); replace HO := Aside0.mk (Kd.R_below (by first | exact Kd.R_below HO.out (below_drew1 (Below.refl _ _)) | exact Kd.R_below HO.out (below_drew1 (below_alloc (Below.refl _ _) _)) | exact Kd.R_below HO.out (below_alloc (Below.refl _ _) _) | exact HO.out) hb); replace HB := Aside0.mk (below_step (by first | exact below_drew1 HB.out | exact below_drew1 (below_alloc HB.out _) | exact below_alloc HB.out _ | exact HB.out) hb); clear hb))
        go_ret
        exact ⟨rfl, HB.out⟩
end Go.Proofs.YthnmpkhjpfhloaaDoor.M
