import Derived.Test.YthnmpkhjpfhloaaDoorProg
import Derived.Below
import Derived.Deep.Draws
import Derived.Deep.AppendLies
import Derived.Maps.AppendAt
import Derived.OwnWalk
import Derived.Laws.BytesArg
import Derived.Laws.MakeOwn
import Derived.Laws.OwnMore
import Derived.Deep.OwnRows
import Derived.Tactics
import Derived.Lib.ConvBytes
import Derived.Laws.Slices
import Derived.WalkKit
import Derived.KernelRfl
import Derived.RowKit3
import Derived.Deep.LoopGhost
import Derived.Deep.QuietTactic
import Derived.BigQuiet
import Derived.WideLaws
import Derived.Deep.DeepCutAuto
import Derived.Deep.CutBlock
import Derived.Deep.RegionHeld3
import Derived.Laws.Rows
import Derived.Lib.AppendStr
import Derived.ArgAppend
import Derived.Laws.IdiomCopy
import Derived.OrdersHeld
import Derived.Laws.BitsLemmas
import Derived.RowKit
import Derived.Test.YthnmpkhjpfhloaaDoorWWords
import Derived.Test.YthnmpkhjpfhloaaDoorWLast
import Derived.Test.YthnmpkhjpfhloaaDoorWTab
import Derived.Test.YthnmpkhjpfhloaaDoorWFour
import Derived.Test.YthnmpkhjpfhloaaDoorWQPut
import Derived.Test.YthnmpkhjpfhloaaDoorWApart
import Derived.Test.YthnmpkhjpfhloaaDoorWArr
import Derived.Test.YthnmpkhjpfhloaaDoorWZeros
import Derived.Test.YthnmpkhjpfhloaaDoorWFoot
import Derived.Test.YthnmpkhjpfhloaaDoorWKept
import Derived.Test.YthnmpkhjpfhloaaDoorWShare
import Derived.Test.YthnmpkhjpfhloaaDoorWN
import Derived.Test.YthnmpkhjpfhloaaDoorWFootNe
import Derived.Test.YthnmpkhjpfhloaaDoorWAt
import Derived.Test.YthnmpkhjpfhloaaDoorWEqStruct
import Derived.Test.YthnmpkhjpfhloaaDoorWRepsOne
import Derived.Test.YthnmpkhjpfhloaaDoorWInv
import Derived.Test.YthnmpkhjpfhloaaDoorWInvWords
import Derived.Test.YthnmpkhjpfhloaaDoorWGuard
import Derived.Test.YthnmpkhjpfhloaaDoorWNEv
import Derived.Test.YthnmpkhjpfhloaaDoorWMore
import Derived.Laws.BitsAllLaws
import Derived.StillTailTactics
import Derived.Test.YthnmpkhjpfhloaaDoorMs
import Derived.Deep.WholeRow
import Derived.Test.YthnmpkhjpfhloaaDoorMb
namespace Go.Proofs.YthnmpkhjpfhloaaDoor.M
open Go.RowKit Go.Proofs.YthnmpkhjpfhloaaDoorW.PrintWords Go.Proofs.YthnmpkhjpfhloaaDoorW.PrintLast Go.Proofs.YthnmpkhjpfhloaaDoorW.PrintMore
set_option linter.unusedVariables false
set_option linter.unusedSimpArgs false
theorem R_ne {k : IntKind} {e : Nat} {w : World} {base : Nat} {ok : Nat → Prop} {A : Option Addr} {n c : Nat} {xs : List Int} (h : Kd.R (Kd.int k) e w base ok (.slice A n c) xs) : ∀ ad, A = some ad → ad.block < w.heap.size := fun ad e => Kd.R_lt h ad.block (by rw [e]; rfl)
theorem cut_block {A : Option Addr} {g m c : Nat} (h : ∀ ad, A = some ad → ad.block ≠ g) : ∀ ad, (if c = m then A else A.map (·.add (m * 1))) = some ad → ad.block ≠ g := fun ad he => by
  split at he
  · exact h ad he
  · cases hq : A with
    | none => rw [hq] at he; cases he
    | some ad0 =>
      rw [hq] at he
      have he' : ad0.add (m * 1) = ad := by simpa using he
      have hbk : (ad0.add (m * 1)).block = ad0.block := by unfold Addr.add; split <;> rfl
      rw [← he', hbk]
      exact h ad0 hq
def LongSaid : Prop := ∀ (a0 a1 a2 a3 : Int) (w : World), Tab w → -9223372036854775808 ≤ a0 → a0 < 9223372036854775808 → -9223372036854775808 ≤ a3 → a3 < 9223372036854775808 →
    Calls Tryd.prog 6 #[.int .i64 a0, .int .i64 a1, .int .i64 a2, .int .i64 a3] w fun e w' => e = .returned (.bool true) ∧ Below w.heap.size w w'
set_option maxHeartbeats 8000000 in
set_option maxRecDepth 100000 in
set_option pp.deepTerms true in
set_option pp.maxSteps 1000000 in
theorem long_ok_ok (n : Nat) (a3 a1 a2 : Int) (w : World) (hT : Tab w) (hn : n ≤ 200000) (hp : 1 ≤ a3) (hq : a3 < 9223372036854775808) : Calls Tryd.prog 6 #[.int .i64 ((n : Nat) : Int), .int .i64 a1, .int .i64 a2, .int .i64 a3] w fun e w' => e = .returned (.bool true) ∧ Below w.heap.size w w' := by
  have HT := Aside0.mk hT
  have HZ := Aside0.mk (show w.heap.size ≠ 0 by have h_ := World.block_lt_of_cell? w _ (hT 0 (by decide)); intro e; rw [e] at h_; exact Nat.not_lt_zero _ h_)
  have HB := Aside0.mk (Below.refl w.heap.size w)
  clear hT
  have h0a : decide (((n : Nat) : Int) < 0) = false := decide_eq_false (by omega)
  have h0b : decide ((200000 : Int) < ((n : Nat) : Int)) = false := decide_eq_false (by omega)
  have h0c : ¬ (((n : Nat) : Int) < 0) := by omega
  have h0d : ¬ ((200000 : Int) < ((n : Nat) : Int)) := by omega
  have h0e : ((n : Nat) : Int) ≤ 200000 := by omega
  have h3a : decide (a3 < 1) = false := decide_eq_false (by omega)
  have h3b : ¬ (a3 < 1) := by omega
  have HTw := HT

  go_enter Tryd.func6, Tryd.ntmps6
  go_wp2_with (first | (go_at_call 14; (with_reducible refine (told_calls _ HT.out).mono ?_); rintro e w1 ⟨rfl, hb⟩; replace HT := Aside0.mk (HT.out.below hb); replace HB := Aside0.mk hb; clear hb))
  have HO0 := Aside0.mk (Kd.R_nil (Kd.int .u8) 5 w1 w.heap.size (fun _ => True))
  go_loopg [9, 10] n (fun k v9 v10 wr => ∃ (i : Nat) (l : List Int), v10 = .int .i64 i ∧ i + k = n ∧ Aside0 (l.length = i) ∧ Aside0 (Kd.R (Kd.int .u8) 5 wr w.heap.size (fun _ => True) v9 l) ∧ Aside0 (Tab wr) ∧ Aside0 (Below w.heap.size w wr))
  case atStart => exact ⟨0, [], rfl, Nat.zero_add _, ⟨rfl⟩, HO0, HT, HB⟩
  case round =>
    clear HO0 HT HB
    obtain ⟨i, l, rfl, hk, HL, HO, HT, HB⟩ := hrel
    obtain ⟨A1, c1, e1⟩ := Kd.R_slice HO.out
    subst e1
    have HK := Aside0.mk hk
    by_cases hi : i < n
    · have hii : (i : Int) < ((n : Nat) : Int) := by omega
      have HI := Aside0.mk hi
      have hiw : wrap64 ((i : Int) + 1) = ((i + 1 : Nat) : Int) := by unfold wrap64; omega
      clear hk
      go_wp2_with (first | ((with_reducible refine gate_builtin (b := .append) (xs := #[.tmp 30, .tmp 37]) rfl ?_); at_builtin; refine Kd.R_append (Kd.int .u8) (w0 := w) w.heap.size rfl (.tmp 30) (.tmp 37) 22 5 (.int .u8 0) 1 rfl Tryd.underlying22 P.info5 rfl (by decide) (by omega) (.slice A1 l.length c1) l _ [.int .u8 _] (fun _ => True) (fun _ => False) rfl rfl rfl (fun _ hk => hk.elim) (fun _ _ => trivial) HO.out HB.out HB.out.size (by have := HL.out; have := HI.out; omega) ?_; intro v1 w4 ho hb hg hat; have HO4 := Aside0.mk ho; have HB4 := Aside0.mk hb; have HT4 := Aside0.mk (HTw.out.below hb); clear ho hb hg hat))
      go_roundg (gk - 1)
      case measure => (have h1 := HK.out; have h2 := HI.out; omega)
      case rel =>
        have h1 := HK.out
        have h2 := HI.out
        exact ⟨i + 1, _, by first | rfl | go_num, by omega, ⟨by rw [List.length_append, HL.out]; rfl⟩, HO4, HT4, HB4⟩
    · obtain rfl : gk = 0 := by omega
      have hin : i = n := by omega
      have HIN := Aside0.mk hin
      have hfin : ¬ ((i : Int) < ((n : Nat) : Int)) := by omega
      clear hin
      have hs : (arr8 (sumL l)).size = 32 := by rw [arr8_size]; exact sumL_len _
      have HS := Aside0.mk hs
      have hone := Aside0.mk (arr8_one (sumL l))
      have heq : ∀ W : World, (Op.equalIn 10000 27 (.agg (arr8 (sumL l))) (.agg (arr8 (sumL l)))).run Tryd.prog W = .ok true W := fun W => eq_key 9998 _ (sumL_len _) W
      have Hr := Aside0.mk (refSum_calls A1 c1 l wr (Kd.R_reads' HO.out).2.2 (by have := HL.out; have := HIN.out; omega) (Kd.R_reads' HO.out).2.1)
      have Hs := Aside0.mk (fun (ad : Addr) (W : World) hC hT => (show Calls Tryd.prog 11 #[.slice (some ad) 1 1] W fun e w' => e = .returned (.agg (arr8 (sumL l))) ∧ Below W.heap.size W w' from by
        have h_ := sum_calls (some ad) 1 [l] W hC (Nat.le_refl 1) hT (by have := HL.out; have := HIN.out; simp; omega)
        rw [show ([l] : List (List Int)).flatten = l by simp] at h_
        exact h_))
      have Hk := Aside0.mk (fun (g : Nat) (W : World) hH hT => key_calls g l W hH hT (by have := HL.out; have := HIN.out; omega))
      generalize hck : arr8 (sumL l) = ck at hs HS hone heq Hr Hs Hk
      clear hck hk
      go_wp2_with (first | (go_at_call 16; (with_reducible refine Hr.out.mono ?_); rintro e w2 ⟨rfl, hb⟩; replace HO := Aside0.mk (Kd.R_below HO.out hb); replace HT := Aside0.mk (HT.out.below hb); replace HB := Aside0.mk (below_step HB.out hb); clear hb))
      rw [st_new (P := Tryd.prog) (t := 27) (c' := ck) rfl (by rw [HS.out]; kernel_rfl) (by rw [HS.out]; rfl) hone.out]
      generalize hW3 : World.alloc w2 (Obj.cells ck 27) = w3
      have BK := Aside0.mk (show w3.heap[w2.heap.size]? = some (.cells ck 27 (0, 0)) from by rw [← hW3]; exact blk_new w2 _)
      replace HO := Aside0.mk (show Kd.R (Kd.int .u8) 5 w3 w.heap.size (fun _ => True) (.slice A1 l.length c1) l from by rw [← hW3]; exact Kd.R_alloc HO.out _)
      replace HT := Aside0.mk (show Tab w3 from by rw [← hW3]; exact HT.out.below (below_alloc (Below.refl _ _) _))
      replace HB := Aside0.mk (show Below w.heap.size w w3 from by rw [← hW3]; exact below_alloc HB.out _)
      clear hW3 Hr
      generalize w2.heap.size = nk at BK ⊢
      go_wp2_with (first | (go_at_call 9; (with_reducible refine (new_calls _).mono ?_); rintro e w4 ⟨g, rfl, hg, hH, hb⟩; have HNG := Aside0.mk (show ∀ ad, A1 = some ad → ad.block ≠ g from fun ad e => by have := R_ne HO.out ad e; omega); have HKG := Aside0.mk (show nk ≠ g by have := blk_lt BK.out; omega); have HWG := Aside0.mk (show w.heap.size ≤ g by have := HB.out.size; omega); have H1 := Aside0.mk hH; replace HO := Aside0.mk (Kd.R_below HO.out hb); replace HT := Aside0.mk (HT.out.below hb); replace HB := Aside0.mk (below_step HB.out hb); replace BK := Aside0.mk (blk_below BK.out hb); clear hb hH hg))
      have hu27 := Tryd.underlying27
      have hi27 : (Tryd.prog.info? 27).map (·.size) = some ck.toList.length := by rw [Array.length_toList, HS.out]; kernel_rfl
      have hrg := Aside0.mk (fun (W : World) (h : W.heap[nk]? = some (.cells ck 27 (0, 0))) => (show W.rangeAt nk 0 ck.toList from fun j v hv => by rw [Nat.zero_add, cell_of_row W nk j ck 27 (0, 0) h]; simpa using hv))
      have hbk := BK.out
      go_region_held3 (fun W => W.rangeAt nk 0 ck.toList ∧ W.heap[nk]? = some (.cells ck 27 (0, 0))) (first | assumption | exact ⟨hrg.out _ (by first | assumption | exact blk_drew (by assumption) | exact blk_alloc (by assumption) _ | exact blk_below (by assumption) (by assumption)), by first | assumption | exact blk_drew (by assumption) | exact blk_alloc (by assumption) _ | exact blk_below (by assumption) (by assumption)⟩) (first | (go_at_call 11; (refine (Hs.out _ _ ?hC ?hT).mono ?_); (case hC => exact Kd.C_drew (C_row1 (Kd.R_reads' HO.out).2.2 (Kd.R_reads' HO.out).2.1)); (case hT => exact HT.out.below (below_drew1 (below_alloc (Below.refl _ _) _))); rintro e w5 ⟨rfl, hb⟩; have hbx : Below w4.heap.size w4 w5 := below_step (below_drew1 (below_alloc (Below.refl _ _) _)) hb; replace BK := Aside0.mk (blk_below BK.out hbx); replace HO := Aside0.mk (Kd.R_below (Kd.R_below HO.out (below_drew1 (below_alloc (Below.refl _ _) _))) hb); replace H1 := Aside0.mk ((H1.out.below (below_drew1 (below_alloc (Below.refl _ _) _))).below hb); replace HT := Aside0.mk ((HT.out.below (below_drew1 (below_alloc (Below.refl _ _) _))).below hb); replace HB := Aside0.mk (below_step (below_drew1 (below_alloc HB.out _)) hb)))
      clear hbk
      have HC1 := Aside0.mk (Kd.R_reads' HO.out).2.1
      go_wp2
      go_loopg [13] n (fun k v13 wr => ∃ (at_ : Nat), v13 = .int .i64 at_ ∧ at_ + k = n ∧ Aside0 (HashAt wr g (l.take at_)) ∧ Aside0 (wr.heap[nk]? = some (.cells ck 27 (0, 0))) ∧ Aside0 (Kd.C (Kd.int .u8) wr A1 l.length l) ∧ Aside0 (Tab wr) ∧ Aside0 (Below w.heap.size w wr))
      case atStart => exact ⟨0, rfl, Nat.zero_add _, H1, BK, ⟨(Kd.R_reads' HO.out).2.2⟩, HT, HB⟩
      case round =>
        clear H1 BK HO HT HB
        obtain ⟨at_, rfl, hk, H1, BK, HO, HT, HB⟩ := hrel
        have HK := Aside0.mk hk
        by_cases hat : at_ < n
        · have HAT := Aside0.mk hat
          have hati : (at_ : Int) < ((n : Nat) : Int) := by omega
          by_cases hpc : a3 < ((n : Nat) : Int) - (at_ : Int)
          · obtain ⟨to_, hto⟩ : ∃ to_ : Nat, (to_ : Int) = (at_ : Int) + a3 := ⟨((at_ : Int) + a3).toNat, by omega⟩
            have hto2 : at_ < to_ ∧ to_ ≤ n := by omega
            have hcut : ∀ W : World, (Instr.slice 22 (.slice A1 l.length c1) (some (.int .i64 (at_ : Int))) (some (.int .i64 ((at_ : Int) + a3))) none).run Tryd.prog W = .ok (.slice (if c1 = at_ then A1 else A1.map (·.add (at_ * 1))) (to_ - at_) (c1 - at_)) W := by
              obtain ⟨i05, hi05, _, hsz05, _⟩ := info_parts P.info5
              have h_ := cut_mid (P := Tryd.prog) 22 5 .i64 .i64 Tryd.underlying22 hi05 1 (by simpa using hsz05) A1 l.length c1 (at_ : Int) ((at_ : Int) + a3) (by omega) (by omega) (by have := HL.out; have := HIN.out; omega) HC1.out
              have e_ : (((at_ : Int) + a3) : Int).toNat = to_ := by omega
              rw [Int.toNat_natCast, e_] at h_
              exact h_
            have HLB := Aside0.mk (show ((l.drop at_).take (to_ - at_)).length = to_ - at_ by rw [List.length_take, List.length_drop]; have := HL.out; have := HIN.out; omega)
            have hCw := Kd.C_take (m := to_ - at_) (Kd.C_drop (m := at_) (c := c1) HO.out (by have := HL.out; have := HIN.out; omega) HC1.out) (by rw [List.length_drop]; have := HL.out; have := HIN.out; omega)
            have Hw := Aside0.mk (write_calls g (if c1 = at_ then A1 else A1.map (·.add (at_ * 1))) (c1 - at_) (l.take at_) ((l.drop at_).take (to_ - at_)) wr H1.out hCw (fun _ => cut_block HNG.out) (by rw [HLB.out]; have := HC1.out; have := HL.out; have := HIN.out; omega) HT.out (by have := HWG.out; have := HZ.out; omega) (by rw [HLB.out, List.length_take]; have := HL.out; have := HIN.out; omega))
            rw [HLB.out, ← List.take_add, show at_ + (to_ - at_) = to_ by omega] at Hw
            generalize (if c1 = at_ then A1 else A1.map (·.add (at_ * 1))) = A2 at hcut Hw
            have HTO := Aside0.mk (show at_ < to_ ∧ to_ ≤ n by omega)
            clear hCw hk
            go_wp2_with (first | (go_at_call 10; (with_reducible refine Hw.out.mono ?_); rintro e w5 ⟨⟨v5_, rfl⟩, hh5, hbut5⟩; have HH5 := Aside0.mk hh5; have HBut5 := Aside0.mk hbut5; clear hh5 hbut5))
            go_roundg (gk - (to_ - at_))
            case measure => (have h1 := HK.out; have h2 := HTO.out; omega)
            case rel =>
              have h1 := HK.out
              have h2 := HTO.out
              have h3 := HKG.out
              have h4 := HWG.out
              have h5 := HZ.out
              exact ⟨to_, by first | rfl | (congr 1; omega) | go_num, by omega, HH5, ⟨(HBut5.out.block _ (blk_lt BK.out) h3).trans BK.out⟩, ⟨HBut5.out.C HO.out (fun _ => HNG.out)⟩, ⟨HBut5.out.tab HT.out (by omega)⟩, ⟨But.below HB.out HBut5.out h4⟩⟩
          · have hto0 : True := trivial
            have hcut : ∀ W : World, (Instr.slice 22 (.slice A1 l.length c1) (some (.int .i64 (at_ : Int))) (some (.int .i64 ((n : Nat) : Int))) none).run Tryd.prog W = .ok (.slice (if c1 = at_ then A1 else A1.map (·.add (at_ * 1))) (n - at_) (c1 - at_)) W := by
              obtain ⟨i05, hi05, _, hsz05, _⟩ := info_parts P.info5
              have h_ := cut_mid (P := Tryd.prog) 22 5 .i64 .i64 Tryd.underlying22 hi05 1 (by simpa using hsz05) A1 l.length c1 (at_ : Int) ((n : Nat) : Int) (by omega) (by omega) (by have := HL.out; have := HIN.out; omega) HC1.out
              have e_ : (((n : Nat) : Int) : Int).toNat = n := by omega
              rw [Int.toNat_natCast, e_] at h_
              exact h_
            have HLB := Aside0.mk (show ((l.drop at_).take (n - at_)).length = n - at_ by rw [List.length_take, List.length_drop]; have := HL.out; have := HIN.out; omega)
            have hCw := Kd.C_take (m := n - at_) (Kd.C_drop (m := at_) (c := c1) HO.out (by have := HL.out; have := HIN.out; omega) HC1.out) (by rw [List.length_drop]; have := HL.out; have := HIN.out; omega)
            have Hw := Aside0.mk (write_calls g (if c1 = at_ then A1 else A1.map (·.add (at_ * 1))) (c1 - at_) (l.take at_) ((l.drop at_).take (n - at_)) wr H1.out hCw (fun _ => cut_block HNG.out) (by rw [HLB.out]; have := HC1.out; have := HL.out; have := HIN.out; omega) HT.out (by have := HWG.out; have := HZ.out; omega) (by rw [HLB.out, List.length_take]; have := HL.out; have := HIN.out; omega))
            rw [HLB.out, ← List.take_add, show at_ + (n - at_) = n by omega] at Hw
            generalize (if c1 = at_ then A1 else A1.map (·.add (at_ * 1))) = A2 at hcut Hw
            have HTO := Aside0.mk (show at_ < n ∧ n ≤ n by omega)
            clear hCw hk
            go_wp2_with (first | (go_at_call 10; (with_reducible refine Hw.out.mono ?_); rintro e w5 ⟨⟨v5_, rfl⟩, hh5, hbut5⟩; have HH5 := Aside0.mk hh5; have HBut5 := Aside0.mk hbut5; clear hh5 hbut5))
            go_roundg (gk - (n - at_))
            case measure => (have h1 := HK.out; have h2 := HTO.out; omega)
            case rel =>
              have h1 := HK.out
              have h2 := HTO.out
              have h3 := HKG.out
              have h4 := HWG.out
              have h5 := HZ.out
              exact ⟨n, by first | rfl | (congr 1; omega) | go_num, by omega, HH5, ⟨(HBut5.out.block _ (blk_lt BK.out) h3).trans BK.out⟩, ⟨HBut5.out.C HO.out (fun _ => HNG.out)⟩, ⟨HBut5.out.tab HT.out (by omega)⟩, ⟨But.below HB.out HBut5.out h4⟩⟩
        · have hend : at_ = n := by omega
          have HL2 := Aside0.mk (show l.take at_ = l by rw [List.take_of_length_le]; have := HL.out; have := HIN.out; omega)
          have Hk2 := Aside0.mk (Hk.out g)
          have hati : ¬ ((at_ : Int) < ((n : Nat) : Int)) := by omega
          replace H1 := Aside0.mk (show HashAt wr g l from HL2.out ▸ H1.out)
          have Hl := Aside0.mk (fun (W : World) (hH : HashAt W g l) => (show Calls Tryd.prog 22 #[.pointer (some ⟨g, 0, none⟩)] W fun e w' => e = .returned (.int .i64 ((n : Nat) : Int)) ∧ w' = W from by
            have h_ := len_calls g l W hH
            rw [show ((l.length : Nat) : Int) = ((n : Nat) : Int) by have := HL.out; have := HIN.out; omega] at h_
            exact h_))
          have hbk := BK.out
          clear hk hend
          go_wp2
          go_region_held3 (fun W => W.rangeAt nk 0 ck.toList ∧ W.heap[nk]? = some (.cells ck 27 (0, 0))) (first | assumption | exact ⟨hrg.out _ (by first | assumption | exact blk_drew (by assumption) | exact blk_below (by assumption) (by assumption)), by first | assumption | exact blk_drew (by assumption) | exact blk_below (by assumption) (by assumption)⟩) (first | (go_at_call 13; (refine (Hk.out g _ ?hH ?hT).mono ?_); (case hH => exact H1.out.below (below_drew1 (Below.refl _ _))); (case hT => exact HT.out.below (below_drew1 (Below.refl _ _))); rintro e w6 ⟨rfl, hb⟩; have hbx : Below wr.heap.size wr w6 := below_step (below_drew1 (Below.refl _ _)) hb; replace H1 := Aside0.mk (H1.out.below hbx); replace HB := Aside0.mk (below_step HB.out hbx)) | (go_at_call 22; (refine (Hl.out _ H1.out).mono ?_); rintro e w7 ⟨rfl, rfl⟩))
          go_wp2
          go_ret
          exact ⟨rfl, HB.out⟩
set_option maxHeartbeats 8000000 in
set_option maxRecDepth 100000 in
set_option pp.deepTerms true in
set_option pp.maxSteps 1000000 in
theorem long_ok_small (n : Nat) (a3 a1 a2 : Int) (w : World) (hT : Tab w) (hn : n ≤ 200000) (hp : a3 < 1) : Calls Tryd.prog 6 #[.int .i64 ((n : Nat) : Int), .int .i64 a1, .int .i64 a2, .int .i64 a3] w fun e w' => e = .returned (.bool true) ∧ Below w.heap.size w w' := by
  have HT := Aside0.mk hT
  have HZ := Aside0.mk (show w.heap.size ≠ 0 by have h_ := World.block_lt_of_cell? w _ (hT 0 (by decide)); intro e; rw [e] at h_; exact Nat.not_lt_zero _ h_)
  have HB := Aside0.mk (Below.refl w.heap.size w)
  clear hT
  have h0a : decide (((n : Nat) : Int) < 0) = false := decide_eq_false (by omega)
  have h0b : decide ((200000 : Int) < ((n : Nat) : Int)) = false := decide_eq_false (by omega)
  have h0c : ¬ (((n : Nat) : Int) < 0) := by omega
  have h0d : ¬ ((200000 : Int) < ((n : Nat) : Int)) := by omega
  have h0e : ((n : Nat) : Int) ≤ 200000 := by omega
  have h3a : decide (a3 < 1) = true := decide_eq_true hp
  have HTw := HT

  go_enter Tryd.func6, Tryd.ntmps6
  go_wp2_with (first | (go_at_call 14; (with_reducible refine (told_calls _ HT.out).mono ?_); rintro e w1 ⟨rfl, hb⟩; replace HT := Aside0.mk (HT.out.below hb); replace HB := Aside0.mk hb; clear hb))
  have HO0 := Aside0.mk (Kd.R_nil (Kd.int .u8) 5 w1 w.heap.size (fun _ => True))
  go_loopg [9, 10] n (fun k v9 v10 wr => ∃ (i : Nat) (l : List Int), v10 = .int .i64 i ∧ i + k = n ∧ Aside0 (l.length = i) ∧ Aside0 (Kd.R (Kd.int .u8) 5 wr w.heap.size (fun _ => True) v9 l) ∧ Aside0 (Tab wr) ∧ Aside0 (Below w.heap.size w wr))
  case atStart => exact ⟨0, [], rfl, Nat.zero_add _, ⟨rfl⟩, HO0, HT, HB⟩
  case round =>
    clear HO0 HT HB
    obtain ⟨i, l, rfl, hk, HL, HO, HT, HB⟩ := hrel
    obtain ⟨A1, c1, e1⟩ := Kd.R_slice HO.out
    subst e1
    have HK := Aside0.mk hk
    by_cases hi : i < n
    · have hii : (i : Int) < ((n : Nat) : Int) := by omega
      have HI := Aside0.mk hi
      have hiw : wrap64 ((i : Int) + 1) = ((i + 1 : Nat) : Int) := by unfold wrap64; omega
      clear hk
      go_wp2_with (first | ((with_reducible refine gate_builtin (b := .append) (xs := #[.tmp 30, .tmp 37]) rfl ?_); at_builtin; refine Kd.R_append (Kd.int .u8) (w0 := w) w.heap.size rfl (.tmp 30) (.tmp 37) 22 5 (.int .u8 0) 1 rfl Tryd.underlying22 P.info5 rfl (by decide) (by omega) (.slice A1 l.length c1) l _ [.int .u8 _] (fun _ => True) (fun _ => False) rfl rfl rfl (fun _ hk => hk.elim) (fun _ _ => trivial) HO.out HB.out HB.out.size (by have := HL.out; have := HI.out; omega) ?_; intro v1 w4 ho hb hg hat; have HO4 := Aside0.mk ho; have HB4 := Aside0.mk hb; have HT4 := Aside0.mk (HTw.out.below hb); clear ho hb hg hat))
      go_roundg (gk - 1)
      case measure => (have h1 := HK.out; have h2 := HI.out; omega)
      case rel =>
        have h1 := HK.out
        have h2 := HI.out
        exact ⟨i + 1, _, by first | rfl | go_num, by omega, ⟨by rw [List.length_append, HL.out]; rfl⟩, HO4, HT4, HB4⟩
    · obtain rfl : gk = 0 := by omega
      have hin : i = n := by omega
      have HIN := Aside0.mk hin
      have hfin : ¬ ((i : Int) < ((n : Nat) : Int)) := by omega
      clear hin
      have hs : (arr8 (sumL l)).size = 32 := by rw [arr8_size]; exact sumL_len _
      have HS := Aside0.mk hs
      have hone := Aside0.mk (arr8_one (sumL l))
      have heq : ∀ W : World, (Op.equalIn 10000 27 (.agg (arr8 (sumL l))) (.agg (arr8 (sumL l)))).run Tryd.prog W = .ok true W := fun W => eq_key 9998 _ (sumL_len _) W
      have Hr := Aside0.mk (refSum_calls A1 c1 l wr (Kd.R_reads' HO.out).2.2 (by have := HL.out; have := HIN.out; omega) (Kd.R_reads' HO.out).2.1)
      have Hs := Aside0.mk (fun (ad : Addr) (W : World) hC hT => (show Calls Tryd.prog 11 #[.slice (some ad) 1 1] W fun e w' => e = .returned (.agg (arr8 (sumL l))) ∧ Below W.heap.size W w' from by
        have h_ := sum_calls (some ad) 1 [l] W hC (Nat.le_refl 1) hT (by have := HL.out; have := HIN.out; simp; omega)
        rw [show ([l] : List (List Int)).flatten = l by simp] at h_
        exact h_))
      have Hk := Aside0.mk (fun (g : Nat) (W : World) hH hT => key_calls g l W hH hT (by have := HL.out; have := HIN.out; omega))
      generalize hck : arr8 (sumL l) = ck at hs HS hone heq Hr Hs Hk
      clear hck hk
      go_wp2_with (first | (go_at_call 16; (with_reducible refine Hr.out.mono ?_); rintro e w2 ⟨rfl, hb⟩; replace HO := Aside0.mk (Kd.R_below HO.out hb); replace HT := Aside0.mk (HT.out.below hb); replace HB := Aside0.mk (below_step HB.out hb); clear hb))
      rw [st_new (P := Tryd.prog) (t := 27) (c' := ck) rfl (by rw [HS.out]; kernel_rfl) (by rw [HS.out]; rfl) hone.out]
      generalize hW3 : World.alloc w2 (Obj.cells ck 27) = w3
      have BK := Aside0.mk (show w3.heap[w2.heap.size]? = some (.cells ck 27 (0, 0)) from by rw [← hW3]; exact blk_new w2 _)
      replace HO := Aside0.mk (show Kd.R (Kd.int .u8) 5 w3 w.heap.size (fun _ => True) (.slice A1 l.length c1) l from by rw [← hW3]; exact Kd.R_alloc HO.out _)
      replace HT := Aside0.mk (show Tab w3 from by rw [← hW3]; exact HT.out.below (below_alloc (Below.refl _ _) _))
      replace HB := Aside0.mk (show Below w.heap.size w w3 from by rw [← hW3]; exact below_alloc HB.out _)
      clear hW3 Hr
      generalize w2.heap.size = nk at BK ⊢
      go_wp2_with (first | (go_at_call 9; (with_reducible refine (new_calls _).mono ?_); rintro e w4 ⟨g, rfl, hg, hH, hb⟩; have HNG := Aside0.mk (show ∀ ad, A1 = some ad → ad.block ≠ g from fun ad e => by have := R_ne HO.out ad e; omega); have HKG := Aside0.mk (show nk ≠ g by have := blk_lt BK.out; omega); have HWG := Aside0.mk (show w.heap.size ≤ g by have := HB.out.size; omega); have H1 := Aside0.mk hH; replace HO := Aside0.mk (Kd.R_below HO.out hb); replace HT := Aside0.mk (HT.out.below hb); replace HB := Aside0.mk (below_step HB.out hb); replace BK := Aside0.mk (blk_below BK.out hb); clear hb hH hg))
      have hu27 := Tryd.underlying27
      have hi27 : (Tryd.prog.info? 27).map (·.size) = some ck.toList.length := by rw [Array.length_toList, HS.out]; kernel_rfl
      have hrg := Aside0.mk (fun (W : World) (h : W.heap[nk]? = some (.cells ck 27 (0, 0))) => (show W.rangeAt nk 0 ck.toList from fun j v hv => by rw [Nat.zero_add, cell_of_row W nk j ck 27 (0, 0) h]; simpa using hv))
      have hbk := BK.out
      go_region_held3 (fun W => W.rangeAt nk 0 ck.toList ∧ W.heap[nk]? = some (.cells ck 27 (0, 0))) (first | assumption | exact ⟨hrg.out _ (by first | assumption | exact blk_drew (by assumption) | exact blk_alloc (by assumption) _ | exact blk_below (by assumption) (by assumption)), by first | assumption | exact blk_drew (by assumption) | exact blk_alloc (by assumption) _ | exact blk_below (by assumption) (by assumption)⟩) (first | (go_at_call 11; (refine (Hs.out _ _ ?hC ?hT).mono ?_); (case hC => exact Kd.C_drew (C_row1 (Kd.R_reads' HO.out).2.2 (Kd.R_reads' HO.out).2.1)); (case hT => exact HT.out.below (below_drew1 (below_alloc (Below.refl _ _) _))); rintro e w5 ⟨rfl, hb⟩; have hbx : Below w4.heap.size w4 w5 := below_step (below_drew1 (below_alloc (Below.refl _ _) _)) hb; replace BK := Aside0.mk (blk_below BK.out hbx); replace HO := Aside0.mk (Kd.R_below (Kd.R_below HO.out (below_drew1 (below_alloc (Below.refl _ _) _))) hb); replace H1 := Aside0.mk ((H1.out.below (below_drew1 (below_alloc (Below.refl _ _) _))).below hb); replace HT := Aside0.mk ((HT.out.below (below_drew1 (below_alloc (Below.refl _ _) _))).below hb); replace HB := Aside0.mk (below_step (below_drew1 (below_alloc HB.out _)) hb)))
      clear hbk
      have HC1 := Aside0.mk (Kd.R_reads' HO.out).2.1
      go_wp2
      go_loopg [13] n (fun k v13 wr => ∃ (at_ : Nat), v13 = .int .i64 at_ ∧ at_ + k = n ∧ Aside0 (HashAt wr g (l.take at_)) ∧ Aside0 (wr.heap[nk]? = some (.cells ck 27 (0, 0))) ∧ Aside0 (Kd.C (Kd.int .u8) wr A1 l.length l) ∧ Aside0 (Tab wr) ∧ Aside0 (Below w.heap.size w wr))
      case atStart => exact ⟨0, rfl, Nat.zero_add _, H1, BK, ⟨(Kd.R_reads' HO.out).2.2⟩, HT, HB⟩
      case round =>
        clear H1 BK HO HT HB
        obtain ⟨at_, rfl, hk, H1, BK, HO, HT, HB⟩ := hrel
        have HK := Aside0.mk hk
        by_cases hat : at_ < n
        · have HAT := Aside0.mk hat
          have hati : (at_ : Int) < ((n : Nat) : Int) := by omega
          by_cases hpc : 1 < ((n : Nat) : Int) - (at_ : Int)
          · obtain ⟨to_, hto⟩ : ∃ to_ : Nat, (to_ : Int) = (at_ : Int) + 1 := ⟨((at_ : Int) + 1).toNat, by omega⟩
            have hto2 : at_ < to_ ∧ to_ ≤ n := by omega
            have hcut : ∀ W : World, (Instr.slice 22 (.slice A1 l.length c1) (some (.int .i64 (at_ : Int))) (some (.int .i64 ((at_ : Int) + 1))) none).run Tryd.prog W = .ok (.slice (if c1 = at_ then A1 else A1.map (·.add (at_ * 1))) (to_ - at_) (c1 - at_)) W := by
              obtain ⟨i05, hi05, _, hsz05, _⟩ := info_parts P.info5
              have h_ := cut_mid (P := Tryd.prog) 22 5 .i64 .i64 Tryd.underlying22 hi05 1 (by simpa using hsz05) A1 l.length c1 (at_ : Int) ((at_ : Int) + 1) (by omega) (by omega) (by have := HL.out; have := HIN.out; omega) HC1.out
              have e_ : (((at_ : Int) + 1) : Int).toNat = to_ := by omega
              rw [Int.toNat_natCast, e_] at h_
              exact h_
            have HLB := Aside0.mk (show ((l.drop at_).take (to_ - at_)).length = to_ - at_ by rw [List.length_take, List.length_drop]; have := HL.out; have := HIN.out; omega)
            have hCw := Kd.C_take (m := to_ - at_) (Kd.C_drop (m := at_) (c := c1) HO.out (by have := HL.out; have := HIN.out; omega) HC1.out) (by rw [List.length_drop]; have := HL.out; have := HIN.out; omega)
            have Hw := Aside0.mk (write_calls g (if c1 = at_ then A1 else A1.map (·.add (at_ * 1))) (c1 - at_) (l.take at_) ((l.drop at_).take (to_ - at_)) wr H1.out hCw (fun _ => cut_block HNG.out) (by rw [HLB.out]; have := HC1.out; have := HL.out; have := HIN.out; omega) HT.out (by have := HWG.out; have := HZ.out; omega) (by rw [HLB.out, List.length_take]; have := HL.out; have := HIN.out; omega))
            rw [HLB.out, ← List.take_add, show at_ + (to_ - at_) = to_ by omega] at Hw
            generalize (if c1 = at_ then A1 else A1.map (·.add (at_ * 1))) = A2 at hcut Hw
            have HTO := Aside0.mk (show at_ < to_ ∧ to_ ≤ n by omega)
            clear hCw hk
            go_wp2_with (first | (go_at_call 10; (with_reducible refine Hw.out.mono ?_); rintro e w5 ⟨⟨v5_, rfl⟩, hh5, hbut5⟩; have HH5 := Aside0.mk hh5; have HBut5 := Aside0.mk hbut5; clear hh5 hbut5))
            go_roundg (gk - (to_ - at_))
            case measure => (have h1 := HK.out; have h2 := HTO.out; omega)
            case rel =>
              have h1 := HK.out
              have h2 := HTO.out
              have h3 := HKG.out
              have h4 := HWG.out
              have h5 := HZ.out
              exact ⟨to_, by first | rfl | (congr 1; omega) | go_num, by omega, HH5, ⟨(HBut5.out.block _ (blk_lt BK.out) h3).trans BK.out⟩, ⟨HBut5.out.C HO.out (fun _ => HNG.out)⟩, ⟨HBut5.out.tab HT.out (by omega)⟩, ⟨But.below HB.out HBut5.out h4⟩⟩
          · have hto0 : True := trivial
            have hcut : ∀ W : World, (Instr.slice 22 (.slice A1 l.length c1) (some (.int .i64 (at_ : Int))) (some (.int .i64 ((n : Nat) : Int))) none).run Tryd.prog W = .ok (.slice (if c1 = at_ then A1 else A1.map (·.add (at_ * 1))) (n - at_) (c1 - at_)) W := by
              obtain ⟨i05, hi05, _, hsz05, _⟩ := info_parts P.info5
              have h_ := cut_mid (P := Tryd.prog) 22 5 .i64 .i64 Tryd.underlying22 hi05 1 (by simpa using hsz05) A1 l.length c1 (at_ : Int) ((n : Nat) : Int) (by omega) (by omega) (by have := HL.out; have := HIN.out; omega) HC1.out
              have e_ : (((n : Nat) : Int) : Int).toNat = n := by omega
              rw [Int.toNat_natCast, e_] at h_
              exact h_
            have HLB := Aside0.mk (show ((l.drop at_).take (n - at_)).length = n - at_ by rw [List.length_take, List.length_drop]; have := HL.out; have := HIN.out; omega)
            have hCw := Kd.C_take (m := n - at_) (Kd.C_drop (m := at_) (c := c1) HO.out (by have := HL.out; have := HIN.out; omega) HC1.out) (by rw [List.length_drop]; have := HL.out; have := HIN.out; omega)
            have Hw := Aside0.mk (write_calls g (if c1 = at_ then A1 else A1.map (·.add (at_ * 1))) (c1 - at_) (l.take at_) ((l.drop at_).take (n - at_)) wr H1.out hCw (fun _ => cut_block HNG.out) (by rw [HLB.out]; have := HC1.out; have := HL.out; have := HIN.out; omega) HT.out (by have := HWG.out; have := HZ.out; omega) (by rw [HLB.out, List.length_take]; have := HL.out; have := HIN.out; omega))
            rw [HLB.out, ← List.take_add, show at_ + (n - at_) = n by omega] at Hw
            generalize (if c1 = at_ then A1 else A1.map (·.add (at_ * 1))) = A2 at hcut Hw
            have HTO := Aside0.mk (show at_ < n ∧ n ≤ n by omega)
            clear hCw hk
            go_wp2_with (first | (go_at_call 10; (with_reducible refine Hw.out.mono ?_); rintro e w5 ⟨⟨v5_, rfl⟩, hh5, hbut5⟩; have HH5 := Aside0.mk hh5; have HBut5 := Aside0.mk hbut5; clear hh5 hbut5))
            go_roundg (gk - (n - at_))
            case measure => (have h1 := HK.out; have h2 := HTO.out; omega)
            case rel =>
              have h1 := HK.out
              have h2 := HTO.out
              have h3 := HKG.out
              have h4 := HWG.out
              have h5 := HZ.out
              exact ⟨n, by first | rfl | (congr 1; omega) | go_num, by omega, HH5, ⟨(HBut5.out.block _ (blk_lt BK.out) h3).trans BK.out⟩, ⟨HBut5.out.C HO.out (fun _ => HNG.out)⟩, ⟨HBut5.out.tab HT.out (by omega)⟩, ⟨But.below HB.out HBut5.out h4⟩⟩
        · have hend : at_ = n := by omega
          have HL2 := Aside0.mk (show l.take at_ = l by rw [List.take_of_length_le]; have := HL.out; have := HIN.out; omega)
          have Hk2 := Aside0.mk (Hk.out g)
          have hati : ¬ ((at_ : Int) < ((n : Nat) : Int)) := by omega
          replace H1 := Aside0.mk (show HashAt wr g l from HL2.out ▸ H1.out)
          have Hl := Aside0.mk (fun (W : World) (hH : HashAt W g l) => (show Calls Tryd.prog 22 #[.pointer (some ⟨g, 0, none⟩)] W fun e w' => e = .returned (.int .i64 ((n : Nat) : Int)) ∧ w' = W from by
            have h_ := len_calls g l W hH
            rw [show ((l.length : Nat) : Int) = ((n : Nat) : Int) by have := HL.out; have := HIN.out; omega] at h_
            exact h_))
          have hbk := BK.out
          clear hk hend
          go_wp2
          go_region_held3 (fun W => W.rangeAt nk 0 ck.toList ∧ W.heap[nk]? = some (.cells ck 27 (0, 0))) (first | assumption | exact ⟨hrg.out _ (by first | assumption | exact blk_drew (by assumption) | exact blk_below (by assumption) (by assumption)), by first | assumption | exact blk_drew (by assumption) | exact blk_below (by assumption) (by assumption)⟩) (first | (go_at_call 13; (refine (Hk.out g _ ?hH ?hT).mono ?_); (case hH => exact H1.out.below (below_drew1 (Below.refl _ _))); (case hT => exact HT.out.below (below_drew1 (Below.refl _ _))); rintro e w6 ⟨rfl, hb⟩; have hbx : Below wr.heap.size wr w6 := below_step (below_drew1 (Below.refl _ _)) hb; replace H1 := Aside0.mk (H1.out.below hbx); replace HB := Aside0.mk (below_step HB.out hbx)) | (go_at_call 22; (refine (Hl.out _ H1.out).mono ?_); rintro e w7 ⟨rfl, rfl⟩))
          go_wp2
          go_ret
          exact ⟨rfl, HB.out⟩
set_option maxHeartbeats 8000000 in
set_option maxRecDepth 100000 in
set_option pp.deepTerms true in
set_option pp.maxSteps 1000000 in
theorem long_neg_ok (a0 : Int) (a3 a1 a2 : Int) (w : World) (hT : Tab w) (hn : a0 < 0) (hp : 1 ≤ a3) (hq : a3 < 9223372036854775808) : Calls Tryd.prog 6 #[.int .i64 a0, .int .i64 a1, .int .i64 a2, .int .i64 a3] w fun e w' => e = .returned (.bool true) ∧ Below w.heap.size w w' := by
  have HT := Aside0.mk hT
  have HZ := Aside0.mk (show w.heap.size ≠ 0 by have h_ := World.block_lt_of_cell? w _ (hT 0 (by decide)); intro e; rw [e] at h_; exact Nat.not_lt_zero _ h_)
  have HB := Aside0.mk (Below.refl w.heap.size w)
  clear hT
  have h0a : decide (a0 < 0) = true := decide_eq_true hn
  have h3a : decide (a3 < 1) = false := decide_eq_false (by omega)
  have h3b : ¬ (a3 < 1) := by omega
  have HTw := HT

  go_enter Tryd.func6, Tryd.ntmps6
  go_wp2_with (first | (go_at_call 14; (with_reducible refine (told_calls _ HT.out).mono ?_); rintro e w1 ⟨rfl, hb⟩; replace HT := Aside0.mk (HT.out.below hb); replace HB := Aside0.mk hb; clear hb))
  have HO0 := Aside0.mk (Kd.R_nil (Kd.int .u8) 5 w1 w.heap.size (fun _ => True))
  go_loopg [9, 10] 100000 (fun k v9 v10 wr => ∃ (i : Nat) (l : List Int), v10 = .int .i64 i ∧ i + k = 100000 ∧ Aside0 (l.length = i) ∧ Aside0 (Kd.R (Kd.int .u8) 5 wr w.heap.size (fun _ => True) v9 l) ∧ Aside0 (Tab wr) ∧ Aside0 (Below w.heap.size w wr))
  case atStart => exact ⟨0, [], rfl, Nat.zero_add _, ⟨rfl⟩, HO0, HT, HB⟩
  case round =>
    clear HO0 HT HB
    obtain ⟨i, l, rfl, hk, HL, HO, HT, HB⟩ := hrel
    obtain ⟨A1, c1, e1⟩ := Kd.R_slice HO.out
    subst e1
    have HK := Aside0.mk hk
    by_cases hi : i < 100000
    · have hii : (i : Int) < (100000 : Int) := by omega
      have HI := Aside0.mk hi
      have hiw : wrap64 ((i : Int) + 1) = ((i + 1 : Nat) : Int) := by unfold wrap64; omega
      clear hk
      go_wp2_with (first | ((with_reducible refine gate_builtin (b := .append) (xs := #[.tmp 30, .tmp 37]) rfl ?_); at_builtin; refine Kd.R_append (Kd.int .u8) (w0 := w) w.heap.size rfl (.tmp 30) (.tmp 37) 22 5 (.int .u8 0) 1 rfl Tryd.underlying22 P.info5 rfl (by decide) (by omega) (.slice A1 l.length c1) l _ [.int .u8 _] (fun _ => True) (fun _ => False) rfl rfl rfl (fun _ hk => hk.elim) (fun _ _ => trivial) HO.out HB.out HB.out.size (by have := HL.out; have := HI.out; omega) ?_; intro v1 w4 ho hb hg hat; have HO4 := Aside0.mk ho; have HB4 := Aside0.mk hb; have HT4 := Aside0.mk (HTw.out.below hb); clear ho hb hg hat))
      go_roundg (gk - 1)
      case measure => (have h1 := HK.out; have h2 := HI.out; omega)
      case rel =>
        have h1 := HK.out
        have h2 := HI.out
        exact ⟨i + 1, _, by first | rfl | go_num, by omega, ⟨by rw [List.length_append, HL.out]; rfl⟩, HO4, HT4, HB4⟩
    · obtain rfl : gk = 0 := by omega
      have hin : i = 100000 := by omega
      have HIN := Aside0.mk hin
      have hfin : ¬ ((i : Int) < (100000 : Int)) := by omega
      clear hin
      have hs : (arr8 (sumL l)).size = 32 := by rw [arr8_size]; exact sumL_len _
      have HS := Aside0.mk hs
      have hone := Aside0.mk (arr8_one (sumL l))
      have heq : ∀ W : World, (Op.equalIn 10000 27 (.agg (arr8 (sumL l))) (.agg (arr8 (sumL l)))).run Tryd.prog W = .ok true W := fun W => eq_key 9998 _ (sumL_len _) W
      have Hr := Aside0.mk (refSum_calls A1 c1 l wr (Kd.R_reads' HO.out).2.2 (by have := HL.out; have := HIN.out; omega) (Kd.R_reads' HO.out).2.1)
      have Hs := Aside0.mk (fun (ad : Addr) (W : World) hC hT => (show Calls Tryd.prog 11 #[.slice (some ad) 1 1] W fun e w' => e = .returned (.agg (arr8 (sumL l))) ∧ Below W.heap.size W w' from by
        have h_ := sum_calls (some ad) 1 [l] W hC (Nat.le_refl 1) hT (by have := HL.out; have := HIN.out; simp; omega)
        rw [show ([l] : List (List Int)).flatten = l by simp] at h_
        exact h_))
      have Hk := Aside0.mk (fun (g : Nat) (W : World) hH hT => key_calls g l W hH hT (by have := HL.out; have := HIN.out; omega))
      generalize hck : arr8 (sumL l) = ck at hs HS hone heq Hr Hs Hk
      clear hck hk
      go_wp2_with (first | (go_at_call 16; (with_reducible refine Hr.out.mono ?_); rintro e w2 ⟨rfl, hb⟩; replace HO := Aside0.mk (Kd.R_below HO.out hb); replace HT := Aside0.mk (HT.out.below hb); replace HB := Aside0.mk (below_step HB.out hb); clear hb))
      rw [st_new (P := Tryd.prog) (t := 27) (c' := ck) rfl (by rw [HS.out]; kernel_rfl) (by rw [HS.out]; rfl) hone.out]
      generalize hW3 : World.alloc w2 (Obj.cells ck 27) = w3
      have BK := Aside0.mk (show w3.heap[w2.heap.size]? = some (.cells ck 27 (0, 0)) from by rw [← hW3]; exact blk_new w2 _)
      replace HO := Aside0.mk (show Kd.R (Kd.int .u8) 5 w3 w.heap.size (fun _ => True) (.slice A1 l.length c1) l from by rw [← hW3]; exact Kd.R_alloc HO.out _)
      replace HT := Aside0.mk (show Tab w3 from by rw [← hW3]; exact HT.out.below (below_alloc (Below.refl _ _) _))
      replace HB := Aside0.mk (show Below w.heap.size w w3 from by rw [← hW3]; exact below_alloc HB.out _)
      clear hW3 Hr
      generalize w2.heap.size = nk at BK ⊢
      go_wp2_with (first | (go_at_call 9; (with_reducible refine (new_calls _).mono ?_); rintro e w4 ⟨g, rfl, hg, hH, hb⟩; have HNG := Aside0.mk (show ∀ ad, A1 = some ad → ad.block ≠ g from fun ad e => by have := R_ne HO.out ad e; omega); have HKG := Aside0.mk (show nk ≠ g by have := blk_lt BK.out; omega); have HWG := Aside0.mk (show w.heap.size ≤ g by have := HB.out.size; omega); have H1 := Aside0.mk hH; replace HO := Aside0.mk (Kd.R_below HO.out hb); replace HT := Aside0.mk (HT.out.below hb); replace HB := Aside0.mk (below_step HB.out hb); replace BK := Aside0.mk (blk_below BK.out hb); clear hb hH hg))
      have hu27 := Tryd.underlying27
      have hi27 : (Tryd.prog.info? 27).map (·.size) = some ck.toList.length := by rw [Array.length_toList, HS.out]; kernel_rfl
      have hrg := Aside0.mk (fun (W : World) (h : W.heap[nk]? = some (.cells ck 27 (0, 0))) => (show W.rangeAt nk 0 ck.toList from fun j v hv => by rw [Nat.zero_add, cell_of_row W nk j ck 27 (0, 0) h]; simpa using hv))
      have hbk := BK.out
      go_region_held3 (fun W => W.rangeAt nk 0 ck.toList ∧ W.heap[nk]? = some (.cells ck 27 (0, 0))) (first | assumption | exact ⟨hrg.out _ (by first | assumption | exact blk_drew (by assumption) | exact blk_alloc (by assumption) _ | exact blk_below (by assumption) (by assumption)), by first | assumption | exact blk_drew (by assumption) | exact blk_alloc (by assumption) _ | exact blk_below (by assumption) (by assumption)⟩) (first | (go_at_call 11; (refine (Hs.out _ _ ?hC ?hT).mono ?_); (case hC => exact Kd.C_drew (C_row1 (Kd.R_reads' HO.out).2.2 (Kd.R_reads' HO.out).2.1)); (case hT => exact HT.out.below (below_drew1 (below_alloc (Below.refl _ _) _))); rintro e w5 ⟨rfl, hb⟩; have hbx : Below w4.heap.size w4 w5 := below_step (below_drew1 (below_alloc (Below.refl _ _) _)) hb; replace BK := Aside0.mk (blk_below BK.out hbx); replace HO := Aside0.mk (Kd.R_below (Kd.R_below HO.out (below_drew1 (below_alloc (Below.refl _ _) _))) hb); replace H1 := Aside0.mk ((H1.out.below (below_drew1 (below_alloc (Below.refl _ _) _))).below hb); replace HT := Aside0.mk ((HT.out.below (below_drew1 (below_alloc (Below.refl _ _) _))).below hb); replace HB := Aside0.mk (below_step (below_drew1 (below_alloc HB.out _)) hb)))
      clear hbk
      have HC1 := Aside0.mk (Kd.R_reads' HO.out).2.1
      go_wp2
      go_loopg [13] 100000 (fun k v13 wr => ∃ (at_ : Nat), v13 = .int .i64 at_ ∧ at_ + k = 100000 ∧ Aside0 (HashAt wr g (l.take at_)) ∧ Aside0 (wr.heap[nk]? = some (.cells ck 27 (0, 0))) ∧ Aside0 (Kd.C (Kd.int .u8) wr A1 l.length l) ∧ Aside0 (Tab wr) ∧ Aside0 (Below w.heap.size w wr))
      case atStart => exact ⟨0, rfl, Nat.zero_add _, H1, BK, ⟨(Kd.R_reads' HO.out).2.2⟩, HT, HB⟩
      case round =>
        clear H1 BK HO HT HB
        obtain ⟨at_, rfl, hk, H1, BK, HO, HT, HB⟩ := hrel
        have HK := Aside0.mk hk
        by_cases hat : at_ < 100000
        · have HAT := Aside0.mk hat
          have hati : (at_ : Int) < (100000 : Int) := by omega
          by_cases hpc : a3 < (100000 : Int) - (at_ : Int)
          · obtain ⟨to_, hto⟩ : ∃ to_ : Nat, (to_ : Int) = (at_ : Int) + a3 := ⟨((at_ : Int) + a3).toNat, by omega⟩
            have hto2 : at_ < to_ ∧ to_ ≤ 100000 := by omega
            have hcut : ∀ W : World, (Instr.slice 22 (.slice A1 l.length c1) (some (.int .i64 (at_ : Int))) (some (.int .i64 ((at_ : Int) + a3))) none).run Tryd.prog W = .ok (.slice (if c1 = at_ then A1 else A1.map (·.add (at_ * 1))) (to_ - at_) (c1 - at_)) W := by
              obtain ⟨i05, hi05, _, hsz05, _⟩ := info_parts P.info5
              have h_ := cut_mid (P := Tryd.prog) 22 5 .i64 .i64 Tryd.underlying22 hi05 1 (by simpa using hsz05) A1 l.length c1 (at_ : Int) ((at_ : Int) + a3) (by omega) (by omega) (by have := HL.out; have := HIN.out; omega) HC1.out
              have e_ : (((at_ : Int) + a3) : Int).toNat = to_ := by omega
              rw [Int.toNat_natCast, e_] at h_
              exact h_
            have HLB := Aside0.mk (show ((l.drop at_).take (to_ - at_)).length = to_ - at_ by rw [List.length_take, List.length_drop]; have := HL.out; have := HIN.out; omega)
            have hCw := Kd.C_take (m := to_ - at_) (Kd.C_drop (m := at_) (c := c1) HO.out (by have := HL.out; have := HIN.out; omega) HC1.out) (by rw [List.length_drop]; have := HL.out; have := HIN.out; omega)
            have Hw := Aside0.mk (write_calls g (if c1 = at_ then A1 else A1.map (·.add (at_ * 1))) (c1 - at_) (l.take at_) ((l.drop at_).take (to_ - at_)) wr H1.out hCw (fun _ => cut_block HNG.out) (by rw [HLB.out]; have := HC1.out; have := HL.out; have := HIN.out; omega) HT.out (by have := HWG.out; have := HZ.out; omega) (by rw [HLB.out, List.length_take]; have := HL.out; have := HIN.out; omega))
            rw [HLB.out, ← List.take_add, show at_ + (to_ - at_) = to_ by omega] at Hw
            generalize (if c1 = at_ then A1 else A1.map (·.add (at_ * 1))) = A2 at hcut Hw
            have HTO := Aside0.mk (show at_ < to_ ∧ to_ ≤ 100000 by omega)
            clear hCw hk
            go_wp2_with (first | (go_at_call 10; (with_reducible refine Hw.out.mono ?_); rintro e w5 ⟨⟨v5_, rfl⟩, hh5, hbut5⟩; have HH5 := Aside0.mk hh5; have HBut5 := Aside0.mk hbut5; clear hh5 hbut5))
            go_roundg (gk - (to_ - at_))
            case measure => (have h1 := HK.out; have h2 := HTO.out; omega)
            case rel =>
              have h1 := HK.out
              have h2 := HTO.out
              have h3 := HKG.out
              have h4 := HWG.out
              have h5 := HZ.out
              exact ⟨to_, by first | rfl | (congr 1; omega) | go_num, by omega, HH5, ⟨(HBut5.out.block _ (blk_lt BK.out) h3).trans BK.out⟩, ⟨HBut5.out.C HO.out (fun _ => HNG.out)⟩, ⟨HBut5.out.tab HT.out (by omega)⟩, ⟨But.below HB.out HBut5.out h4⟩⟩
          · have hto0 : True := trivial
            have hcut : ∀ W : World, (Instr.slice 22 (.slice A1 l.length c1) (some (.int .i64 (at_ : Int))) (some (.int .i64 (100000 : Int))) none).run Tryd.prog W = .ok (.slice (if c1 = at_ then A1 else A1.map (·.add (at_ * 1))) (100000 - at_) (c1 - at_)) W := by
              obtain ⟨i05, hi05, _, hsz05, _⟩ := info_parts P.info5
              have h_ := cut_mid (P := Tryd.prog) 22 5 .i64 .i64 Tryd.underlying22 hi05 1 (by simpa using hsz05) A1 l.length c1 (at_ : Int) (100000 : Int) (by omega) (by omega) (by have := HL.out; have := HIN.out; omega) HC1.out
              have e_ : ((100000 : Int) : Int).toNat = 100000 := by omega
              rw [Int.toNat_natCast, e_] at h_
              exact h_
            have HLB := Aside0.mk (show ((l.drop at_).take (100000 - at_)).length = 100000 - at_ by rw [List.length_take, List.length_drop]; have := HL.out; have := HIN.out; omega)
            have hCw := Kd.C_take (m := 100000 - at_) (Kd.C_drop (m := at_) (c := c1) HO.out (by have := HL.out; have := HIN.out; omega) HC1.out) (by rw [List.length_drop]; have := HL.out; have := HIN.out; omega)
            have Hw := Aside0.mk (write_calls g (if c1 = at_ then A1 else A1.map (·.add (at_ * 1))) (c1 - at_) (l.take at_) ((l.drop at_).take (100000 - at_)) wr H1.out hCw (fun _ => cut_block HNG.out) (by rw [HLB.out]; have := HC1.out; have := HL.out; have := HIN.out; omega) HT.out (by have := HWG.out; have := HZ.out; omega) (by rw [HLB.out, List.length_take]; have := HL.out; have := HIN.out; omega))
            rw [HLB.out, ← List.take_add, show at_ + (100000 - at_) = 100000 by omega] at Hw
            generalize (if c1 = at_ then A1 else A1.map (·.add (at_ * 1))) = A2 at hcut Hw
            have HTO := Aside0.mk (show at_ < 100000 ∧ 100000 ≤ 100000 by omega)
            clear hCw hk
            go_wp2_with (first | (go_at_call 10; (with_reducible refine Hw.out.mono ?_); rintro e w5 ⟨⟨v5_, rfl⟩, hh5, hbut5⟩; have HH5 := Aside0.mk hh5; have HBut5 := Aside0.mk hbut5; clear hh5 hbut5))
            go_roundg (gk - (100000 - at_))
            case measure => (have h1 := HK.out; have h2 := HTO.out; omega)
            case rel =>
              have h1 := HK.out
              have h2 := HTO.out
              have h3 := HKG.out
              have h4 := HWG.out
              have h5 := HZ.out
              exact ⟨100000, by first | rfl | (congr 1; omega) | go_num, by omega, HH5, ⟨(HBut5.out.block _ (blk_lt BK.out) h3).trans BK.out⟩, ⟨HBut5.out.C HO.out (fun _ => HNG.out)⟩, ⟨HBut5.out.tab HT.out (by omega)⟩, ⟨But.below HB.out HBut5.out h4⟩⟩
        · have hend : at_ = 100000 := by omega
          have HL2 := Aside0.mk (show l.take at_ = l by rw [List.take_of_length_le]; have := HL.out; have := HIN.out; omega)
          have Hk2 := Aside0.mk (Hk.out g)
          have hati : ¬ ((at_ : Int) < (100000 : Int)) := by omega
          replace H1 := Aside0.mk (show HashAt wr g l from HL2.out ▸ H1.out)
          have Hl := Aside0.mk (fun (W : World) (hH : HashAt W g l) => (show Calls Tryd.prog 22 #[.pointer (some ⟨g, 0, none⟩)] W fun e w' => e = .returned (.int .i64 (100000 : Int)) ∧ w' = W from by
            have h_ := len_calls g l W hH
            rw [show ((l.length : Nat) : Int) = (100000 : Int) by have := HL.out; have := HIN.out; omega] at h_
            exact h_))
          have hbk := BK.out
          clear hk hend
          go_wp2
          go_region_held3 (fun W => W.rangeAt nk 0 ck.toList ∧ W.heap[nk]? = some (.cells ck 27 (0, 0))) (first | assumption | exact ⟨hrg.out _ (by first | assumption | exact blk_drew (by assumption) | exact blk_below (by assumption) (by assumption)), by first | assumption | exact blk_drew (by assumption) | exact blk_below (by assumption) (by assumption)⟩) (first | (go_at_call 13; (refine (Hk.out g _ ?hH ?hT).mono ?_); (case hH => exact H1.out.below (below_drew1 (Below.refl _ _))); (case hT => exact HT.out.below (below_drew1 (Below.refl _ _))); rintro e w6 ⟨rfl, hb⟩; have hbx : Below wr.heap.size wr w6 := below_step (below_drew1 (Below.refl _ _)) hb; replace H1 := Aside0.mk (H1.out.below hbx); replace HB := Aside0.mk (below_step HB.out hbx)) | (go_at_call 22; (refine (Hl.out _ H1.out).mono ?_); rintro e w7 ⟨rfl, rfl⟩))
          go_wp2
          go_ret
          exact ⟨rfl, HB.out⟩
set_option maxHeartbeats 8000000 in
set_option maxRecDepth 100000 in
set_option pp.deepTerms true in
set_option pp.maxSteps 1000000 in
theorem long_neg_small (a0 : Int) (a3 a1 a2 : Int) (w : World) (hT : Tab w) (hn : a0 < 0) (hp : a3 < 1) : Calls Tryd.prog 6 #[.int .i64 a0, .int .i64 a1, .int .i64 a2, .int .i64 a3] w fun e w' => e = .returned (.bool true) ∧ Below w.heap.size w w' := by
  have HT := Aside0.mk hT
  have HZ := Aside0.mk (show w.heap.size ≠ 0 by have h_ := World.block_lt_of_cell? w _ (hT 0 (by decide)); intro e; rw [e] at h_; exact Nat.not_lt_zero _ h_)
  have HB := Aside0.mk (Below.refl w.heap.size w)
  clear hT
  have h0a : decide (a0 < 0) = true := decide_eq_true hn
  have h3a : decide (a3 < 1) = true := decide_eq_true hp
  have HTw := HT

  go_enter Tryd.func6, Tryd.ntmps6
  go_wp2_with (first | (go_at_call 14; (with_reducible refine (told_calls _ HT.out).mono ?_); rintro e w1 ⟨rfl, hb⟩; replace HT := Aside0.mk (HT.out.below hb); replace HB := Aside0.mk hb; clear hb))
  have HO0 := Aside0.mk (Kd.R_nil (Kd.int .u8) 5 w1 w.heap.size (fun _ => True))
  go_loopg [9, 10] 100000 (fun k v9 v10 wr => ∃ (i : Nat) (l : List Int), v10 = .int .i64 i ∧ i + k = 100000 ∧ Aside0 (l.length = i) ∧ Aside0 (Kd.R (Kd.int .u8) 5 wr w.heap.size (fun _ => True) v9 l) ∧ Aside0 (Tab wr) ∧ Aside0 (Below w.heap.size w wr))
  case atStart => exact ⟨0, [], rfl, Nat.zero_add _, ⟨rfl⟩, HO0, HT, HB⟩
  case round =>
    clear HO0 HT HB
    obtain ⟨i, l, rfl, hk, HL, HO, HT, HB⟩ := hrel
    obtain ⟨A1, c1, e1⟩ := Kd.R_slice HO.out
    subst e1
    have HK := Aside0.mk hk
    by_cases hi : i < 100000
    · have hii : (i : Int) < (100000 : Int) := by omega
      have HI := Aside0.mk hi
      have hiw : wrap64 ((i : Int) + 1) = ((i + 1 : Nat) : Int) := by unfold wrap64; omega
      clear hk
      go_wp2_with (first | ((with_reducible refine gate_builtin (b := .append) (xs := #[.tmp 30, .tmp 37]) rfl ?_); at_builtin; refine Kd.R_append (Kd.int .u8) (w0 := w) w.heap.size rfl (.tmp 30) (.tmp 37) 22 5 (.int .u8 0) 1 rfl Tryd.underlying22 P.info5 rfl (by decide) (by omega) (.slice A1 l.length c1) l _ [.int .u8 _] (fun _ => True) (fun _ => False) rfl rfl rfl (fun _ hk => hk.elim) (fun _ _ => trivial) HO.out HB.out HB.out.size (by have := HL.out; have := HI.out; omega) ?_; intro v1 w4 ho hb hg hat; have HO4 := Aside0.mk ho; have HB4 := Aside0.mk hb; have HT4 := Aside0.mk (HTw.out.below hb); clear ho hb hg hat))
      go_roundg (gk - 1)
      case measure => (have h1 := HK.out; have h2 := HI.out; omega)
      case rel =>
        have h1 := HK.out
        have h2 := HI.out
        exact ⟨i + 1, _, by first | rfl | go_num, by omega, ⟨by rw [List.length_append, HL.out]; rfl⟩, HO4, HT4, HB4⟩
    · obtain rfl : gk = 0 := by omega
      have hin : i = 100000 := by omega
      have HIN := Aside0.mk hin
      have hfin : ¬ ((i : Int) < (100000 : Int)) := by omega
      clear hin
      have hs : (arr8 (sumL l)).size = 32 := by rw [arr8_size]; exact sumL_len _
      have HS := Aside0.mk hs
      have hone := Aside0.mk (arr8_one (sumL l))
      have heq : ∀ W : World, (Op.equalIn 10000 27 (.agg (arr8 (sumL l))) (.agg (arr8 (sumL l)))).run Tryd.prog W = .ok true W := fun W => eq_key 9998 _ (sumL_len _) W
      have Hr := Aside0.mk (refSum_calls A1 c1 l wr (Kd.R_reads' HO.out).2.2 (by have := HL.out; have := HIN.out; omega) (Kd.R_reads' HO.out).2.1)
      have Hs := Aside0.mk (fun (ad : Addr) (W : World) hC hT => (show Calls Tryd.prog 11 #[.slice (some ad) 1 1] W fun e w' => e = .returned (.agg (arr8 (sumL l))) ∧ Below W.heap.size W w' from by
        have h_ := sum_calls (some ad) 1 [l] W hC (Nat.le_refl 1) hT (by have := HL.out; have := HIN.out; simp; omega)
        rw [show ([l] : List (List Int)).flatten = l by simp] at h_
        exact h_))
      have Hk := Aside0.mk (fun (g : Nat) (W : World) hH hT => key_calls g l W hH hT (by have := HL.out; have := HIN.out; omega))
      generalize hck : arr8 (sumL l) = ck at hs HS hone heq Hr Hs Hk
      clear hck hk
      go_wp2_with (first | (go_at_call 16; (with_reducible refine Hr.out.mono ?_); rintro e w2 ⟨rfl, hb⟩; replace HO := Aside0.mk (Kd.R_below HO.out hb); replace HT := Aside0.mk (HT.out.below hb); replace HB := Aside0.mk (below_step HB.out hb); clear hb))
      rw [st_new (P := Tryd.prog) (t := 27) (c' := ck) rfl (by rw [HS.out]; kernel_rfl) (by rw [HS.out]; rfl) hone.out]
      generalize hW3 : World.alloc w2 (Obj.cells ck 27) = w3
      have BK := Aside0.mk (show w3.heap[w2.heap.size]? = some (.cells ck 27 (0, 0)) from by rw [← hW3]; exact blk_new w2 _)
      replace HO := Aside0.mk (show Kd.R (Kd.int .u8) 5 w3 w.heap.size (fun _ => True) (.slice A1 l.length c1) l from by rw [← hW3]; exact Kd.R_alloc HO.out _)
      replace HT := Aside0.mk (show Tab w3 from by rw [← hW3]; exact HT.out.below (below_alloc (Below.refl _ _) _))
      replace HB := Aside0.mk (show Below w.heap.size w w3 from by rw [← hW3]; exact below_alloc HB.out _)
      clear hW3 Hr
      generalize w2.heap.size = nk at BK ⊢
      go_wp2_with (first | (go_at_call 9; (with_reducible refine (new_calls _).mono ?_); rintro e w4 ⟨g, rfl, hg, hH, hb⟩; have HNG := Aside0.mk (show ∀ ad, A1 = some ad → ad.block ≠ g from fun ad e => by have := R_ne HO.out ad e; omega); have HKG := Aside0.mk (show nk ≠ g by have := blk_lt BK.out; omega); have HWG := Aside0.mk (show w.heap.size ≤ g by have := HB.out.size; omega); have H1 := Aside0.mk hH; replace HO := Aside0.mk (Kd.R_below HO.out hb); replace HT := Aside0.mk (HT.out.below hb); replace HB := Aside0.mk (below_step HB.out hb); replace BK := Aside0.mk (blk_below BK.out hb); clear hb hH hg))
      have hu27 := Tryd.underlying27
      have hi27 : (Tryd.prog.info? 27).map (·.size) = some ck.toList.length := by rw [Array.length_toList, HS.out]; kernel_rfl
      have hrg := Aside0.mk (fun (W : World) (h : W.heap[nk]? = some (.cells ck 27 (0, 0))) => (show W.rangeAt nk 0 ck.toList from fun j v hv => by rw [Nat.zero_add, cell_of_row W nk j ck 27 (0, 0) h]; simpa using hv))
      have hbk := BK.out
      go_region_held3 (fun W => W.rangeAt nk 0 ck.toList ∧ W.heap[nk]? = some (.cells ck 27 (0, 0))) (first | assumption | exact ⟨hrg.out _ (by first | assumption | exact blk_drew (by assumption) | exact blk_alloc (by assumption) _ | exact blk_below (by assumption) (by assumption)), by first | assumption | exact blk_drew (by assumption) | exact blk_alloc (by assumption) _ | exact blk_below (by assumption) (by assumption)⟩) (first | (go_at_call 11; (refine (Hs.out _ _ ?hC ?hT).mono ?_); (case hC => exact Kd.C_drew (C_row1 (Kd.R_reads' HO.out).2.2 (Kd.R_reads' HO.out).2.1)); (case hT => exact HT.out.below (below_drew1 (below_alloc (Below.refl _ _) _))); rintro e w5 ⟨rfl, hb⟩; have hbx : Below w4.heap.size w4 w5 := below_step (below_drew1 (below_alloc (Below.refl _ _) _)) hb; replace BK := Aside0.mk (blk_below BK.out hbx); replace HO := Aside0.mk (Kd.R_below (Kd.R_below HO.out (below_drew1 (below_alloc (Below.refl _ _) _))) hb); replace H1 := Aside0.mk ((H1.out.below (below_drew1 (below_alloc (Below.refl _ _) _))).below hb); replace HT := Aside0.mk ((HT.out.below (below_drew1 (below_alloc (Below.refl _ _) _))).below hb); replace HB := Aside0.mk (below_step (below_drew1 (below_alloc HB.out _)) hb)))
      clear hbk
      have HC1 := Aside0.mk (Kd.R_reads' HO.out).2.1
      go_wp2
      go_loopg [13] 100000 (fun k v13 wr => ∃ (at_ : Nat), v13 = .int .i64 at_ ∧ at_ + k = 100000 ∧ Aside0 (HashAt wr g (l.take at_)) ∧ Aside0 (wr.heap[nk]? = some (.cells ck 27 (0, 0))) ∧ Aside0 (Kd.C (Kd.int .u8) wr A1 l.length l) ∧ Aside0 (Tab wr) ∧ Aside0 (Below w.heap.size w wr))
      case atStart => exact ⟨0, rfl, Nat.zero_add _, H1, BK, ⟨(Kd.R_reads' HO.out).2.2⟩, HT, HB⟩
      case round =>
        clear H1 BK HO HT HB
        obtain ⟨at_, rfl, hk, H1, BK, HO, HT, HB⟩ := hrel
        have HK := Aside0.mk hk
        by_cases hat : at_ < 100000
        · have HAT := Aside0.mk hat
          have hati : (at_ : Int) < (100000 : Int) := by omega
          by_cases hpc : 1 < (100000 : Int) - (at_ : Int)
          · obtain ⟨to_, hto⟩ : ∃ to_ : Nat, (to_ : Int) = (at_ : Int) + 1 := ⟨((at_ : Int) + 1).toNat, by omega⟩
            have hto2 : at_ < to_ ∧ to_ ≤ 100000 := by omega
            have hcut : ∀ W : World, (Instr.slice 22 (.slice A1 l.length c1) (some (.int .i64 (at_ : Int))) (some (.int .i64 ((at_ : Int) + 1))) none).run Tryd.prog W = .ok (.slice (if c1 = at_ then A1 else A1.map (·.add (at_ * 1))) (to_ - at_) (c1 - at_)) W := by
              obtain ⟨i05, hi05, _, hsz05, _⟩ := info_parts P.info5
              have h_ := cut_mid (P := Tryd.prog) 22 5 .i64 .i64 Tryd.underlying22 hi05 1 (by simpa using hsz05) A1 l.length c1 (at_ : Int) ((at_ : Int) + 1) (by omega) (by omega) (by have := HL.out; have := HIN.out; omega) HC1.out
              have e_ : (((at_ : Int) + 1) : Int).toNat = to_ := by omega
              rw [Int.toNat_natCast, e_] at h_
              exact h_
            have HLB := Aside0.mk (show ((l.drop at_).take (to_ - at_)).length = to_ - at_ by rw [List.length_take, List.length_drop]; have := HL.out; have := HIN.out; omega)
            have hCw := Kd.C_take (m := to_ - at_) (Kd.C_drop (m := at_) (c := c1) HO.out (by have := HL.out; have := HIN.out; omega) HC1.out) (by rw [List.length_drop]; have := HL.out; have := HIN.out; omega)
            have Hw := Aside0.mk (write_calls g (if c1 = at_ then A1 else A1.map (·.add (at_ * 1))) (c1 - at_) (l.take at_) ((l.drop at_).take (to_ - at_)) wr H1.out hCw (fun _ => cut_block HNG.out) (by rw [HLB.out]; have := HC1.out; have := HL.out; have := HIN.out; omega) HT.out (by have := HWG.out; have := HZ.out; omega) (by rw [HLB.out, List.length_take]; have := HL.out; have := HIN.out; omega))
            rw [HLB.out, ← List.take_add, show at_ + (to_ - at_) = to_ by omega] at Hw
            generalize (if c1 = at_ then A1 else A1.map (·.add (at_ * 1))) = A2 at hcut Hw
            have HTO := Aside0.mk (show at_ < to_ ∧ to_ ≤ 100000 by omega)
            clear hCw hk
            go_wp2_with (first | (go_at_call 10; (with_reducible refine Hw.out.mono ?_); rintro e w5 ⟨⟨v5_, rfl⟩, hh5, hbut5⟩; have HH5 := Aside0.mk hh5; have HBut5 := Aside0.mk hbut5; clear hh5 hbut5))
            go_roundg (gk - (to_ - at_))
            case measure => (have h1 := HK.out; have h2 := HTO.out; omega)
            case rel =>
              have h1 := HK.out
              have h2 := HTO.out
              have h3 := HKG.out
              have h4 := HWG.out
              have h5 := HZ.out
              exact ⟨to_, by first | rfl | (congr 1; omega) | go_num, by omega, HH5, ⟨(HBut5.out.block _ (blk_lt BK.out) h3).trans BK.out⟩, ⟨HBut5.out.C HO.out (fun _ => HNG.out)⟩, ⟨HBut5.out.tab HT.out (by omega)⟩, ⟨But.below HB.out HBut5.out h4⟩⟩
          · have hto0 : True := trivial
            have hcut : ∀ W : World, (Instr.slice 22 (.slice A1 l.length c1) (some (.int .i64 (at_ : Int))) (some (.int .i64 (100000 : Int))) none).run Tryd.prog W = .ok (.slice (if c1 = at_ then A1 else A1.map (·.add (at_ * 1))) (100000 - at_) (c1 - at_)) W := by
              obtain ⟨i05, hi05, _, hsz05, _⟩ := info_parts P.info5
              have h_ := cut_mid (P := Tryd.prog) 22 5 .i64 .i64 Tryd.underlying22 hi05 1 (by simpa using hsz05) A1 l.length c1 (at_ : Int) (100000 : Int) (by omega) (by omega) (by have := HL.out; have := HIN.out; omega) HC1.out
              have e_ : ((100000 : Int) : Int).toNat = 100000 := by omega
              rw [Int.toNat_natCast, e_] at h_
              exact h_
            have HLB := Aside0.mk (show ((l.drop at_).take (100000 - at_)).length = 100000 - at_ by rw [List.length_take, List.length_drop]; have := HL.out; have := HIN.out; omega)
            have hCw := Kd.C_take (m := 100000 - at_) (Kd.C_drop (m := at_) (c := c1) HO.out (by have := HL.out; have := HIN.out; omega) HC1.out) (by rw [List.length_drop]; have := HL.out; have := HIN.out; omega)
            have Hw := Aside0.mk (write_calls g (if c1 = at_ then A1 else A1.map (·.add (at_ * 1))) (c1 - at_) (l.take at_) ((l.drop at_).take (100000 - at_)) wr H1.out hCw (fun _ => cut_block HNG.out) (by rw [HLB.out]; have := HC1.out; have := HL.out; have := HIN.out; omega) HT.out (by have := HWG.out; have := HZ.out; omega) (by rw [HLB.out, List.length_take]; have := HL.out; have := HIN.out; omega))
            rw [HLB.out, ← List.take_add, show at_ + (100000 - at_) = 100000 by omega] at Hw
            generalize (if c1 = at_ then A1 else A1.map (·.add (at_ * 1))) = A2 at hcut Hw
            have HTO := Aside0.mk (show at_ < 100000 ∧ 100000 ≤ 100000 by omega)
            clear hCw hk
            go_wp2_with (first | (go_at_call 10; (with_reducible refine Hw.out.mono ?_); rintro e w5 ⟨⟨v5_, rfl⟩, hh5, hbut5⟩; have HH5 := Aside0.mk hh5; have HBut5 := Aside0.mk hbut5; clear hh5 hbut5))
            go_roundg (gk - (100000 - at_))
            case measure => (have h1 := HK.out; have h2 := HTO.out; omega)
            case rel =>
              have h1 := HK.out
              have h2 := HTO.out
              have h3 := HKG.out
              have h4 := HWG.out
              have h5 := HZ.out
              exact ⟨100000, by first | rfl | (congr 1; omega) | go_num, by omega, HH5, ⟨(HBut5.out.block _ (blk_lt BK.out) h3).trans BK.out⟩, ⟨HBut5.out.C HO.out (fun _ => HNG.out)⟩, ⟨HBut5.out.tab HT.out (by omega)⟩, ⟨But.below HB.out HBut5.out h4⟩⟩
        · have hend : at_ = 100000 := by omega
          have HL2 := Aside0.mk (show l.take at_ = l by rw [List.take_of_length_le]; have := HL.out; have := HIN.out; omega)
          have Hk2 := Aside0.mk (Hk.out g)
          have hati : ¬ ((at_ : Int) < (100000 : Int)) := by omega
          replace H1 := Aside0.mk (show HashAt wr g l from HL2.out ▸ H1.out)
          have Hl := Aside0.mk (fun (W : World) (hH : HashAt W g l) => (show Calls Tryd.prog 22 #[.pointer (some ⟨g, 0, none⟩)] W fun e w' => e = .returned (.int .i64 (100000 : Int)) ∧ w' = W from by
            have h_ := len_calls g l W hH
            rw [show ((l.length : Nat) : Int) = (100000 : Int) by have := HL.out; have := HIN.out; omega] at h_
            exact h_))
          have hbk := BK.out
          clear hk hend
          go_wp2
          go_region_held3 (fun W => W.rangeAt nk 0 ck.toList ∧ W.heap[nk]? = some (.cells ck 27 (0, 0))) (first | assumption | exact ⟨hrg.out _ (by first | assumption | exact blk_drew (by assumption) | exact blk_below (by assumption) (by assumption)), by first | assumption | exact blk_drew (by assumption) | exact blk_below (by assumption) (by assumption)⟩) (first | (go_at_call 13; (refine (Hk.out g _ ?hH ?hT).mono ?_); (case hH => exact H1.out.below (below_drew1 (Below.refl _ _))); (case hT => exact HT.out.below (below_drew1 (Below.refl _ _))); rintro e w6 ⟨rfl, hb⟩; have hbx : Below wr.heap.size wr w6 := below_step (below_drew1 (Below.refl _ _)) hb; replace H1 := Aside0.mk (H1.out.below hbx); replace HB := Aside0.mk (below_step HB.out hbx)) | (go_at_call 22; (refine (Hl.out _ H1.out).mono ?_); rintro e w7 ⟨rfl, rfl⟩))
          go_wp2
          go_ret
          exact ⟨rfl, HB.out⟩
set_option maxHeartbeats 8000000 in
set_option maxRecDepth 100000 in
set_option pp.deepTerms true in
set_option pp.maxSteps 1000000 in
theorem long_big_ok (a0 : Int) (a3 a1 a2 : Int) (w : World) (hT : Tab w) (hn : 200000 < a0) (hp : 1 ≤ a3) (hq : a3 < 9223372036854775808) : Calls Tryd.prog 6 #[.int .i64 a0, .int .i64 a1, .int .i64 a2, .int .i64 a3] w fun e w' => e = .returned (.bool true) ∧ Below w.heap.size w w' := by
  have HT := Aside0.mk hT
  have HZ := Aside0.mk (show w.heap.size ≠ 0 by have h_ := World.block_lt_of_cell? w _ (hT 0 (by decide)); intro e; rw [e] at h_; exact Nat.not_lt_zero _ h_)
  have HB := Aside0.mk (Below.refl w.heap.size w)
  clear hT
  have h0a : decide (a0 < 0) = false := decide_eq_false (by omega)
  have h0b : decide ((200000 : Int) < a0) = true := decide_eq_true hn
  have h0c : ¬ (a0 < 0) := by omega
  have h3a : decide (a3 < 1) = false := decide_eq_false (by omega)
  have h3b : ¬ (a3 < 1) := by omega
  have HTw := HT

  go_enter Tryd.func6, Tryd.ntmps6
  go_wp2_with (first | (go_at_call 14; (with_reducible refine (told_calls _ HT.out).mono ?_); rintro e w1 ⟨rfl, hb⟩; replace HT := Aside0.mk (HT.out.below hb); replace HB := Aside0.mk hb; clear hb))
  have HO0 := Aside0.mk (Kd.R_nil (Kd.int .u8) 5 w1 w.heap.size (fun _ => True))
  go_loopg [9, 10] 100000 (fun k v9 v10 wr => ∃ (i : Nat) (l : List Int), v10 = .int .i64 i ∧ i + k = 100000 ∧ Aside0 (l.length = i) ∧ Aside0 (Kd.R (Kd.int .u8) 5 wr w.heap.size (fun _ => True) v9 l) ∧ Aside0 (Tab wr) ∧ Aside0 (Below w.heap.size w wr))
  case atStart => exact ⟨0, [], rfl, Nat.zero_add _, ⟨rfl⟩, HO0, HT, HB⟩
  case round =>
    clear HO0 HT HB
    obtain ⟨i, l, rfl, hk, HL, HO, HT, HB⟩ := hrel
    obtain ⟨A1, c1, e1⟩ := Kd.R_slice HO.out
    subst e1
    have HK := Aside0.mk hk
    by_cases hi : i < 100000
    · have hii : (i : Int) < (100000 : Int) := by omega
      have HI := Aside0.mk hi
      have hiw : wrap64 ((i : Int) + 1) = ((i + 1 : Nat) : Int) := by unfold wrap64; omega
      clear hk
      go_wp2_with (first | ((with_reducible refine gate_builtin (b := .append) (xs := #[.tmp 30, .tmp 37]) rfl ?_); at_builtin; refine Kd.R_append (Kd.int .u8) (w0 := w) w.heap.size rfl (.tmp 30) (.tmp 37) 22 5 (.int .u8 0) 1 rfl Tryd.underlying22 P.info5 rfl (by decide) (by omega) (.slice A1 l.length c1) l _ [.int .u8 _] (fun _ => True) (fun _ => False) rfl rfl rfl (fun _ hk => hk.elim) (fun _ _ => trivial) HO.out HB.out HB.out.size (by have := HL.out; have := HI.out; omega) ?_; intro v1 w4 ho hb hg hat; have HO4 := Aside0.mk ho; have HB4 := Aside0.mk hb; have HT4 := Aside0.mk (HTw.out.below hb); clear ho hb hg hat))
      go_roundg (gk - 1)
      case measure => (have h1 := HK.out; have h2 := HI.out; omega)
      case rel =>
        have h1 := HK.out
        have h2 := HI.out
        exact ⟨i + 1, _, by first | rfl | go_num, by omega, ⟨by rw [List.length_append, HL.out]; rfl⟩, HO4, HT4, HB4⟩
    · obtain rfl : gk = 0 := by omega
      have hin : i = 100000 := by omega
      have HIN := Aside0.mk hin
      have hfin : ¬ ((i : Int) < (100000 : Int)) := by omega
      clear hin
      have hs : (arr8 (sumL l)).size = 32 := by rw [arr8_size]; exact sumL_len _
      have HS := Aside0.mk hs
      have hone := Aside0.mk (arr8_one (sumL l))
      have heq : ∀ W : World, (Op.equalIn 10000 27 (.agg (arr8 (sumL l))) (.agg (arr8 (sumL l)))).run Tryd.prog W = .ok true W := fun W => eq_key 9998 _ (sumL_len _) W
      have Hr := Aside0.mk (refSum_calls A1 c1 l wr (Kd.R_reads' HO.out).2.2 (by have := HL.out; have := HIN.out; omega) (Kd.R_reads' HO.out).2.1)
      have Hs := Aside0.mk (fun (ad : Addr) (W : World) hC hT => (show Calls Tryd.prog 11 #[.slice (some ad) 1 1] W fun e w' => e = .returned (.agg (arr8 (sumL l))) ∧ Below W.heap.size W w' from by
        have h_ := sum_calls (some ad) 1 [l] W hC (Nat.le_refl 1) hT (by have := HL.out; have := HIN.out; simp; omega)
        rw [show ([l] : List (List Int)).flatten = l by simp] at h_
        exact h_))
      have Hk := Aside0.mk (fun (g : Nat) (W : World) hH hT => key_calls g l W hH hT (by have := HL.out; have := HIN.out; omega))
      generalize hck : arr8 (sumL l) = ck at hs HS hone heq Hr Hs Hk
      clear hck hk
      go_wp2_with (first | (go_at_call 16; (with_reducible refine Hr.out.mono ?_); rintro e w2 ⟨rfl, hb⟩; replace HO := Aside0.mk (Kd.R_below HO.out hb); replace HT := Aside0.mk (HT.out.below hb); replace HB := Aside0.mk (below_step HB.out hb); clear hb))
      rw [st_new (P := Tryd.prog) (t := 27) (c' := ck) rfl (by rw [HS.out]; kernel_rfl) (by rw [HS.out]; rfl) hone.out]
      generalize hW3 : World.alloc w2 (Obj.cells ck 27) = w3
      have BK := Aside0.mk (show w3.heap[w2.heap.size]? = some (.cells ck 27 (0, 0)) from by rw [← hW3]; exact blk_new w2 _)
      replace HO := Aside0.mk (show Kd.R (Kd.int .u8) 5 w3 w.heap.size (fun _ => True) (.slice A1 l.length c1) l from by rw [← hW3]; exact Kd.R_alloc HO.out _)
      replace HT := Aside0.mk (show Tab w3 from by rw [← hW3]; exact HT.out.below (below_alloc (Below.refl _ _) _))
      replace HB := Aside0.mk (show Below w.heap.size w w3 from by rw [← hW3]; exact below_alloc HB.out _)
      clear hW3 Hr
      generalize w2.heap.size = nk at BK ⊢
      go_wp2_with (first | (go_at_call 9; (with_reducible refine (new_calls _).mono ?_); rintro e w4 ⟨g, rfl, hg, hH, hb⟩; have HNG := Aside0.mk (show ∀ ad, A1 = some ad → ad.block ≠ g from fun ad e => by have := R_ne HO.out ad e; omega); have HKG := Aside0.mk (show nk ≠ g by have := blk_lt BK.out; omega); have HWG := Aside0.mk (show w.heap.size ≤ g by have := HB.out.size; omega); have H1 := Aside0.mk hH; replace HO := Aside0.mk (Kd.R_below HO.out hb); replace HT := Aside0.mk (HT.out.below hb); replace HB := Aside0.mk (below_step HB.out hb); replace BK := Aside0.mk (blk_below BK.out hb); clear hb hH hg))
      have hu27 := Tryd.underlying27
      have hi27 : (Tryd.prog.info? 27).map (·.size) = some ck.toList.length := by rw [Array.length_toList, HS.out]; kernel_rfl
      have hrg := Aside0.mk (fun (W : World) (h : W.heap[nk]? = some (.cells ck 27 (0, 0))) => (show W.rangeAt nk 0 ck.toList from fun j v hv => by rw [Nat.zero_add, cell_of_row W nk j ck 27 (0, 0) h]; simpa using hv))
      have hbk := BK.out
      go_region_held3 (fun W => W.rangeAt nk 0 ck.toList ∧ W.heap[nk]? = some (.cells ck 27 (0, 0))) (first | assumption | exact ⟨hrg.out _ (by first | assumption | exact blk_drew (by assumption) | exact blk_alloc (by assumption) _ | exact blk_below (by assumption) (by assumption)), by first | assumption | exact blk_drew (by assumption) | exact blk_alloc (by assumption) _ | exact blk_below (by assumption) (by assumption)⟩) (first | (go_at_call 11; (refine (Hs.out _ _ ?hC ?hT).mono ?_); (case hC => exact Kd.C_drew (C_row1 (Kd.R_reads' HO.out).2.2 (Kd.R_reads' HO.out).2.1)); (case hT => exact HT.out.below (below_drew1 (below_alloc (Below.refl _ _) _))); rintro e w5 ⟨rfl, hb⟩; have hbx : Below w4.heap.size w4 w5 := below_step (below_drew1 (below_alloc (Below.refl _ _) _)) hb; replace BK := Aside0.mk (blk_below BK.out hbx); replace HO := Aside0.mk (Kd.R_below (Kd.R_below HO.out (below_drew1 (below_alloc (Below.refl _ _) _))) hb); replace H1 := Aside0.mk ((H1.out.below (below_drew1 (below_alloc (Below.refl _ _) _))).below hb); replace HT := Aside0.mk ((HT.out.below (below_drew1 (below_alloc (Below.refl _ _) _))).below hb); replace HB := Aside0.mk (below_step (below_drew1 (below_alloc HB.out _)) hb)))
      clear hbk
      have HC1 := Aside0.mk (Kd.R_reads' HO.out).2.1
      go_wp2
      go_loopg [13] 100000 (fun k v13 wr => ∃ (at_ : Nat), v13 = .int .i64 at_ ∧ at_ + k = 100000 ∧ Aside0 (HashAt wr g (l.take at_)) ∧ Aside0 (wr.heap[nk]? = some (.cells ck 27 (0, 0))) ∧ Aside0 (Kd.C (Kd.int .u8) wr A1 l.length l) ∧ Aside0 (Tab wr) ∧ Aside0 (Below w.heap.size w wr))
      case atStart => exact ⟨0, rfl, Nat.zero_add _, H1, BK, ⟨(Kd.R_reads' HO.out).2.2⟩, HT, HB⟩
      case round =>
        clear H1 BK HO HT HB
        obtain ⟨at_, rfl, hk, H1, BK, HO, HT, HB⟩ := hrel
        have HK := Aside0.mk hk
        by_cases hat : at_ < 100000
        · have HAT := Aside0.mk hat
          have hati : (at_ : Int) < (100000 : Int) := by omega
          by_cases hpc : a3 < (100000 : Int) - (at_ : Int)
          · obtain ⟨to_, hto⟩ : ∃ to_ : Nat, (to_ : Int) = (at_ : Int) + a3 := ⟨((at_ : Int) + a3).toNat, by omega⟩
            have hto2 : at_ < to_ ∧ to_ ≤ 100000 := by omega
            have hcut : ∀ W : World, (Instr.slice 22 (.slice A1 l.length c1) (some (.int .i64 (at_ : Int))) (some (.int .i64 ((at_ : Int) + a3))) none).run Tryd.prog W = .ok (.slice (if c1 = at_ then A1 else A1.map (·.add (at_ * 1))) (to_ - at_) (c1 - at_)) W := by
              obtain ⟨i05, hi05, _, hsz05, _⟩ := info_parts P.info5
              have h_ := cut_mid (P := Tryd.prog) 22 5 .i64 .i64 Tryd.underlying22 hi05 1 (by simpa using hsz05) A1 l.length c1 (at_ : Int) ((at_ : Int) + a3) (by omega) (by omega) (by have := HL.out; have := HIN.out; omega) HC1.out
              have e_ : (((at_ : Int) + a3) : Int).toNat = to_ := by omega
              rw [Int.toNat_natCast, e_] at h_
              exact h_
            have HLB := Aside0.mk (show ((l.drop at_).take (to_ - at_)).length = to_ - at_ by rw [List.length_take, List.length_drop]; have := HL.out; have := HIN.out; omega)
            have hCw := Kd.C_take (m := to_ - at_) (Kd.C_drop (m := at_) (c := c1) HO.out (by have := HL.out; have := HIN.out; omega) HC1.out) (by rw [List.length_drop]; have := HL.out; have := HIN.out; omega)
            have Hw := Aside0.mk (write_calls g (if c1 = at_ then A1 else A1.map (·.add (at_ * 1))) (c1 - at_) (l.take at_) ((l.drop at_).take (to_ - at_)) wr H1.out hCw (fun _ => cut_block HNG.out) (by rw [HLB.out]; have := HC1.out; have := HL.out; have := HIN.out; omega) HT.out (by have := HWG.out; have := HZ.out; omega) (by rw [HLB.out, List.length_take]; have := HL.out; have := HIN.out; omega))
            rw [HLB.out, ← List.take_add, show at_ + (to_ - at_) = to_ by omega] at Hw
            generalize (if c1 = at_ then A1 else A1.map (·.add (at_ * 1))) = A2 at hcut Hw
            have HTO := Aside0.mk (show at_ < to_ ∧ to_ ≤ 100000 by omega)
            clear hCw hk
            go_wp2_with (first | (go_at_call 10; (with_reducible refine Hw.out.mono ?_); rintro e w5 ⟨⟨v5_, rfl⟩, hh5, hbut5⟩; have HH5 := Aside0.mk hh5; have HBut5 := Aside0.mk hbut5; clear hh5 hbut5))
            go_roundg (gk - (to_ - at_))
            case measure => (have h1 := HK.out; have h2 := HTO.out; omega)
            case rel =>
              have h1 := HK.out
              have h2 := HTO.out
              have h3 := HKG.out
              have h4 := HWG.out
              have h5 := HZ.out
              exact ⟨to_, by first | rfl | (congr 1; omega) | go_num, by omega, HH5, ⟨(HBut5.out.block _ (blk_lt BK.out) h3).trans BK.out⟩, ⟨HBut5.out.C HO.out (fun _ => HNG.out)⟩, ⟨HBut5.out.tab HT.out (by omega)⟩, ⟨But.below HB.out HBut5.out h4⟩⟩
          · have hto0 : True := trivial
            have hcut : ∀ W : World, (Instr.slice 22 (.slice A1 l.length c1) (some (.int .i64 (at_ : Int))) (some (.int .i64 (100000 : Int))) none).run Tryd.prog W = .ok (.slice (if c1 = at_ then A1 else A1.map (·.add (at_ * 1))) (100000 - at_) (c1 - at_)) W := by
              obtain ⟨i05, hi05, _, hsz05, _⟩ := info_parts P.info5
              have h_ := cut_mid (P := Tryd.prog) 22 5 .i64 .i64 Tryd.underlying22 hi05 1 (by simpa using hsz05) A1 l.length c1 (at_ : Int) (100000 : Int) (by omega) (by omega) (by have := HL.out; have := HIN.out; omega) HC1.out
              have e_ : ((100000 : Int) : Int).toNat = 100000 := by omega
              rw [Int.toNat_natCast, e_] at h_
              exact h_
            have HLB := Aside0.mk (show ((l.drop at_).take (100000 - at_)).length = 100000 - at_ by rw [List.length_take, List.length_drop]; have := HL.out; have := HIN.out; omega)
            have hCw := Kd.C_take (m := 100000 - at_) (Kd.C_drop (m := at_) (c := c1) HO.out (by have := HL.out; have := HIN.out; omega) HC1.out) (by rw [List.length_drop]; have := HL.out; have := HIN.out; omega)
            have Hw := Aside0.mk (write_calls g (if c1 = at_ then A1 else A1.map (·.add (at_ * 1))) (c1 - at_) (l.take at_) ((l.drop at_).take (100000 - at_)) wr H1.out hCw (fun _ => cut_block HNG.out) (by rw [HLB.out]; have := HC1.out; have := HL.out; have := HIN.out; omega) HT.out (by have := HWG.out; have := HZ.out; omega) (by rw [HLB.out, List.length_take]; have := HL.out; have := HIN.out; omega))
            rw [HLB.out, ← List.take_add, show at_ + (100000 - at_) = 100000 by omega] at Hw
            generalize (if c1 = at_ then A1 else A1.map (·.add (at_ * 1))) = A2 at hcut Hw
            have HTO := Aside0.mk (show at_ < 100000 ∧ 100000 ≤ 100000 by omega)
            clear hCw hk
            go_wp2_with (first | (go_at_call 10; (with_reducible refine Hw.out.mono ?_); rintro e w5 ⟨⟨v5_, rfl⟩, hh5, hbut5⟩; have HH5 := Aside0.mk hh5; have HBut5 := Aside0.mk hbut5; clear hh5 hbut5))
            go_roundg (gk - (100000 - at_))
            case measure => (have h1 := HK.out; have h2 := HTO.out; omega)
            case rel =>
              have h1 := HK.out
              have h2 := HTO.out
              have h3 := HKG.out
              have h4 := HWG.out
              have h5 := HZ.out
              exact ⟨100000, by first | rfl | (congr 1; omega) | go_num, by omega, HH5, ⟨(HBut5.out.block _ (blk_lt BK.out) h3).trans BK.out⟩, ⟨HBut5.out.C HO.out (fun _ => HNG.out)⟩, ⟨HBut5.out.tab HT.out (by omega)⟩, ⟨But.below HB.out HBut5.out h4⟩⟩
        · have hend : at_ = 100000 := by omega
          have HL2 := Aside0.mk (show l.take at_ = l by rw [List.take_of_length_le]; have := HL.out; have := HIN.out; omega)
          have Hk2 := Aside0.mk (Hk.out g)
          have hati : ¬ ((at_ : Int) < (100000 : Int)) := by omega
          replace H1 := Aside0.mk (show HashAt wr g l from HL2.out ▸ H1.out)
          have Hl := Aside0.mk (fun (W : World) (hH : HashAt W g l) => (show Calls Tryd.prog 22 #[.pointer (some ⟨g, 0, none⟩)] W fun e w' => e = .returned (.int .i64 (100000 : Int)) ∧ w' = W from by
            have h_ := len_calls g l W hH
            rw [show ((l.length : Nat) : Int) = (100000 : Int) by have := HL.out; have := HIN.out; omega] at h_
            exact h_))
          have hbk := BK.out
          clear hk hend
          go_wp2
          go_region_held3 (fun W => W.rangeAt nk 0 ck.toList ∧ W.heap[nk]? = some (.cells ck 27 (0, 0))) (first | assumption | exact ⟨hrg.out _ (by first | assumption | exact blk_drew (by assumption) | exact blk_below (by assumption) (by assumption)), by first | assumption | exact blk_drew (by assumption) | exact blk_below (by assumption) (by assumption)⟩) (first | (go_at_call 13; (refine (Hk.out g _ ?hH ?hT).mono ?_); (case hH => exact H1.out.below (below_drew1 (Below.refl _ _))); (case hT => exact HT.out.below (below_drew1 (Below.refl _ _))); rintro e w6 ⟨rfl, hb⟩; have hbx : Below wr.heap.size wr w6 := below_step (below_drew1 (Below.refl _ _)) hb; replace H1 := Aside0.mk (H1.out.below hbx); replace HB := Aside0.mk (below_step HB.out hbx)) | (go_at_call 22; (refine (Hl.out _ H1.out).mono ?_); rintro e w7 ⟨rfl, rfl⟩))
          go_wp2
          go_ret
          exact ⟨rfl, HB.out⟩
set_option maxHeartbeats 8000000 in
set_option maxRecDepth 100000 in
set_option pp.deepTerms true in
set_option pp.maxSteps 1000000 in
theorem long_big_small (a0 : Int) (a3 a1 a2 : Int) (w : World) (hT : Tab w) (hn : 200000 < a0) (hp : a3 < 1) : Calls Tryd.prog 6 #[.int .i64 a0, .int .i64 a1, .int .i64 a2, .int .i64 a3] w fun e w' => e = .returned (.bool true) ∧ Below w.heap.size w w' := by
  have HT := Aside0.mk hT
  have HZ := Aside0.mk (show w.heap.size ≠ 0 by have h_ := World.block_lt_of_cell? w _ (hT 0 (by decide)); intro e; rw [e] at h_; exact Nat.not_lt_zero _ h_)
  have HB := Aside0.mk (Below.refl w.heap.size w)
  clear hT
  have h0a : decide (a0 < 0) = false := decide_eq_false (by omega)
  have h0b : decide ((200000 : Int) < a0) = true := decide_eq_true hn
  have h0c : ¬ (a0 < 0) := by omega
  have h3a : decide (a3 < 1) = true := decide_eq_true hp
  have HTw := HT

  go_enter Tryd.func6, Tryd.ntmps6
  go_wp2_with (first | (go_at_call 14; (with_reducible refine (told_calls _ HT.out).mono ?_); rintro e w1 ⟨rfl, hb⟩; replace HT := Aside0.mk (HT.out.below hb); replace HB := Aside0.mk hb; clear hb))
  have HO0 := Aside0.mk (Kd.R_nil (Kd.int .u8) 5 w1 w.heap.size (fun _ => True))
  go_loopg [9, 10] 100000 (fun k v9 v10 wr => ∃ (i : Nat) (l : List Int), v10 = .int .i64 i ∧ i + k = 100000 ∧ Aside0 (l.length = i) ∧ Aside0 (Kd.R (Kd.int .u8) 5 wr w.heap.size (fun _ => True) v9 l) ∧ Aside0 (Tab wr) ∧ Aside0 (Below w.heap.size w wr))
  case atStart => exact ⟨0, [], rfl, Nat.zero_add _, ⟨rfl⟩, HO0, HT, HB⟩
  case round =>
    clear HO0 HT HB
    obtain ⟨i, l, rfl, hk, HL, HO, HT, HB⟩ := hrel
    obtain ⟨A1, c1, e1⟩ := Kd.R_slice HO.out
    subst e1
    have HK := Aside0.mk hk
    by_cases hi : i < 100000
    · have hii : (i : Int) < (100000 : Int) := by omega
      have HI := Aside0.mk hi
      have hiw : wrap64 ((i : Int) + 1) = ((i + 1 : Nat) : Int) := by unfold wrap64; omega
      clear hk
      go_wp2_with (first | ((with_reducible refine gate_builtin (b := .append) (xs := #[.tmp 30, .tmp 37]) rfl ?_); at_builtin; refine Kd.R_append (Kd.int .u8) (w0 := w) w.heap.size rfl (.tmp 30) (.tmp 37) 22 5 (.int .u8 0) 1 rfl Tryd.underlying22 P.info5 rfl (by decide) (by omega) (.slice A1 l.length c1) l _ [.int .u8 _] (fun _ => True) (fun _ => False) rfl rfl rfl (fun _ hk => hk.elim) (fun _ _ => trivial) HO.out HB.out HB.out.size (by have := HL.out; have := HI.out; omega) ?_; intro v1 w4 ho hb hg hat; have HO4 := Aside0.mk ho; have HB4 := Aside0.mk hb; have HT4 := Aside0.mk (HTw.out.below hb); clear ho hb hg hat))
      go_roundg (gk - 1)
      case measure => (have h1 := HK.out; have h2 := HI.out; omega)
      case rel =>
        have h1 := HK.out
        have h2 := HI.out
        exact ⟨i + 1, _, by first | rfl | go_num, by omega, ⟨by rw [List.length_append, HL.out]; rfl⟩, HO4, HT4, HB4⟩
    · obtain rfl : gk = 0 := by omega
      have hin : i = 100000 := by omega
      have HIN := Aside0.mk hin
      have hfin : ¬ ((i : Int) < (100000 : Int)) := by omega
      clear hin
      have hs : (arr8 (sumL l)).size = 32 := by rw [arr8_size]; exact sumL_len _
      have HS := Aside0.mk hs
      have hone := Aside0.mk (arr8_one (sumL l))
      have heq : ∀ W : World, (Op.equalIn 10000 27 (.agg (arr8 (sumL l))) (.agg (arr8 (sumL l)))).run Tryd.prog W = .ok true W := fun W => eq_key 9998 _ (sumL_len _) W
      have Hr := Aside0.mk (refSum_calls A1 c1 l wr (Kd.R_reads' HO.out).2.2 (by have := HL.out; have := HIN.out; omega) (Kd.R_reads' HO.out).2.1)
      have Hs := Aside0.mk (fun (ad : Addr) (W : World) hC hT => (show Calls Tryd.prog 11 #[.slice (some ad) 1 1] W fun e w' => e = .returned (.agg (arr8 (sumL l))) ∧ Below W.heap.size W w' from by
        have h_ := sum_calls (some ad) 1 [l] W hC (Nat.le_refl 1) hT (by have := HL.out; have := HIN.out; simp; omega)
        rw [show ([l] : List (List Int)).flatten = l by simp] at h_
        exact h_))
      have Hk := Aside0.mk (fun (g : Nat) (W : World) hH hT => key_calls g l W hH hT (by have := HL.out; have := HIN.out; omega))
      generalize hck : arr8 (sumL l) = ck at hs HS hone heq Hr Hs Hk
      clear hck hk
      go_wp2_with (first | (go_at_call 16; (with_reducible refine Hr.out.mono ?_); rintro e w2 ⟨rfl, hb⟩; replace HO := Aside0.mk (Kd.R_below HO.out hb); replace HT := Aside0.mk (HT.out.below hb); replace HB := Aside0.mk (below_step HB.out hb); clear hb))
      rw [st_new (P := Tryd.prog) (t := 27) (c' := ck) rfl (by rw [HS.out]; kernel_rfl) (by rw [HS.out]; rfl) hone.out]
      generalize hW3 : World.alloc w2 (Obj.cells ck 27) = w3
      have BK := Aside0.mk (show w3.heap[w2.heap.size]? = some (.cells ck 27 (0, 0)) from by rw [← hW3]; exact blk_new w2 _)
      replace HO := Aside0.mk (show Kd.R (Kd.int .u8) 5 w3 w.heap.size (fun _ => True) (.slice A1 l.length c1) l from by rw [← hW3]; exact Kd.R_alloc HO.out _)
      replace HT := Aside0.mk (show Tab w3 from by rw [← hW3]; exact HT.out.below (below_alloc (Below.refl _ _) _))
      replace HB := Aside0.mk (show Below w.heap.size w w3 from by rw [← hW3]; exact below_alloc HB.out _)
      clear hW3 Hr
      generalize w2.heap.size = nk at BK ⊢
      go_wp2_with (first | (go_at_call 9; (with_reducible refine (new_calls _).mono ?_); rintro e w4 ⟨g, rfl, hg, hH, hb⟩; have HNG := Aside0.mk (show ∀ ad, A1 = some ad → ad.block ≠ g from fun ad e => by have := R_ne HO.out ad e; omega); have HKG := Aside0.mk (show nk ≠ g by have := blk_lt BK.out; omega); have HWG := Aside0.mk (show w.heap.size ≤ g by have := HB.out.size; omega); have H1 := Aside0.mk hH; replace HO := Aside0.mk (Kd.R_below HO.out hb); replace HT := Aside0.mk (HT.out.below hb); replace HB := Aside0.mk (below_step HB.out hb); replace BK := Aside0.mk (blk_below BK.out hb); clear hb hH hg))
      have hu27 := Tryd.underlying27
      have hi27 : (Tryd.prog.info? 27).map (·.size) = some ck.toList.length := by rw [Array.length_toList, HS.out]; kernel_rfl
      have hrg := Aside0.mk (fun (W : World) (h : W.heap[nk]? = some (.cells ck 27 (0, 0))) => (show W.rangeAt nk 0 ck.toList from fun j v hv => by rw [Nat.zero_add, cell_of_row W nk j ck 27 (0, 0) h]; simpa using hv))
      have hbk := BK.out
      go_region_held3 (fun W => W.rangeAt nk 0 ck.toList ∧ W.heap[nk]? = some (.cells ck 27 (0, 0))) (first | assumption | exact ⟨hrg.out _ (by first | assumption | exact blk_drew (by assumption) | exact blk_alloc (by assumption) _ | exact blk_below (by assumption) (by assumption)), by first | assumption | exact blk_drew (by assumption) | exact blk_alloc (by assumption) _ | exact blk_below (by assumption) (by assumption)⟩) (first | (go_at_call 11; (refine (Hs.out _ _ ?hC ?hT).mono ?_); (case hC => exact Kd.C_drew (C_row1 (Kd.R_reads' HO.out).2.2 (Kd.R_reads' HO.out).2.1)); (case hT => exact HT.out.below (below_drew1 (below_alloc (Below.refl _ _) _))); rintro e w5 ⟨rfl, hb⟩; have hbx : Below w4.heap.size w4 w5 := below_step (below_drew1 (below_alloc (Below.refl _ _) _)) hb; replace BK := Aside0.mk (blk_below BK.out hbx); replace HO := Aside0.mk (Kd.R_below (Kd.R_below HO.out (below_drew1 (below_alloc (Below.refl _ _) _))) hb); replace H1 := Aside0.mk ((H1.out.below (below_drew1 (below_alloc (Below.refl _ _) _))).below hb); replace HT := Aside0.mk ((HT.out.below (below_drew1 (below_alloc (Below.refl _ _) _))).below hb); replace HB := Aside0.mk (below_step (below_drew1 (below_alloc HB.out _)) hb)))
      clear hbk
      have HC1 := Aside0.mk (Kd.R_reads' HO.out).2.1
      go_wp2
      go_loopg [13] 100000 (fun k v13 wr => ∃ (at_ : Nat), v13 = .int .i64 at_ ∧ at_ + k = 100000 ∧ Aside0 (HashAt wr g (l.take at_)) ∧ Aside0 (wr.heap[nk]? = some (.cells ck 27 (0, 0))) ∧ Aside0 (Kd.C (Kd.int .u8) wr A1 l.length l) ∧ Aside0 (Tab wr) ∧ Aside0 (Below w.heap.size w wr))
      case atStart => exact ⟨0, rfl, Nat.zero_add _, H1, BK, ⟨(Kd.R_reads' HO.out).2.2⟩, HT, HB⟩
      case round =>
        clear H1 BK HO HT HB
        obtain ⟨at_, rfl, hk, H1, BK, HO, HT, HB⟩ := hrel
        have HK := Aside0.mk hk
        by_cases hat : at_ < 100000
        · have HAT := Aside0.mk hat
          have hati : (at_ : Int) < (100000 : Int) := by omega
          by_cases hpc : 1 < (100000 : Int) - (at_ : Int)
          · obtain ⟨to_, hto⟩ : ∃ to_ : Nat, (to_ : Int) = (at_ : Int) + 1 := ⟨((at_ : Int) + 1).toNat, by omega⟩
            have hto2 : at_ < to_ ∧ to_ ≤ 100000 := by omega
            have hcut : ∀ W : World, (Instr.slice 22 (.slice A1 l.length c1) (some (.int .i64 (at_ : Int))) (some (.int .i64 ((at_ : Int) + 1))) none).run Tryd.prog W = .ok (.slice (if c1 = at_ then A1 else A1.map (·.add (at_ * 1))) (to_ - at_) (c1 - at_)) W := by
              obtain ⟨i05, hi05, _, hsz05, _⟩ := info_parts P.info5
              have h_ := cut_mid (P := Tryd.prog) 22 5 .i64 .i64 Tryd.underlying22 hi05 1 (by simpa using hsz05) A1 l.length c1 (at_ : Int) ((at_ : Int) + 1) (by omega) (by omega) (by have := HL.out; have := HIN.out; omega) HC1.out
              have e_ : (((at_ : Int) + 1) : Int).toNat = to_ := by omega
              rw [Int.toNat_natCast, e_] at h_
              exact h_
            have HLB := Aside0.mk (show ((l.drop at_).take (to_ - at_)).length = to_ - at_ by rw [List.length_take, List.length_drop]; have := HL.out; have := HIN.out; omega)
            have hCw := Kd.C_take (m := to_ - at_) (Kd.C_drop (m := at_) (c := c1) HO.out (by have := HL.out; have := HIN.out; omega) HC1.out) (by rw [List.length_drop]; have := HL.out; have := HIN.out; omega)
            have Hw := Aside0.mk (write_calls g (if c1 = at_ then A1 else A1.map (·.add (at_ * 1))) (c1 - at_) (l.take at_) ((l.drop at_).take (to_ - at_)) wr H1.out hCw (fun _ => cut_block HNG.out) (by rw [HLB.out]; have := HC1.out; have := HL.out; have := HIN.out; omega) HT.out (by have := HWG.out; have := HZ.out; omega) (by rw [HLB.out, List.length_take]; have := HL.out; have := HIN.out; omega))
            rw [HLB.out, ← List.take_add, show at_ + (to_ - at_) = to_ by omega] at Hw
            generalize (if c1 = at_ then A1 else A1.map (·.add (at_ * 1))) = A2 at hcut Hw
            have HTO := Aside0.mk (show at_ < to_ ∧ to_ ≤ 100000 by omega)
            clear hCw hk
            go_wp2_with (first | (go_at_call 10; (with_reducible refine Hw.out.mono ?_); rintro e w5 ⟨⟨v5_, rfl⟩, hh5, hbut5⟩; have HH5 := Aside0.mk hh5; have HBut5 := Aside0.mk hbut5; clear hh5 hbut5))
            go_roundg (gk - (to_ - at_))
            case measure => (have h1 := HK.out; have h2 := HTO.out; omega)
            case rel =>
              have h1 := HK.out
              have h2 := HTO.out
              have h3 := HKG.out
              have h4 := HWG.out
              have h5 := HZ.out
              exact ⟨to_, by first | rfl | (congr 1; omega) | go_num, by omega, HH5, ⟨(HBut5.out.block _ (blk_lt BK.out) h3).trans BK.out⟩, ⟨HBut5.out.C HO.out (fun _ => HNG.out)⟩, ⟨HBut5.out.tab HT.out (by omega)⟩, ⟨But.below HB.out HBut5.out h4⟩⟩
          · have hto0 : True := trivial
            have hcut : ∀ W : World, (Instr.slice 22 (.slice A1 l.length c1) (some (.int .i64 (at_ : Int))) (some (.int .i64 (100000 : Int))) none).run Tryd.prog W = .ok (.slice (if c1 = at_ then A1 else A1.map (·.add (at_ * 1))) (100000 - at_) (c1 - at_)) W := by
              obtain ⟨i05, hi05, _, hsz05, _⟩ := info_parts P.info5
              have h_ := cut_mid (P := Tryd.prog) 22 5 .i64 .i64 Tryd.underlying22 hi05 1 (by simpa using hsz05) A1 l.length c1 (at_ : Int) (100000 : Int) (by omega) (by omega) (by have := HL.out; have := HIN.out; omega) HC1.out
              have e_ : ((100000 : Int) : Int).toNat = 100000 := by omega
              rw [Int.toNat_natCast, e_] at h_
              exact h_
            have HLB := Aside0.mk (show ((l.drop at_).take (100000 - at_)).length = 100000 - at_ by rw [List.length_take, List.length_drop]; have := HL.out; have := HIN.out; omega)
            have hCw := Kd.C_take (m := 100000 - at_) (Kd.C_drop (m := at_) (c := c1) HO.out (by have := HL.out; have := HIN.out; omega) HC1.out) (by rw [List.length_drop]; have := HL.out; have := HIN.out; omega)
            have Hw := Aside0.mk (write_calls g (if c1 = at_ then A1 else A1.map (·.add (at_ * 1))) (c1 - at_) (l.take at_) ((l.drop at_).take (100000 - at_)) wr H1.out hCw (fun _ => cut_block HNG.out) (by rw [HLB.out]; have := HC1.out; have := HL.out; have := HIN.out; omega) HT.out (by have := HWG.out; have := HZ.out; omega) (by rw [HLB.out, List.length_take]; have := HL.out; have := HIN.out; omega))
            rw [HLB.out, ← List.take_add, show at_ + (100000 - at_) = 100000 by omega] at Hw
            generalize (if c1 = at_ then A1 else A1.map (·.add (at_ * 1))) = A2 at hcut Hw
            have HTO := Aside0.mk (show at_ < 100000 ∧ 100000 ≤ 100000 by omega)
            clear hCw hk
            go_wp2_with (first | (go_at_call 10; (with_reducible refine Hw.out.mono ?_); rintro e w5 ⟨⟨v5_, rfl⟩, hh5, hbut5⟩; have HH5 := Aside0.mk hh5; have HBut5 := Aside0.mk hbut5; clear hh5 hbut5))
            go_roundg (gk - (100000 - at_))
            case measure => (have h1 := HK.out; have h2 := HTO.out; omega)
            case rel =>
              have h1 := HK.out
              have h2 := HTO.out
              have h3 := HKG.out
              have h4 := HWG.out
              have h5 := HZ.out
              exact ⟨100000, by first | rfl | (congr 1; omega) | go_num, by omega, HH5, ⟨(HBut5.out.block _ (blk_lt BK.out) h3).trans BK.out⟩, ⟨HBut5.out.C HO.out (fun _ => HNG.out)⟩, ⟨HBut5.out.tab HT.out (by omega)⟩, ⟨But.below HB.out HBut5.out h4⟩⟩
        · have hend : at_ = 100000 := by omega
          have HL2 := Aside0.mk (show l.take at_ = l by rw [List.take_of_length_le]; have := HL.out; have := HIN.out; omega)
          have Hk2 := Aside0.mk (Hk.out g)
          have hati : ¬ ((at_ : Int) < (100000 : Int)) := by omega
          replace H1 := Aside0.mk (show HashAt wr g l from HL2.out ▸ H1.out)
          have Hl := Aside0.mk (fun (W : World) (hH : HashAt W g l) => (show Calls Tryd.prog 22 #[.pointer (some ⟨g, 0, none⟩)] W fun e w' => e = .returned (.int .i64 (100000 : Int)) ∧ w' = W from by
            have h_ := len_calls g l W hH
            rw [show ((l.length : Nat) : Int) = (100000 : Int) by have := HL.out; have := HIN.out; omega] at h_
            exact h_))
          have hbk := BK.out
          clear hk hend
          go_wp2
          go_region_held3 (fun W => W.rangeAt nk 0 ck.toList ∧ W.heap[nk]? = some (.cells ck 27 (0, 0))) (first | assumption | exact ⟨hrg.out _ (by first | assumption | exact blk_drew (by assumption) | exact blk_below (by assumption) (by assumption)), by first | assumption | exact blk_drew (by assumption) | exact blk_below (by assumption) (by assumption)⟩) (first | (go_at_call 13; (refine (Hk.out g _ ?hH ?hT).mono ?_); (case hH => exact H1.out.below (below_drew1 (Below.refl _ _))); (case hT => exact HT.out.below (below_drew1 (Below.refl _ _))); rintro e w6 ⟨rfl, hb⟩; have hbx : Below wr.heap.size wr w6 := below_step (below_drew1 (Below.refl _ _)) hb; replace H1 := Aside0.mk (H1.out.below hbx); replace HB := Aside0.mk (below_step HB.out hbx)) | (go_at_call 22; (refine (Hl.out _ H1.out).mono ?_); rintro e w7 ⟨rfl, rfl⟩))
          go_wp2
          go_ret
          exact ⟨rfl, HB.out⟩
theorem long_said : LongSaid := fun a0 a1 a2 a3 w hT h0 h1 h2 h3 => by
  by_cases p : a3 < 1
  · by_cases q : a0 < 0
    · exact long_neg_small a0 a3 a1 a2 w hT q p
    · by_cases r : 200000 < a0
      · exact long_big_small a0 a3 a1 a2 w hT r p
      · obtain ⟨n, rfl⟩ : ∃ n : Nat, a0 = n := ⟨a0.toNat, by omega⟩
        exact long_ok_small n a3 a1 a2 w hT (by omega) p
  · by_cases q : a0 < 0
    · exact long_neg_ok a0 a3 a1 a2 w hT q (by omega) h3
    · by_cases r : 200000 < a0
      · exact long_big_ok a0 a3 a1 a2 w hT r (by omega) h3
      · obtain ⟨n, rfl⟩ : ∃ n : Nat, a0 = n := ⟨a0.toNat, by omega⟩
        exact long_ok_ok n a3 a1 a2 w hT (by omega) (by omega) h3
def longF (k : Nat) (a0 a1 a2 a3 : Int) : Option Bool := if -9223372036854775808 ≤ a0 ∧ a0 < 9223372036854775808 ∧ -9223372036854775808 ≤ a3 ∧ a3 < 9223372036854775808 then some true else none
theorem shaLong_calls (k : Nat) (a0 a1 a2 a3 : Int) (r : Bool) (w : World) (hG : Tab w) (h : longF k a0 a1 a2 a3 = some r) : Calls Tryd.prog 6 #[.int .i64 a0, .int .i64 a1, .int .i64 a2, .int .i64 a3] w fun e w' => e = .returned (.bool r) ∧ Below w.heap.size w w' := by
  unfold longF at h
  split at h
  · rename_i hb
    obtain rfl : true = r := by simpa using h
    exact long_said a0 a1 a2 a3 w hG hb.1 hb.2.1 hb.2.2.1 hb.2.2.2
  · cases h
end Go.Proofs.YthnmpkhjpfhloaaDoor.M
