import Derived.Test.YthnmpkhjpfhloaaDoorProg
import Derived.Below
import Derived.Deep.Draws
import Derived.Deep.AppendLies
import Derived.Maps.AppendAt
import Derived.OwnWalk
import Derived.Laws.BytesArg
import Derived.Laws.MakeOwn
import Derived.Laws.OwnMore
import Derived.Deep.OwnRows
import Derived.Tactics
import Derived.Lib.ConvBytes
import Derived.Laws.Slices
import Derived.WalkKit
import Derived.KernelRfl
import Derived.RowKit3
import Derived.Deep.LoopGhost
import Derived.Deep.QuietTactic
import Derived.BigQuiet
import Derived.WideLaws
import Derived.Deep.DeepCutAuto
import Derived.Deep.CutBlock
import Derived.Deep.RegionHeld3
import Derived.Laws.Rows
import Derived.Lib.AppendStr
import Derived.ArgAppend
import Derived.Laws.IdiomCopy
import Derived.OrdersHeld
import Derived.Laws.BitsLemmas
import Derived.RowKit
import Derived.Test.YthnmpkhjpfhloaaDoorWWords
import Derived.Test.YthnmpkhjpfhloaaDoorWLast
import Derived.Test.YthnmpkhjpfhloaaDoorWTab
import Derived.Test.YthnmpkhjpfhloaaDoorWFour
import Derived.Test.YthnmpkhjpfhloaaDoorWQPut
import Derived.Test.YthnmpkhjpfhloaaDoorWApart
import Derived.Test.YthnmpkhjpfhloaaDoorWArr
import Derived.Test.YthnmpkhjpfhloaaDoorWZeros
import Derived.Test.YthnmpkhjpfhloaaDoorWFoot
import Derived.Test.YthnmpkhjpfhloaaDoorWKept
import Derived.Test.YthnmpkhjpfhloaaDoorWShare
import Derived.Test.YthnmpkhjpfhloaaDoorWN
import Derived.Test.YthnmpkhjpfhloaaDoorWFootNe
import Derived.Test.YthnmpkhjpfhloaaDoorWAt
import Derived.Test.YthnmpkhjpfhloaaDoorWEqStruct
import Derived.Test.YthnmpkhjpfhloaaDoorWRepsOne
import Derived.Test.YthnmpkhjpfhloaaDoorWInv
import Derived.Test.YthnmpkhjpfhloaaDoorWInvWords
import Derived.Test.YthnmpkhjpfhloaaDoorWGuard
import Derived.Test.YthnmpkhjpfhloaaDoorWNEv
import Derived.Test.YthnmpkhjpfhloaaDoorWMore
import Derived.Laws.BitsAllLaws
import Derived.StillTailTactics
import Derived.Test.YthnmpkhjpfhloaaDoorMs
import Derived.Deep.WholeRow
import Derived.Test.YthnmpkhjpfhloaaDoorOc
namespace Go.Proofs.YthnmpkhjpfhloaaDoor.M
open Go.RowKit Go.Proofs.YthnmpkhjpfhloaaDoorW.PrintWords Go.Proofs.YthnmpkhjpfhloaaDoorW.PrintLast Go.Proofs.YthnmpkhjpfhloaaDoorW.PrintMore Go.Proofs.YthnmpkhjpfhloaaDoor.P
set_option linter.unusedVariables false
set_option linter.unusedSimpArgs false
set_option maxHeartbeats 8000000 in
set_option maxRecDepth 100000 in
set_option pp.deepTerms true in
set_option pp.maxSteps 1000000 in
theorem sums_core (A0 : Option Addr) (c0 : Nat) (l : List (List Int)) (w : World) (hC : (Kd.slice 5 (Kd.int .u8)).C w A0 l.length l) (hc : l.length ≤ c0) (hT : Tab w) :
    Calls Tryd.prog 4 #[.slice A0 l.length c0] w fun e w' => e = .returned (.bool true) ∧ Below w.heap.size w w' := by
  have HC := Aside0.mk hC
  have HCC := Aside0.mk hc
  have HT := Aside0.mk hT
  have HB := Aside0.mk (Below.refl w.heap.size w)
  clear hC hc hT
  have hcv : ∀ (W : World) (C : Array Value) (n c : Nat), Sem.run Tryd.prog (convert 22 22 (.slice (some ⟨W.heap.size, 0, none⟩) n c)) (W.alloc (.cells C 5)) = .ok (.slice (some ⟨W.heap.size, 0, none⟩) n c) (W.alloc (.cells C 5 (C.size, C.size + 1))) := fun W C n c => Go.Lib.run_convert_bytes_const W 22 5 C n c Tryd.underlying22 (by kernel_rfl)
  go_enter Tryd.func4, Tryd.ntmps4
  go_wp2_with (first
    | (go_at_call 14; (with_reducible refine (told_calls _ HT.out).mono ?_); rintro e w2 ⟨rfl, hb⟩; replace HC := Aside0.mk (Kd.C_below HC.out hb); replace HT := Aside0.mk (HT.out.below hb); replace HB := Aside0.mk (below_step HB.out hb); clear hb)
    | (go_at_call 15; (with_reducible refine (parts_calls A0 c0 l _ HC.out HCC.out).mono ?_); rintro e w3 ⟨v4, v5, ps, qs, rfl, hs, hsm, hfl, hpl⟩; have HS := Aside0.mk hs; have HSM := Aside0.mk hsm; have HFL := Aside0.mk hfl; have HPL := Aside0.mk hpl; have HT2 := HT; replace HT := Aside0.mk (HT.out.below hs.bel); clear hs hsm hfl hpl)
    | ((with_reducible refine gate_builtin (b := .append) (xs := #[.tmp 14, .tmp 17]) rfl ?_); at_builtin; go_loud (refine Kd.R_append KP (w0 := w2) w2.heap.size rfl (.tmp 14) (.tmp 17) 32 22 (.slice none 0 0) 24 rfl Tryd.underlying32 info22 rfl (by decide) (by decide) v4 ps (⟨some ⟨w3.heap.size, 0, none⟩, 4, [109, 97, 114, 107]⟩ : Piece) [.slice (some ⟨w3.heap.size, 0, none⟩) 4 4] (fun _ => True) (fun _ => False) rfl (by rw [size_alloc1]; rfl) rfl (fun _ hk => hk.elim) (fun k hk => trivial) (Kd.R_below HS.out.out (below_alloc (Below.refl _ _) _)) (below_alloc HS.out.bel _) (below_alloc HS.out.bel _).size (by have := HPL.out; omega) ?_; intro v4' w4 ho hb hg hat; obtain ⟨A4, c4, e4⟩ := Kd.R_slice ho; subst e4; obtain ⟨A5, c5, e5⟩ := Kd.R_slice HS.out.deep; subst e5; have Hc4 := Aside0.mk (Kd.R_reads' ho).2.1; have HM := Aside0.mk (show Mn w2 A4 A5 c5 ⟨some ⟨w3.heap.size, 0, none⟩, 4, [109, 97, 114, 107]⟩ ps qs w4 from ⟨(Kd.R_reads' ho).2.2, (Kd.R_reads' (R_stayd (fun h => h) (Kd.R_below HS.out.deep (below_alloc (Below.refl _ _) _)) hg (fun k hk e => HS.out.apart k e.symm hk))).2.2, (Kd.R_reads' HS.out.deep).2.1, fun p hp => ((HS.out.room p hp).below (below_alloc (Below.refl _ _) _)).grown hg (fun k hk => Kd.R_typed (Kd.R_below HS.out.out (below_alloc (Below.refl _ _) _)) k hk), fun p hp => ((HS.out.own p hp).below (below_alloc (Below.refl _ _) _)).grown hg (fun k hk => Kd.R_typed (Kd.R_below HS.out.out (below_alloc (Below.refl _ _) _)) k hk), C_grown (C_lit w3 [109, 97, 114, 107] (4, 5) (by decide)) hg (fun ad e e2 => by cases e; have := Kd.R_lt HS.out.out _ e2.symm; exact Nat.lt_irrefl _ this), HT2.out.below hb, hb⟩); have hwl : wrap64 (ps.length : Int) = (ps.length : Int) := (by have := HPL.out; unfold wrap64; omega); have hcut4 := cut_row (A4 := A4) (c4 := c4) ps.length (by have := Hc4.out; rw [List.length_append] at this; exact this); have hcut4r := cut_row1 (A4 := A4) (c4 := c4) ps.length (by have := Hc4.out; rw [List.length_append] at this; exact this); have Hs := Aside0.mk (fun (W : World) (hM : Mn w2 A4 A5 c5 ⟨some ⟨w3.heap.size, 0, none⟩, 4, [109, 97, 114, 107]⟩ ps qs W) => mn_sum (A4 := A4) (c4 := c4) (by have := Hc4.out; rw [List.length_append] at this; exact Nat.le_of_succ_le this) HFL.out W hM); have hs32 : (arr8 (sumL (ps.map Piece.l).flatten)).size = 32 := (by rw [arr8_size]; exact sumL_len _); have hone := Aside0.mk (arr8_one (sumL (ps.map Piece.l).flatten)); have heq : ∀ W : World, (Op.equalIn 10000 27 (.agg (arr8 (sumL (ps.map Piece.l).flatten))) (.agg (arr8 (sumL (ps.map Piece.l).flatten)))).run Tryd.prog W = .ok true W := (fun W => eq_key 9998 _ (sumL_len _) W); (generalize hck : arr8 (sumL (ps.map Piece.l).flatten) = ck at Hs hs32 hone heq); have HCK := Aside0.mk hck; have HS32 := Aside0.mk hs32; clear hck; clear ho hb hg hat))
    | (go_at_call 11; (with_reducible refine (Hs.out _ HM.out).mono ?_); rintro e w5 ⟨rfl, hb⟩; replace HM := Aside0.mk (HM.out.below hb); clear hb))
  rw [st_new (P := Tryd.prog) (t := 27) (c' := ck) rfl (by rw [HS32.out]; kernel_rfl) (by rw [HS32.out]; rfl) hone.out]
  have HMK := Aside0.mk (show w3.heap.size < w5.heap.size by
    obtain ⟨ad_, e_, hx_⟩ := Kd.at_int HM.out.mark 0 (by decide) (by decide)
    cases e_
    exact World.block_lt_of_cell? w5 _ hx_)
  generalize hW6 : World.alloc w5 (Obj.cells ck 27) = w6
  have BK := Aside0.mk (show w6.heap[w5.heap.size]? = some (.cells ck 27 (0, 0)) from by rw [← hW6]; exact blk_new w5 _)
  replace HM := Aside0.mk (show Mn w2 A4 A5 c5 ⟨some ⟨w3.heap.size, 0, none⟩, 4, [109, 97, 114, 107]⟩ ps qs w6 from by rw [← hW6]; exact HM.out.below (below_alloc (Below.refl _ _) _))
  clear hW6 Hs
  generalize w5.heap.size = nk at BK ⊢
  go_wp2
  clear HS HT hcv hone HMK
  have HBX := Aside0.mk (show Below w.heap.size w w2 from HB.out)
  generalize w3.heap.size = nm at *
  clear w3 w4 w5
  obtain ⟨ad, rfl, _⟩ := KP_at HM.out.out ps.length (⟨some ⟨nm, 0, none⟩, 4, [109, 97, 114, 107]⟩ : Piece) (by rw [List.getElem?_append_right (Nat.le_refl _), Nat.sub_self]; rfl)
  have HKEEP := Aside0.mk (fun (W : World) (h : Mn w2 (some ad) A5 c5 ⟨some ⟨nm, 0, none⟩, 4, [109, 97, 114, 107]⟩ ps qs W ∧ W.heap[nk]? = some (.cells ck 27 (0, 0))) => (show W.rangeAt nk 0 ck.toList ∧ W.heap[nk]? = some (.cells ck 27 (0, 0)) ∧ W.cell? (ad.add ps.length) = some (.slice (some ⟨nm, 0, none⟩) 4 4) ∧ Sem.run Tryd.prog (convert 22 9 (.slice (some ⟨nm, 0, none⟩) 4 4)) W = .ok (.string ⟨#[109, 97, 114, 107]⟩) W from by
    refine ⟨fun j v hv => by rw [Nat.zero_add, cell_of_row W nk j ck 27 (0, 0) h.2]; simpa using hv, h.2, ?_, ?_⟩
    · obtain ⟨ad', e, hx⟩ := KP_at h.1.out ps.length (⟨some ⟨nm, 0, none⟩, 4, [109, 97, 114, 107]⟩ : Piece) (by rw [List.getElem?_append_right (Nat.le_refl _), Nat.sub_self]; rfl)
      cases e
      exact hx
    · rw [Kd.C_string (P := Tryd.prog) (src := 22) (dst := 9) (e := 5) (c := 4) Tryd.underlying22 (by kernel_rfl) (by kernel_rfl) h.1.mark]
      rfl))
  have HMB := Aside0.mk (And.intro HM.out BK.out)
  have Hj := Aside0.mk (fun (W : World) (h : Mn w2 (some ad) A5 c5 ⟨some ⟨nm, 0, none⟩, 4, [109, 97, 114, 107]⟩ ps qs W ∧ W.heap[nk]? = some (.cells ck 27 (0, 0))) => mn_joined HFL.out HSM.out HPL.out W h.1)
  have Hr := Aside0.mk (fun (W : World) (A : Option Addr) (c : Nat) (hC : (Kd.int .u8).C W A (ps.map Piece.l).flatten.length (ps.map Piece.l).flatten) (hc : (ps.map Piece.l).flatten.length ≤ c) => HCK.out ▸ refSum_calls A c (ps.map Piece.l).flatten W hC (Nat.lt_of_le_of_lt HFL.out (by decide)) hc)
  generalize (ps.map Piece.l).flatten = jl at Hj Hr
  have hIN : (ps.length : Int) < (ps.length : Int) + 1 := by omega
  have hIN0 : (0 : Int) ≤ (ps.length : Int) := by omega
  have hwl1 : wrap64 ((ps.length : Int) + 1) = (ps.length : Int) + 1 := by have := HPL.out; unfold wrap64; omega
  have hb4 : (ps.length : Int) + 1 ≤ (c4 : Int) := by have := Hc4.out; rw [List.length_append] at this; have h_ : ps.length + 1 ≤ c4 := this; omega
  have hwl2 : IntKind.i64.wrap ((ps.length : Int) + 1) = (ps.length : Int) + 1 := by have := HPL.out; unfold IntKind.wrap; simp [IntKind.signed, IntKind.bits]; omega
  have hb4n : ps.length < c4 := by omega
  have hb4m : ps.length + 1 ≤ c4 := by omega
  have hb4i : (ps.length : Int) < (c4 : Int) := by omega
  have hb40 : (0 : Int) ≤ (ps.length : Int) + 1 := by omega
  have hi27 : (Tryd.prog.info? 27).map (·.size) = some ck.toList.length := by rw [Array.length_toList, HS32.out]; kernel_rfl
  have hu27 := Tryd.underlying27
  have hbk := BK.out
  have HCK2 := HCK
  clear HM BK HCK
  go_region_held3 (fun W => W.rangeAt nk 0 ck.toList ∧ W.heap[nk]? = some (.cells ck 27 (0, 0)) ∧ W.cell? (ad.add ps.length) = some (.slice (some ⟨nm, 0, none⟩) 4 4) ∧ Sem.run Tryd.prog (convert 22 9 (.slice (some ⟨nm, 0, none⟩) 4 4)) W = .ok (.string ⟨#[109, 97, 114, 107]⟩) W) (first | assumption | exact HKEEP.out _ (by first | exact HMB.out | exact mb_below HMB.out (below_drew1 (Below.refl _ _)))) (first | (go_at_call 17; (with_reducible refine (Hj.out _ ?hM).mono ?_); (case hM => first | exact HMB.out | exact mb_below HMB.out (below_drew1 (Below.refl _ _))); rintro e w7 ⟨AJ, cJ, rfl, hC, hle, hb⟩; replace HMB := Aside0.mk (mb_below (by first | exact HMB.out | exact mb_below HMB.out (below_drew1 (Below.refl _ _))) hb); have HJ := Aside0.mk hC; have HJL := Aside0.mk hle; clear hC hle hb) | (go_at_call 16; (with_reducible refine (Hr.out _ _ _ ?hC HJL.out).mono ?_); (case hC => first | exact HJ.out | exact Kd.C_drew HJ.out); rintro e w8 ⟨rfl, hb⟩; replace HMB := Aside0.mk (mb_below (by first | exact HMB.out | exact mb_below HMB.out (below_drew1 (Below.refl _ _))) hb); clear hb))
  rename_i hHeldX
  have HKP := Aside0.mk (show ps.length = qs.length by have := congrArg List.length HSM.out; rwa [List.length_map, List.length_map] at this)
  clear hHeldX HJ HJL Hj Hr hcut4 hcut4r hbk
  go_wp2
  go_loopg [6] ps.length (fun k v6 wr => ∃ (i : Nat), v6 = .int .i64 i ∧ Aside0 (i + k = ps.length) ∧ Aside0 (Mn w2 (some ad) A5 c5 ⟨some ⟨nm, 0, none⟩, 4, [109, 97, 114, 107]⟩ ps qs wr ∧ wr.heap[nk]? = some (.cells ck 27 (0, 0))))
  case atStart => exact ⟨0, rfl, ⟨Nat.zero_add _⟩, HMB⟩
  case round =>
    clear HMB
    obtain ⟨i, rfl, HI, HMB⟩ := hrel
    by_cases hi : i < ps.length
    · have hi1 : (i : Int) < (ps.length : Int) := by omega
      have hi0 : (0 : Int) ≤ (i : Int) := by omega
      have hiq : (i : Int) < (qs.length : Int) := by have := HKP.out; omega
      have HII := Aside0.mk hi
      obtain ⟨p, hp⟩ : ∃ p, ps[i]? = some p := ⟨_, List.getElem?_eq_getElem hi⟩
      obtain ⟨q, hq⟩ : ∃ q, qs[i]? = some q := ⟨_, List.getElem?_eq_getElem (show i < qs.length by have := HKP.out; omega)⟩
      have hpq : p.l = q.l := by
        have h_ := congrArg (fun x => x[i]?) HSM.out
        simp only [List.getElem?_map, hp, hq, Option.map_some] at h_
        exact Option.some.inj h_
      have HPM := Aside0.mk (List.mem_of_getElem? hp)
      have HQM := Aside0.mk (List.mem_of_getElem? hq)
      obtain ⟨gp, hgp, hrp⟩ := HMB.out.1.room p HPM.out
      obtain ⟨ad5, rfl, _⟩ := KP_at HMB.out.1.deep i q hq
      have HK2 := Aside0.mk (fun (W : World) (h : Mn w2 (some ad) (some ad5) c5 ⟨some ⟨nm, 0, none⟩, 4, [109, 97, 114, 107]⟩ ps qs W ∧ W.heap[nk]? = some (.cells ck 27 (0, 0))) => (show W.cell? (ad.add i) = some (.slice (some ⟨gp, 0, none⟩) q.l.length p.c) ∧ W.cell? (ad5.add i) = some (.slice q.A q.l.length q.c) from by
        constructor
        · obtain ⟨ad', e, hx⟩ := KP_at h.1.out i p (by rw [List.getElem?_append_left hi]; exact hp)
          cases e
          rw [hgp, hpq] at hx
          exact hx
        · obtain ⟨ad', e, hx⟩ := KP_at h.1.deep i q hq
          cases e
          exact hx))
      have Hint := Aside0.mk (fun (W : World) (h : Mn w2 (some ad) (some ad5) c5 ⟨some ⟨nm, 0, none⟩, 4, [109, 97, 114, 107]⟩ ps qs W ∧ W.heap[nk]? = some (.cells ck 27 (0, 0))) => (show Calls Tryd.prog 18 #[.slice (some ⟨gp, 0, none⟩) q.l.length p.c, .slice q.A q.l.length q.c] W fun e w' => e = .returned (.bool true) ∧ Below W.heap.size W w' from by
        obtain ⟨gp', hgp', hr⟩ := h.1.room p HPM.out
        obtain rfl : gp = gp' := by rw [hgp] at hgp'; cases hgp'; rfl
        rw [hpq] at hr
        exact intact_calls gp p.c q.l q.A q.c W (Kd.R_reads' hr).2.2 (Kd.R_reads' hr).2.1 (Kd.R_reads' (h.1.own q HQM.out)).2.2 (Kd.R_reads' (h.1.own q HQM.out)).2.1 (by
          have h1_ : q.l.length ≤ total ps := by rw [← hpq]; exact le_total HPM.out
          have := HFL.out
          omega)))
      have hiw : wrap64 ((i : Int) + 1) = ((i + 1 : Nat) : Int) := by have := HPL.out; unfold wrap64; omega
      clear hi hp hq hpq hgp hrp
      generalize q.l.length = ln at HK2 Hint
      generalize p.c = cp at HK2 Hint
      go_wp2
      go_region_held3 (fun W => W.cell? (ad.add i) = some (.slice (some ⟨gp, 0, none⟩) ln cp) ∧ W.cell? (ad5.add i) = some (.slice q.A ln q.c)) (first | assumption | exact HK2.out _ (by first | exact HMB.out | exact mb_below HMB.out (below_drew1 (Below.refl _ _)))) (first | (go_at_call 18; (with_reducible refine (Hint.out _ ?hM).mono ?_); (case hM => exact (by first | exact HMB.out | exact mb_below HMB.out (below_drew1 (Below.refl _ _)))); rintro e w9 ⟨rfl, hb⟩; replace HMB := Aside0.mk (mb_below (by first | exact HMB.out | exact mb_below HMB.out (below_drew1 (Below.refl _ _))) hb); clear hb))
      go_wp2
      go_roundg (gk - 1)
      case measure => (have := HI.out; have := HII.out; omega)
      case rel => exact ⟨i + 1, by first | rfl | rw [hiw], ⟨by have := HI.out; have := HII.out; omega⟩, HMB⟩
    · have hi1 : ¬ ((i : Int) < (ps.length : Int)) := by omega
      clear hi
      have Hs2 := Aside0.mk (fun (W : World) (h : Mn w2 (some ad) A5 c5 ⟨some ⟨nm, 0, none⟩, 4, [109, 97, 114, 107]⟩ ps qs W ∧ W.heap[nk]? = some (.cells ck 27 (0, 0))) => HCK2.out ▸ mn_sum (c4 := c4) (by omega) HFL.out W h.1)
      have HsE := Aside0.mk (fun (W : World) (h : Mn w2 (some ad) A5 c5 ⟨some ⟨nm, 0, none⟩, 4, [109, 97, 114, 107]⟩ ps qs W ∧ W.heap[nk]? = some (.cells ck 27 (0, 0))) => (show Calls Tryd.prog 11 #[.slice none 0 0] W fun e w' => e = .returned (.agg (arr8 (sumL []))) ∧ Below W.heap.size W w' from sum_calls none 0 [] W (Kd.C_nil _ _) (Nat.le_refl 0) h.1.tab (by decide)))
      have HrE := Aside0.mk (fun (W : World) => (show Calls Tryd.prog 16 #[.slice none 0 0] W fun e w' => e = .returned (.agg (arr8 (sumL []))) ∧ Below W.heap.size W w' from refSum_calls none 0 [] W (Kd.C_nil _ _) (by decide) (Nat.le_refl 0)))
      have heqE : ∀ W : World, (Op.equalIn 10000 27 (.agg (arr8 (sumL []))) (.agg (arr8 (sumL [])))).run Tryd.prog W = .ok true W := fun W => eq_key 9998 _ (sumL_len _) W
      generalize arr8 (sumL []) = ckE at HsE HrE heqE
      have hbk := HMB.out.2
      go_wp2
      go_region_held3 (fun W => W.rangeAt nk 0 ck.toList ∧ W.heap[nk]? = some (.cells ck 27 (0, 0))) (first | assumption | exact ⟨(HKEEP.out _ (by first | exact HMB.out | exact mb_below HMB.out (below_drew1 (Below.refl _ _)))).1, (HKEEP.out _ (by first | exact HMB.out | exact mb_below HMB.out (below_drew1 (Below.refl _ _)))).2.1⟩) (first | (go_at_call 11; (with_reducible refine (HsE.out _ ?hM).mono ?_); (case hM => exact (by first | exact HMB.out | exact mb_below HMB.out (below_drew1 (Below.refl _ _)))); rintro e w9 ⟨rfl, hb⟩; replace HMB := Aside0.mk (mb_below (by first | exact HMB.out | exact mb_below HMB.out (below_drew1 (Below.refl _ _))) hb); clear hb) | (go_at_call 11; (with_reducible refine (Hs2.out _ ?hM).mono ?_); (case hM => exact (by first | exact HMB.out | exact mb_below HMB.out (below_drew1 (Below.refl _ _)))); rintro e w10 ⟨rfl, hb⟩; replace HMB := Aside0.mk (mb_below (by first | exact HMB.out | exact mb_below HMB.out (below_drew1 (Below.refl _ _))) hb); clear hb) | (go_at_call 16; (with_reducible refine (HrE.out _).mono ?_); rintro e w11 ⟨rfl, hb⟩; replace HMB := Aside0.mk (mb_below (by first | exact HMB.out | exact mb_below HMB.out (below_drew1 (Below.refl _ _))) hb); clear hb))
      go_wp2
      go_ret
      exact ⟨rfl, below_step HBX.out HMB.out.1.bel⟩
end Go.Proofs.YthnmpkhjpfhloaaDoor.M
