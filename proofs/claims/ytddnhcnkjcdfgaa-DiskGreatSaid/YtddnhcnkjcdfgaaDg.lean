import Derived.Test.YtddnhcnkjcdfgaaDf
import Derived.Test.YtddnhcnkjcdfgaaProg
import Derived.Below
import Derived.Deep.Draws
import Derived.Deep.AppendLies
import Derived.Maps.AppendAt
import Derived.OwnWalk
import Derived.Laws.BytesArg
import Derived.Laws.MakeOwn
import Derived.Laws.OwnMore
import Derived.Deep.OwnRows
import Derived.Tactics
import Derived.Lib.ConvBytes
import Derived.Laws.Slices
import Derived.WalkKit
import Derived.KernelRfl
import Derived.RowKit3
import Derived.Deep.LoopGhost
import Derived.Deep.QuietTactic
import Derived.BigQuiet
import Derived.WideLaws
import Derived.Deep.DeepCutAuto
import Derived.Deep.CutBlock
import Derived.Deep.RegionHeld3
import Derived.Laws.Rows
import Derived.Lib.AppendStr
import Derived.ArgAppend
import Derived.Laws.IdiomCopy
import Derived.OrdersHeld
import Derived.Laws.BitsLemmas
import Derived.RowKit
import Derived.Test.YtddnhcnkjcdfgaaWWords
import Derived.Test.YtddnhcnkjcdfgaaWLast
import Derived.Test.YtddnhcnkjcdfgaaWTab
import Derived.Test.YtddnhcnkjcdfgaaWFour
import Derived.Test.YtddnhcnkjcdfgaaWQPut
import Derived.Test.YtddnhcnkjcdfgaaWApart
import Derived.Test.YtddnhcnkjcdfgaaWArr
import Derived.Test.YtddnhcnkjcdfgaaWZeros
import Derived.Test.YtddnhcnkjcdfgaaWFoot
import Derived.Test.YtddnhcnkjcdfgaaWKept
import Derived.Test.YtddnhcnkjcdfgaaWShare
import Derived.Test.YtddnhcnkjcdfgaaWN
import Derived.Test.YtddnhcnkjcdfgaaWFootNe
import Derived.Test.YtddnhcnkjcdfgaaWAt
import Derived.Test.YtddnhcnkjcdfgaaWEqStruct
import Derived.Test.YtddnhcnkjcdfgaaWRepsOne
import Derived.Test.YtddnhcnkjcdfgaaWInv
import Derived.Test.YtddnhcnkjcdfgaaWInvWords
import Derived.Test.YtddnhcnkjcdfgaaWGuard
import Derived.Test.YtddnhcnkjcdfgaaWNEv
import Derived.Test.YtddnhcnkjcdfgaaWMore
import Derived.Laws.BitsAllLaws
import Derived.StillTailTactics
import Derived.Deep.WholeRow
import Derived.Maps.RangeWalk
import Derived.Maps.OwnOps
namespace Go.Proofs.Ytddnhcnkjcdfgaa.M
open Go.RowKit Go.Maps Go.Proofs.YtddnhcnkjcdfgaaW.PrintWords Go.Proofs.YtddnhcnkjcdfgaaW.PrintLast Go.Proofs.YtddnhcnkjcdfgaaW.PrintMore
set_option linter.unusedVariables false
set_option linter.unusedSimpArgs false
abbrev KB : Kd (List Int) := Kd.slice 5 (Kd.int .u8)
theorem S_put {W0 W1 : World} {base g n c : Nat} {xs : List (List Int)} {v : Value} {x' : List Int} (h : Kd.S KB 28 W0 base (fun _ => True) (.slice (some ⟨g, 0, none⟩) n c) xs) (hb : Below W0.heap.size W0 W1) (i : Nat) (hi : i < n) (hr : Kd.R (Kd.int .u8) 5 W1 W0.heap.size (fun _ => True) v x') (hbase : base ≤ W0.heap.size) :
    Kd.S KB 28 (W1.setCell ⟨g, i, none⟩ v) base (fun _ => True) (.slice (some ⟨g, 0, none⟩) n c) (xs.set i x') := by
  obtain ⟨f, hf⟩ := Kd.S_old h hb
  have hg : g < W0.heap.size := Kd.S_lt h g rfl
  have h1 : (Kd.tag (fun k => if k < W0.heap.size then f k else i) KB).R 28 W1 base (fun k => True ∧ k < W0.heap.size) (.slice (some ⟨g, 0, none⟩) n c) xs.zipIdx := Kd.R_tag hf (fun k hk _ => if_pos hk.2)
  have h2 := Kd.R_mono h1 (ok' := fun _ => True) (fun _ _ => trivial)
  obtain ⟨c0, hl, hM, hc, hfz⟩ := Kd.R_elem h2 ([], 0) (i : Int) (by omega) (by omega)
  rw [Int.toNat_natCast] at hc
  have h3 := Kd.R_seg h2 (i : Int) (by omega) (by omega) (j := 0) (seg := [v]) hl (by rw [Int.toNat_natCast]; exact hc) (show 0 + 1 ≤ 1 by decide) (x' := (x', i)) (okp := fun k => W0.heap.size ≤ k) ?_ (fun k hk => ⟨trivial, by omega⟩)
  · obtain ⟨h3, _⟩ := h3
    rw [Int.toNat_natCast] at h3
    refine ⟨fun k => if k < W0.heap.size then f k else i, ?_⟩
    · rw [show (xs.set i x').zipIdx = xs.zipIdx.set i (x', i) by
        apply List.ext_getElem?
        intro q
        rw [List.getElem?_zipIdx, List.getElem?_set, List.getElem?_set, List.length_zipIdx]
        by_cases e : i = q
        · subst e
          rw [if_pos rfl, if_pos rfl]
          by_cases e2 : i < xs.length
          · rw [if_pos e2, if_pos e2]; simp
          · rw [if_neg e2, if_neg e2]; rfl
        · rw [if_neg e, if_neg e, List.getElem?_zipIdx]]
      have e : W1.setCells g (i * (Kd.tag (fun k => if k < W0.heap.size then f k else i) KB).sz + 0) [v] = W1.setCell ⟨g, i, none⟩ v := by
        show W1.setCell ⟨g, i * 1 + 0, none⟩ v = _
        rw [Nat.mul_one, Nat.add_zero]
      rw [e] at h3
      exact h3
  · have hl1 : c0.length = 1 := hl
    obtain ⟨u, rfl⟩ : ∃ u, c0 = [u] := by
      match c0, hl1 with
      | [u], _ => exact ⟨u, rfl⟩
    refine ⟨v, rfl, Kd.R_lower (Kd.R_mono (Kd.R_bound hr) (fun k hk => ⟨hk.2.1, ?_⟩)) hbase⟩
    show (if k < W0.heap.size then f k else i) = i
    rw [if_neg (by have := hk.2.1; omega)]
theorem take_set (L : List (List Int)) (i : Nat) (hi : i < L.length) : (L.take i ++ List.replicate (L.length - i) []).set i (L.getD i []) = L.take (i + 1) ++ List.replicate (L.length - (i + 1)) [] := by
  rw [List.set_append_right _ _ (by rw [List.length_take]; omega), List.length_take, Nat.min_eq_left (by omega), Nat.sub_self]
  obtain ⟨m, hm⟩ : ∃ m, L.length - i = m + 1 := ⟨L.length - i - 1, by omega⟩
  rw [hm, List.replicate_succ, List.set_cons_zero, show L.length - (i + 1) = m by omega, List.take_succ_eq_append_getElem hi, List.getD_eq_getElem?_getD, List.getElem?_eq_getElem hi]
  simp only [List.append_assoc, List.singleton_append, Option.getD_some]
theorem info28 : (Try.prog.info? 28).map (fun i => (i.zero, i.size, i.bytes)) = some (some (.slice none 0 0), 1, 24) := by kernel_rfl
set_option maxHeartbeats 1000000 in
set_option maxRecDepth 100000 in
theorem image_in (g : Nat) (w : World) (base lb cp mb k : Nat) (f : Nat → Value) (D : DataW Value) (s : DS) (h : DkIn w base g s lb cp mb f k D) :
    Calls Try.prog 26 #[.pointer (some ⟨g, 0, none⟩)] w fun e w' => ∃ go c, e = .returned (.slice (some ⟨go, 0, none⟩) s.n c) ∧ Kd.S KB 28 w' w.heap.size (fun _ => True) (.slice (some ⟨go, 0, none⟩) s.n c) s.L ∧ Below w.heap.size w w' := by
  have hn2 := h.n2
  have hnm := h.nm
  have hgl := blk_lt h.hd
  have hLn : s.L.length = s.n := (Kd.R_reads' h.la).1.symm
  have hg0 : w.cell? ⟨g, 0, none⟩ = some (.slice (some ⟨lb, 0, none⟩) s.n cp) := blk_cell h.hd 0
  have H := Aside0.mk h
  have HLN := Aside0.mk hLn
  have HL5 := Aside0.mk (fun x hx => h.la.each x hx)
  clear h hLn
  generalize hn : s.n = n at *
  have HN := Aside0.mk hn
  clear hn
  go_enter Try.func26, Try.ntmps26
  go_upto_region 2 with (at_make; refine Kd.S_make KB (w0 := w) w.heap.size 28 rfl (N := 11) rfl 37 (.tmp 10) (.tmp 10) rfl (n : Int) rfl rfl Try.underlying37 (.slice none 0 0) 24 info28 rfl (by decide) (by decide) [] (ok := fun _ => True) (okp := fun _ => True) ?mz (fun _ _ => trivial) trivial (by omega) ?ml (Below.refl _ _) (Nat.le_refl _) ?_; (case mz => exact ⟨_, rfl, Kd.R_nil _ _ _ _ _⟩); (case ml => omega); intro v11 w2 hr hb hg hat; rw [Int.toNat_natCast] at hr; obtain ⟨go, co, e11, hgo, _, _⟩ := Kd.S_form hr (by rw [List.length_replicate]; omega); rw [List.length_replicate] at e11; subst e11; have HR := Aside0.mk hr; have HB := Aside0.mk hb; have hg0' : w2.cell? ⟨g, 0, none⟩ = some (.slice (some ⟨lb, 0, none⟩) n cp) := (hb.cell hgl).trans hg0; clear hr hb hg hat hgo)
  go_wp2
  go_loopg [17] n (fun k v17 wr => ∃ (i : Nat), v17 = .int .i64 i ∧ Aside0 (i + k = n) ∧ Aside0 (Kd.S KB 28 wr w.heap.size (fun _ => True) (.slice (some ⟨go, 0, none⟩) n co) (s.L.take i ++ List.replicate (n - i) [])) ∧ Aside0 (Below w.heap.size w wr))
  case atStart => exact ⟨0, rfl, ⟨Nat.zero_add _⟩, ⟨by simpa using HR.out⟩, HB⟩
  case round =>
    clear HR HB hg0'
    obtain ⟨i, rfl, HI, HR, HB⟩ := hrel
    have hD := H.out.chg (G := fun _ => False) (Chg.of_below HB.out) (fun _ _ => id)
    by_cases hi : i < n
    · have hi1 : (i : Int) < (n : Int) := by omega
      have hi0 : (0 : Int) ≤ (i : Int) := by omega
      have HII := Aside0.mk hi
      obtain ⟨bL, hbL⟩ : ∃ x, x = s.L.getD i [] := ⟨_, rfl⟩
      have hS := sec_at hD.la i (by rw [HN.out]; exact hi)
      rw [← hbL] at hS
      have HS := Aside0.mk hS
      have HbL := Aside0.mk hbL
      have hiw : wrap64 ((i : Int) + 1) = ((i + 1 : Nat) : Int) := by unfold wrap64; omega
      clear hi hS hbL hD
      go_upto_region 5 with (first
        | ((with_reducible refine gate_ (.load 91 (.tmp 20)) rfl ?_); refine ld91 (.tmp 20) rfl rfl lb (i * 512) rfl (nums .u8 bL) (by rw [nums_length, HS.out.2.1]) HS.out.1 ?_)
        | ((with_reducible refine gate_ (.alloc 91) rfl ?_); refine al91 rfl rfl wr.heap.size rfl ?_)
        | ((with_reducible refine gate_ (.store 91 (.tmp 5) (.tmp 21)) rfl ?_); refine st91 (.tmp 5) (.tmp 21) rfl rfl rfl wr.heap.size rfl zA (nums .u8 bL) zA_size (by rw [nums_length, HS.out.2.1]) (nums_one _) rfl rfl ?_))
      have HR4 := Aside0.mk (Kd.S_alloc HR.out (.cells (nums .u8 bL).toArray 91))
      have HB4 := Aside0.mk (below_alloc HB.out (.cells (nums .u8 bL).toArray 91))
      have HCL := Aside0.mk (clone_calls ⟨wr.heap.size, 0, none⟩ 512 512 bL (wr.alloc (.cells (nums .u8 bL).toArray 91)) (HS.out.2.1 ▸ C_blk (blk_new wr _) (by rw [HS.out.2.1]; decide)) (by decide))
      have hsl := fun W => slice91 wr.heap.size W
      clear HS
      generalize wr.alloc (.cells (nums .u8 bL).toArray 91) = w4 at HR4 HB4 HCL ⊢
      generalize wr.heap.size = ns at HCL hsl ⊢
      have HF := Aside0.mk (fun (W : World) (hb : Below w4.heap.size w4 W) => (show (∃ u, W.cell? ⟨go, i, none⟩ = some u) ∧ W.frozen? ⟨go, i, none⟩ = false from by
        obtain ⟨c, hl, _, hc, hf⟩ := Kd.R_elem (Kd.S_R (Kd.S_below HR4.out hb)) [] (i : Int) (by omega) (by have := HII.out; omega)
        rw [Int.toNat_natCast] at hc hf
        have hl1 : c.length = 1 := hl
        obtain ⟨u, rfl⟩ : ∃ u, c = [u] := by
          match c, hl1 with
          | [u], _ => exact ⟨u, rfl⟩
        have h1 := hc 0 u rfl
        have h2 := hf 0
        have e : i * KB.sz + 0 = i := Nat.mul_one i
        rw [e] at h1 h2
        exact ⟨⟨u, h1⟩, h2⟩))
      go_wp2_with (go_at_call 44; (with_reducible refine HCL.out.mono ?_); rintro e w5 ⟨v, rfl, hr, hb⟩; obtain ⟨A9, c9, e9⟩ := Kd.R_slice hr; subst e9; obtain ⟨⟨u, hu⟩, hf⟩ := HF.out w5 hb; have H5 := Aside0.mk (And.intro hr hb); clear hr hb)
      go_roundg (gk - 1)
      case measure => (have := HI.out; have := HII.out; omega)
      case rel =>
        have hp := S_put HR4.out H5.out.2 i HII.out H5.out.1 HB4.out.size
        have hbg := (below_step HB4.out H5.out.2).setCell (p := ⟨go, i, none⟩) (Kd.S_base HR4.out go rfl) (.slice A9 bL.length c9)
        have ht := take_set s.L i (by rw [HLN.out]; exact HII.out)
        rw [HLN.out, ← HbL.out] at ht
        rw [ht] at hp
        exact ⟨i + 1, by first | rfl | rw [hiw], ⟨by have := HI.out; have := HII.out; omega⟩, ⟨hp⟩, ⟨hbg⟩⟩
    · have hi1 : ¬ ((i : Int) < (n : Int)) := by omega
      have hin : i = n := by have := HI.out; omega
      subst hin
      clear hi
      go_wp2
      go_ret
      refine ⟨go, co, rfl, ?_, HB.out⟩
      have h1 := HR.out
      rw [Nat.sub_self, List.replicate_zero, List.append_nil, List.take_of_length_le (by rw [HLN.out]; exact Nat.le_refl _)] at h1
      exact h1
end Go.Proofs.Ytddnhcnkjcdfgaa.M
