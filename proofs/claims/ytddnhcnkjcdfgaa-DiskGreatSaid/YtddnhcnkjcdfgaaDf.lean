import Derived.Test.YtddnhcnkjcdfgaaDe
import Derived.Test.YtddnhcnkjcdfgaaProg
import Derived.Below
import Derived.Deep.Draws
import Derived.Deep.AppendLies
import Derived.Maps.AppendAt
import Derived.OwnWalk
import Derived.Laws.BytesArg
import Derived.Laws.MakeOwn
import Derived.Laws.OwnMore
import Derived.Deep.OwnRows
import Derived.Tactics
import Derived.Lib.ConvBytes
import Derived.Laws.Slices
import Derived.WalkKit
import Derived.KernelRfl
import Derived.RowKit3
import Derived.Deep.LoopGhost
import Derived.Deep.QuietTactic
import Derived.BigQuiet
import Derived.WideLaws
import Derived.Deep.DeepCutAuto
import Derived.Deep.CutBlock
import Derived.Deep.RegionHeld3
import Derived.Laws.Rows
import Derived.Lib.AppendStr
import Derived.ArgAppend
import Derived.Laws.IdiomCopy
import Derived.OrdersHeld
import Derived.Laws.BitsLemmas
import Derived.RowKit
import Derived.Test.YtddnhcnkjcdfgaaWWords
import Derived.Test.YtddnhcnkjcdfgaaWLast
import Derived.Test.YtddnhcnkjcdfgaaWTab
import Derived.Test.YtddnhcnkjcdfgaaWFour
import Derived.Test.YtddnhcnkjcdfgaaWQPut
import Derived.Test.YtddnhcnkjcdfgaaWApart
import Derived.Test.YtddnhcnkjcdfgaaWArr
import Derived.Test.YtddnhcnkjcdfgaaWZeros
import Derived.Test.YtddnhcnkjcdfgaaWFoot
import Derived.Test.YtddnhcnkjcdfgaaWKept
import Derived.Test.YtddnhcnkjcdfgaaWShare
import Derived.Test.YtddnhcnkjcdfgaaWN
import Derived.Test.YtddnhcnkjcdfgaaWFootNe
import Derived.Test.YtddnhcnkjcdfgaaWAt
import Derived.Test.YtddnhcnkjcdfgaaWEqStruct
import Derived.Test.YtddnhcnkjcdfgaaWRepsOne
import Derived.Test.YtddnhcnkjcdfgaaWInv
import Derived.Test.YtddnhcnkjcdfgaaWInvWords
import Derived.Test.YtddnhcnkjcdfgaaWGuard
import Derived.Test.YtddnhcnkjcdfgaaWNEv
import Derived.Test.YtddnhcnkjcdfgaaWMore
import Derived.Laws.BitsAllLaws
import Derived.StillTailTactics
import Derived.Deep.WholeRow
import Derived.Maps.RangeWalk
import Derived.Maps.OwnOps
namespace Go.Proofs.Ytddnhcnkjcdfgaa.M
open Go.RowKit Go.Maps Go.Proofs.YtddnhcnkjcdfgaaW.PrintWords Go.Proofs.YtddnhcnkjcdfgaaW.PrintLast Go.Proofs.YtddnhcnkjcdfgaaW.PrintMore
set_option linter.unusedVariables false
set_option linter.unusedSimpArgs false
section
variable {w : World} {base g lb cp mb k : Nat} {s : DS} {f : Nat → Value} {D : DataW Value}
theorem cur_nil {i : Nat} (h : s.W i = []) : s.cur i = s.L.getD i [] := by unfold DS.cur; rw [h]; rfl
theorem cur_last {i : Nat} (h : s.W i ≠ []) : s.cur i = (s.W i).getD ((s.W i).length - 1) [] := by
  unfold DS.cur
  rw [List.getLast?_eq_getElem?, List.getD_eq_getElem?_getD]
  have : (s.W i).length - 1 < (s.W i).length := by
    have := List.length_pos_iff.2 h
    omega
  rw [List.getElem?_eq_getElem this, List.getD_eq_getElem?_getD, List.getElem?_eq_getElem this]
  rfl
end
theorem read_end {w w2 W w5 : World} {base g lb cp mb k : Nat} {s : DS} {f : Nat → Value} {D : DataW Value} {v : Value} {o : Obj} {l l' : List Int} (hx : Chg (fun x => x = g) w w2) (h : DkIn W base g s lb cp mb f k D) (hl : l' = l) (hW : W = w2.alloc o)
    (hr : Kd.R (Kd.int .u8) 5 w5 W.heap.size (fun _ => True) v l ∧ Below W.heap.size W w5) :
    ∃ v', Ending.returned (.tuple #[v, .int .i64 0]) = Ending.returned (.tuple #[v', .int .i64 0]) ∧ Kd.R (Kd.int .u8) 5 w5 w.heap.size (fun _ => True) v' l' ∧ DkIn w5 base g s lb cp mb f k D ∧ Chg (fun x => x = g) w w5 := by
  subst hl hW
  have hs : w2.heap.size ≤ (w2.alloc o).heap.size := by simp
  exact ⟨v, rfl, Kd.R_lower hr.1 (Nat.le_trans hx.size hs), h.chg (G := fun _ => False) (Chg.of_below hr.2) (fun _ _ => id), hx.trans (Chg.of_below (F := fun _ => False) (below_step (below_alloc (Below.refl _ _) o) hr.2)) (fun _ h => h.elim)⟩
set_option maxHeartbeats 1000000 in
set_option maxRecDepth 100000 in
theorem read_in (g i : Nat) (w : World) (base lb cp mb k : Nat) (f : Nat → Value) (D : DataW Value) (s : DS) (h : DkIn w base g s lb cp mb f k D) (hi : i < s.n) :
    Calls Try.prog 25 #[.pointer (some ⟨g, 0, none⟩), .int .i64 (i : Int)] w fun e w' => ∃ v, e = .returned (.tuple #[v, .int .i64 0]) ∧ Kd.R (Kd.int .u8) 5 w' w.heap.size (fun _ => True) v (s.cur i) ∧ DkIn w' base g s.reads lb cp mb f k D ∧ Chg (fun x => x = g) w w' := by
  have hn2 := h.n2
  have hnm := h.nm
  have hg0 : w.cell? ⟨g, 0, none⟩ = some (.slice (some ⟨lb, 0, none⟩) s.n cp) := blk_cell h.hd 0
  have hg2 : w.cell? ⟨g, 2, none⟩ = some (.int .i64 s.r) := blk_cell h.hd 2
  have hgf : w.frozen? ⟨g, 2, none⟩ = false := blk_frozen h.hd 2
  have Hout := Aside0.mk (show Calls Try.prog 41 #[.pointer (some ⟨g, 0, none⟩), .int .i64 (i : Int)] w fun e w' => e = .returned (.bool false) ∧ w' = w from by
    have h_ := outside_calls g (i : Int) s.n (some ⟨lb, 0, none⟩) cp w hg0
    rw [show (!decide (0 ≤ (i : Int) ∧ (i : Int) < (s.n : Int))) = false by simp; omega] at h_
    exact h_)
  have H1 := Aside0.mk (h.acts 2 (wrap64 (s.r + 1)) s.reads ⟨rfl, rfl, rfl, rfl⟩ rfl)
  have HX := Aside0.mk (Chg.setCell (F := fun x => x = g) (Chg.refl _ w) rfl 2 (.int .i64 (wrap64 (s.r + 1))))
  have HI := Aside0.mk hi
  have hi0 : (0 : Int) ≤ (i : Int) := by omega
  have hi1 : (i : Int) < (s.n : Int) := by omega
  clear h hi
  go_enter Try.func25, Try.ntmps25
  go_upto_region 4 with (go_at_call 41; (with_reducible refine Hout.out.mono ?_); rintro e w1 ⟨rfl, hw_⟩; subst hw_)
  clear hg0 hg2 hgf Hout
  generalize w1.setCell ⟨g, 2, none⟩ (.int .i64 (wrap64 (s.r + 1))) = w2 at H1 HX ⊢
  have hg0 : w2.cell? ⟨g, 0, none⟩ = some (.slice (some ⟨lb, 0, none⟩) s.n cp) := blk_cell H1.out.hd 0
  have hg1 : w2.cell? ⟨g, 1, none⟩ = some (.map (some mb)) := blk_cell H1.out.hd 1
  have HL := Aside0.mk (sec_at H1.out.la i HI.out)
  obtain ⟨bL, hbL⟩ : ∃ x, x = s.L.getD i [] := ⟨_, rfl⟩
  obtain ⟨hLr, hLl, _⟩ : w2.rangeAt lb (i * 512) (nums .u8 (s.L.getD i [])) ∧ (s.L.getD i []).length = 512 ∧ w2.there lb (i * 512) 512 := HL.out
  rw [← hbL] at hLr hLl
  have HbL := Aside0.mk hbL
  have HN := Aside0.mk nums_one
  go_upto_region 5 with (first
    | ((with_reducible refine gate_ (.load 91 (.tmp 25)) rfl ?_); refine ld91 (.tmp 25) rfl rfl lb (i * 512) rfl (nums .u8 bL) (by rw [nums_length, hLl]) hLr ?_)
    | ((with_reducible refine gate_ (.alloc 91) rfl ?_); refine al91 rfl rfl w2.heap.size rfl ?_)
    | ((with_reducible refine gate_ (.store 91 (.tmp 6) (.tmp 26)) rfl ?_); refine st91 (.tmp 6) (.tmp 26) rfl rfl rfl w2.heap.size rfl zA (nums .u8 bL) zA_size (by rw [nums_length, hLl]) (HN.out _) rfl rfl ?_))
  have hgl := blk_lt H1.out.hd
  obtain ⟨cb, hcb⟩ : ∃ x, x = nums .u8 bL := ⟨_, rfl⟩
  rw [← hcb]
  have HC := Aside0.mk hcb
  have hcbl : cb.length = 512 := by rw [hcb, nums_length, hLl]
  have H2 := Aside0.mk (H1.out.chg (w' := w2.alloc (.cells cb.toArray 91)) (G := fun _ => False) (Chg.of_below (below_alloc (Below.refl _ _) _)) (fun _ _ => id))
  have hg1' : (w2.alloc (.cells cb.toArray 91)).cell? ⟨g, 1, none⟩ = some (.map (some mb)) := blk_cell H2.out.hd 1
  obtain ⟨A7, c7, e7⟩ := Kd.R_slice (H2.out.rows i HI.out)
  have hlk : (Instr.lookup 87 (.map (some mb)) (.int .i64 (i : Int)) false).run Try.prog (w2.alloc (.cells cb.toArray 91)) = .ok (.slice A7 (s.W i).length c7) (w2.alloc (.cells cb.toArray 91)) := e7 ▸ H2.out.look i HI.out
  have HE := Aside0.mk e7
  clear hcb hLr hg0 hg1 e7
  have hsl := fun W => slice91 w2.heap.size W
  by_cases hW : s.W i = []
  · have hWl : (s.W i).length = 0 := by rw [hW]; rfl
    have HW := Aside0.mk hW
    rw [hWl] at hlk
    clear hW hWl
    have HCL := Aside0.mk (show Calls Try.prog 44 #[.slice (some ⟨w2.heap.size, 0, none⟩) 512 512] (w2.alloc (.cells cb.toArray 91)) fun e w' => ∃ v, e = .returned v ∧ Kd.R (Kd.int .u8) 5 w' (w2.alloc (.cells cb.toArray 91)).heap.size (fun _ => True) v bL ∧ Below (w2.alloc (.cells cb.toArray 91)).heap.size (w2.alloc (.cells cb.toArray 91)) w' from
      clone_calls ⟨w2.heap.size, 0, none⟩ 512 512 bL _ (hLl ▸ C_blk (by rw [HC.out]; exact blk_new w2 _) (by omega)) (by omega))
    go_wp2_with (go_at_call 44; (with_reducible refine HCL.out.mono ?_); rintro e w5 ⟨v, rfl, hr, hb⟩; have HR := Aside0.mk (And.intro hr hb); clear hr hb)
    go_ret2
    exact read_end HX.out H2.out (by rw [cur_nil HW.out, ← HbL.out]) rfl HR.out
  · have HW := Aside0.mk hW
    have hWl : 0 < (s.W i).length := List.length_pos_iff.2 hW
    have hWc : (s.W i).length ≤ 9223372036854775807 := (Kd.R_reads' (HE.out ▸ H2.out.rows i HI.out)).2.2.2.1
    obtain ⟨b7, c7', e8, _⟩ := Kd.R_form (H2.out.rows i HI.out) hWl
    obtain ⟨rfl, rfl⟩ : A7 = some ⟨b7, 0, none⟩ ∧ c7 = c7' := by rw [HE.out] at e8; cases e8; exact ⟨rfl, rfl⟩
    have hS7 := sec_at (HE.out ▸ H2.out.rows i HI.out : Rs _ base (.slice (some ⟨b7, 0, none⟩) (s.W i).length c7) (s.W i)) ((s.W i).length - 1) (by omega)
    rw [← cur_last hW] at hS7
    obtain ⟨hSr, hSl, _⟩ := hS7
    obtain ⟨bC, hbC⟩ : ∃ x, x = s.cur i := ⟨_, rfl⟩
    have HbC := Aside0.mk hbC
    rw [← hbC] at hSr hSl
    have HSr := Aside0.mk hSr
    generalize (s.W i).length = ln at *
    have HCL := Aside0.mk (show Calls Try.prog 44 #[.slice (some ⟨w2.heap.size, 0, none⟩) 512 512] (w2.alloc (.cells (nums .u8 bC).toArray 91)) fun e w' => ∃ v, e = .returned v ∧ Kd.R (Kd.int .u8) 5 w' (w2.alloc (.cells (nums .u8 bC).toArray 91)).heap.size (fun _ => True) v bC ∧ Below (w2.alloc (.cells (nums .u8 bC).toArray 91)).heap.size (w2.alloc (.cells (nums .u8 bC).toArray 91)) w' from
      clone_calls ⟨w2.heap.size, 0, none⟩ 512 512 bC _ (hSl ▸ C_blk (blk_new w2 _) (by omega)) (by omega))
    have H3 := Aside0.mk (H1.out.chg (w' := w2.alloc (.cells (nums .u8 bC).toArray 91)) (G := fun _ => False) (Chg.of_below (below_alloc (Below.refl _ _) _)) (fun _ _ => id))
    have hl0 : (0 : Int) < (ln : Int) := by omega
    have hl1 : (0 : Int) ≤ (ln : Int) - 1 := by omega
    have hl2 : (ln : Int) - 1 < (ln : Int) := by omega
    clear hW e8 hbC hSr
    go_wp2_with (first
      | ((with_reducible refine gate_ (.load 91 (.tmp 40)) rfl ?_); refine ld91 (.tmp 40) rfl rfl b7 ((ln - 1) * 512) rfl (nums .u8 bC) (by rw [nums_length, hSl]) HSr.out ?_)
      | ((with_reducible refine gate_ (.store 91 (.tmp 6) (.tmp 41)) rfl ?_); refine st91 (.tmp 6) (.tmp 41) rfl rfl rfl w2.heap.size rfl cb.toArray (nums .u8 bC) (by rw [List.size_toArray, hcbl]) (by rw [nums_length, hSl]) (HN.out _) rfl rfl ?_)
      | (go_at_call 44; (with_reducible refine HCL.out.mono ?_); rintro e w5 ⟨v, rfl, hr, hb⟩; have HR := Aside0.mk (And.intro hr hb); clear hr hb))
    go_ret2
    exact read_end HX.out H3.out HbC.out.symm rfl HR.out
end Go.Proofs.Ytddnhcnkjcdfgaa.M
