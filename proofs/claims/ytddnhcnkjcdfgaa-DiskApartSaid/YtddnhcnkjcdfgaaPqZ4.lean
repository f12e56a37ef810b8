-- written by programs of this session; what nothing here names is left out
import Derived.Test.YtddnhcnkjcdfgaaPqZ3
import Derived.DataShut
namespace Go.Proofs.Ytddnhcnkjcdfgaa.R
open Go.Proofs.Ytddnhcnkjcdfgaa.M Go.Proofs.Ytddnhcnkjcdfgaa.P
open Go.RowKit Go.Proofs.YtddnhcnkjcdfgaaW.PrintWords Go.Proofs.YtddnhcnkjcdfgaaW.PrintLast Go.Proofs.YtddnhcnkjcdfgaaW.PrintMore
attribute [local go_sem] max2_int min2_int max_two min_two max_three min_three max_four min_four   -- for this text's walks alone
set_option linter.unusedVariables false
set_option linter.unusedSimpArgs false
mutual
def kilnref3_Turn.j0 : Nat → Int → Int → Bool → Int → List (S106) → List (S106) → Int → Int → Int → Option (Int × (List (S106)) × (List (S106)) × Int × Int × Int × Int)
  | 0, _, _, _, _, _, _, _, _, _ => none
  | k + 1, x1, x2, x17, x335000, x335001, x335002, x335003, x335004, x335005 => if x17 = true then (some (x335000, x335001, x335002, x335003, x335004, x335005, 31)) else (if x2 < 0 then (kilnref3_Turn.j1 k x1 x2 true x335000 x335001 x335002 x335003 x335004 x335005) else (kilnref3_Turn.j1 k x1 x2 (decide (x2 ≥ 4096)) x335000 x335001 x335002 x335003 x335004 x335005))
def kilnref3_Turn.j1 : Nat → Int → Int → Bool → Int → List (S106) → List (S106) → Int → Int → Int → Option (Int × (List (S106)) × (List (S106)) × Int × Int × Int × Int)
  | 0, _, _, _, _, _, _, _, _, _ => none
  | k + 1, x1, x2, x24, x335000, x335001, x335002, x335003, x335004, x335005 => if x24 = true then (some (x335000, x335001, x335002, x335003, x335004, x335005, 1)) else ((kilnref3_lasts.f k x335000 x335001 x335002 x335003 x335004 x335005 x1).bind fun t336 => ((kilnref3_turned.f t336 x2).bind fun t339 => ((kilnref3_put.f k x335001 x1 t339).bind fun t342 => (kilnref3_Turn.l0 k x1 x2 ([] : List (S106)) 0 x335000 t342 x335002 x335003 x335004 x335005))))
def kilnref3_Turn.l0 : Nat → Int → Int → List (S106) → Int → Int → List (S106) → List (S106) → Int → Int → Int → Option (Int × (List (S106)) × (List (S106)) × Int × Int × Int × Int)
  | 0, _, _, _, _, _, _, _, _, _, _ => none
  | k + 1, x1, x2, x8, x9, x335000, x335001, x335002, x335003, x335004, x335005 => if x9 < (x335002.length : Int) then (if 0 ≤ x9 then (if ((rd_T106 x335002 x9).f0) = x1 then ((kilnref3_turned.f ((rd_T106 x335002 x9).f1) x2).bind fun t347 => (if x8.length < 4398046511104 then (kilnref3_Turn.l0 k x1 x2 (x8 ++ [(⟨x1, t347⟩ : S106)]) (wrap64 (x9 + 1)) x335000 x335001 x335002 x335003 x335004 x335005) else (none))) else (if x8.length < 4398046511104 then (kilnref3_Turn.l0 k x1 x2 (x8 ++ [(⟨(rd_T106 x335002 x9).f0, (rd_T106 x335002 x9).f1⟩ : S106)]) (wrap64 (x9 + 1)) x335000 x335001 x335002 x335003 x335004 x335005) else (none))) else (none)) else (some (x335000, x335001, x8, x335003, x335004, x335005, 0))
end
def kilnref3_Turn.f (k : Nat) (a0_0 : Int) (l0_1 : List (S106)) (l0_2 : List (S106)) (a0_3 : Int) (a0_4 : Int) (a0_5 : Int) (a1 : Int) (a2 : Int) : Option (Int × (List (S106)) × (List (S106)) × Int × Int × Int × Int) := if a1 < 0 then (kilnref3_Turn.j0 k a1 a2 true a0_0 l0_1 l0_2 a0_3 a0_4 a0_5) else (kilnref3_Turn.j0 k a1 a2 (decide (a1 ≥ a0_0)) a0_0 l0_1 l0_2 a0_3 a0_4 a0_5)
theorem kilnref3_Turn.mono_l : ∀ k, (∀ y0 y1 y2 y3 y4 y5 y6 y7 y8, LeO (kilnref3_Turn.j0 k y0 y1 y2 y3 y4 y5 y6 y7 y8) (kilnref3_Turn.j0 (k + 1) y0 y1 y2 y3 y4 y5 y6 y7 y8)) ∧ (∀ y0 y1 y2 y3 y4 y5 y6 y7 y8, LeO (kilnref3_Turn.j1 k y0 y1 y2 y3 y4 y5 y6 y7 y8) (kilnref3_Turn.j1 (k + 1) y0 y1 y2 y3 y4 y5 y6 y7 y8)) ∧ (∀ y0 y1 y2 y3 y4 y5 y6 y7 y8 y9, LeO (kilnref3_Turn.l0 k y0 y1 y2 y3 y4 y5 y6 y7 y8 y9) (kilnref3_Turn.l0 (k + 1) y0 y1 y2 y3 y4 y5 y6 y7 y8 y9))
  | 0 => ⟨fun _ _ _ _ _ _ _ _ _ r h => by simp [kilnref3_Turn.j0] at h, fun _ _ _ _ _ _ _ _ _ r h => by simp [kilnref3_Turn.j1] at h, fun _ _ _ _ _ _ _ _ _ _ r h => by simp [kilnref3_Turn.l0] at h⟩
  | k + 1 => by
    obtain ⟨ih0, ih1, ih2⟩ := kilnref3_Turn.mono_l k
    refine ⟨?_, ?_, ?_⟩
    · intro y0 y1 y2 y3 y4 y5 y6 y7 y8
      unfold kilnref3_Turn.j0
      repeat' first
      | (with_reducible exact ih0 _ _ _ _ _ _ _ _ _)
      | (with_reducible exact ih1 _ _ _ _ _ _ _ _ _)
      | (with_reducible exact ih2 _ _ _ _ _ _ _ _ _ _)
      | (with_reducible exact kilnref3_lasts.mono _ _ _ _ _ _ _ _)
      | (with_reducible exact kilnref3_put.mono _ _ _ _)
      | (with_reducible exact LeO.refl _)
      | (with_reducible exact LeO.none _)
      | (with_reducible refine LeO.ite ?_ ?_)
      | (with_reducible refine LeO.bind ?_ (fun _ => ?_))
      | exact ih0 _ _ _ _ _ _ _ _ _
      | exact ih1 _ _ _ _ _ _ _ _ _
      | exact ih2 _ _ _ _ _ _ _ _ _ _
      | exact kilnref3_lasts.mono _ _ _ _ _ _ _ _
      | exact kilnref3_put.mono _ _ _ _
      | exact LeO.none _
      | refine LeO.ite ?_ ?_
      | refine LeO.bind ?_ (fun _ => ?_)
    · intro y0 y1 y2 y3 y4 y5 y6 y7 y8
      unfold kilnref3_Turn.j1
      repeat' first
      | (with_reducible exact ih0 _ _ _ _ _ _ _ _ _)
      | (with_reducible exact ih1 _ _ _ _ _ _ _ _ _)
      | (with_reducible exact ih2 _ _ _ _ _ _ _ _ _ _)
      | (with_reducible exact kilnref3_lasts.mono _ _ _ _ _ _ _ _)
      | (with_reducible exact kilnref3_put.mono _ _ _ _)
      | (with_reducible exact LeO.refl _)
      | (with_reducible exact LeO.none _)
      | (with_reducible refine LeO.ite ?_ ?_)
      | (with_reducible refine LeO.bind ?_ (fun _ => ?_))
      | exact ih0 _ _ _ _ _ _ _ _ _
      | exact ih1 _ _ _ _ _ _ _ _ _
      | exact ih2 _ _ _ _ _ _ _ _ _ _
      | exact kilnref3_lasts.mono _ _ _ _ _ _ _ _
      | exact kilnref3_put.mono _ _ _ _
      | exact LeO.none _
      | refine LeO.ite ?_ ?_
      | refine LeO.bind ?_ (fun _ => ?_)
    · intro y0 y1 y2 y3 y4 y5 y6 y7 y8 y9
      unfold kilnref3_Turn.l0
      repeat' first
      | (with_reducible exact ih0 _ _ _ _ _ _ _ _ _)
      | (with_reducible exact ih1 _ _ _ _ _ _ _ _ _)
      | (with_reducible exact ih2 _ _ _ _ _ _ _ _ _ _)
      | (with_reducible exact kilnref3_lasts.mono _ _ _ _ _ _ _ _)
      | (with_reducible exact kilnref3_put.mono _ _ _ _)
      | (with_reducible exact LeO.refl _)
      | (with_reducible exact LeO.none _)
      | (with_reducible refine LeO.ite ?_ ?_)
      | (with_reducible refine LeO.bind ?_ (fun _ => ?_))
      | exact ih0 _ _ _ _ _ _ _ _ _
      | exact ih1 _ _ _ _ _ _ _ _ _
      | exact ih2 _ _ _ _ _ _ _ _ _ _
      | exact kilnref3_lasts.mono _ _ _ _ _ _ _ _
      | exact kilnref3_put.mono _ _ _ _
      | exact LeO.none _
      | refine LeO.ite ?_ ?_
      | refine LeO.bind ?_ (fun _ => ?_)
theorem kilnref3_Turn.mono : ∀ a0 a1 a2 a3 a4 a5 a6 a7 k, LeO (kilnref3_Turn.f k a0 a1 a2 a3 a4 a5 a6 a7) (kilnref3_Turn.f (k + 1) a0 a1 a2 a3 a4 a5 a6 a7) := by
  intro a0 a1 a2 a3 a4 a5 a6 a7 k
  obtain ⟨ih0, ih1, ih2⟩ := kilnref3_Turn.mono_l k
  unfold kilnref3_Turn.f
  repeat' first
      | (with_reducible exact ih0 _ _ _ _ _ _ _ _ _)
      | (with_reducible exact ih1 _ _ _ _ _ _ _ _ _)
      | (with_reducible exact ih2 _ _ _ _ _ _ _ _ _ _)
      | (with_reducible exact kilnref3_lasts.mono _ _ _ _ _ _ _ _)
      | (with_reducible exact kilnref3_put.mono _ _ _ _)
      | (with_reducible exact LeO.refl _)
      | (with_reducible exact LeO.none _)
      | (with_reducible refine LeO.ite ?_ ?_)
      | (with_reducible refine LeO.bind ?_ (fun _ => ?_))
      | exact ih0 _ _ _ _ _ _ _ _ _
      | exact ih1 _ _ _ _ _ _ _ _ _
      | exact ih2 _ _ _ _ _ _ _ _ _ _
      | exact kilnref3_lasts.mono _ _ _ _ _ _ _ _
      | exact kilnref3_put.mono _ _ _ _
      | exact LeO.none _
      | refine LeO.ite ?_ ?_
      | refine LeO.bind ?_ (fun _ => ?_)
def kilnref3_Turn.T5 : Bool × List (List Nat × List Nat) := (true, [([], []), ([0], [0]), ([], []), ([], []), ([], []), ([3, 4], [3, 4]), ([], []), ([5, 6, 5], [5, 6]), ([1, 2, 7, 7], [1, 2, 7]), ([0, 1, 2, 3, 4, 5, 6, 7, 8], []), ([9, 8, 8, 0, 1, 2, 3, 4, 5, 6, 7, 8], [8, 9])])
def kilnref3_Turn.B5 : List Nat := [0, 1, 0, 0, 0, 24, 0, 120, 255, 511, 1023]
theorem kilnref3_Turn.tab5 : rtab .any (opsOf Try.f53 5) = kilnref3_Turn.T5 := by kernel_rfl
theorem kilnref3_Turn.bits5 : waitsOk kilnref3_Turn.T5.2 kilnref3_Turn.B5 = true := by kernel_rfl
set_option maxHeartbeats 8000000 in
set_option maxRecDepth 100000 in
theorem kilnref3_Turn.calls (k : Nat) (a0_0 : Int) (P0_1_ : Nat → Prop) (A0_1 : Option Addr) (c0_1 : Nat) (l0_1 : List (S106)) (P0_2_ : Nat → Prop) (A0_2 : Option Addr) (c0_2 : Nat) (l0_2 : List (S106)) (a0_3 : Int) (a0_4 : Int) (a0_5 : Int) (a1 : Int) (a2 : Int) (r1 : Int) (r2 : List (S106)) (r3 : List (S106)) (r4 : Int) (r5 : Int) (r6 : Int) (r7 : Int) (w : World) (hs0_1 : Kd.V k106 106 w w.heap.size (fun k_ => P0_1_ k_) (.slice A0_1 l0_1.length c0_1) l0_1) (hs0_2 : Kd.V k106 106 w w.heap.size (fun k_ => P0_2_ k_) (.slice A0_2 l0_2.length c0_2) l0_2) (h : kilnref3_Turn.f k a0_0 l0_1 l0_2 a0_3 a0_4 a0_5 a1 a2 = some (r1, r2, r3, r4, r5, r6, r7)) :
    Calls Try.prog 53 #[.agg #[.int .i64 a0_0, .slice A0_1 l0_1.length c0_1, .slice A0_2 l0_2.length c0_2, .int .i64 a0_3, .int .i64 a0_4, .int .i64 a0_5], .int .i64 a1, .int .i64 a2] w fun e w' => ∃ v1_ v2_ : Value, e = .returned (.tuple #[.agg #[.int .i64 r1, v1_, v2_, .int .i64 r4, .int .i64 r5, .int .i64 r6], .int .i64 r7]) ∧ Kd.V k106 106 w' w.heap.size (fun k_ => ((P0_1_ k_ ∨ P0_2_ k_) ∨ w.heap.size ≤ k_)) v1_ r2 ∧ Kd.V k106 106 w' w.heap.size (fun k_ => ((P0_1_ k_ ∨ P0_2_ k_) ∨ w.heap.size ≤ k_)) v2_ r3 ∧ Below w.heap.size w w' := by
  have hu76 := Try.underlying76
  have hu106 := Try.underlying106
  have HO0_1 := Aside0.mk (show Kd.V k106 106 w w.heap.size (fun k_ => ((P0_1_ k_ ∨ P0_2_ k_) ∨ w.heap.size ≤ k_)) (.slice A0_1 l0_1.length c0_1) l0_1 from Kd.V_mono hs0_1 (fun k_ hk => .inl (.inl hk)))
  have HO0_2 := Aside0.mk (show Kd.V k106 106 w w.heap.size (fun k_ => ((P0_1_ k_ ∨ P0_2_ k_) ∨ w.heap.size ≤ k_)) (.slice A0_2 l0_2.length c0_2) l0_2 from Kd.V_mono hs0_2 (fun k_ hk => .inl (.inr hk)))
  have HB := Aside0.mk (Below.refl w.heap.size w)
  have H : (if a1 < 0 then (kilnref3_Turn.j0 k a1 a2 true a0_0 l0_1 l0_2 a0_3 a0_4 a0_5) else (kilnref3_Turn.j0 k a1 a2 (decide (a1 ≥ a0_0)) a0_0 l0_1 l0_2 a0_3 a0_4 a0_5)) = some (r1, r2, r3, r4, r5, r6, r7) := h
  clear h
  have HC4 := Aside0.mk H
  clear H
  go_enter Try.func53, Try.ntmps53
  go_upto_region 1 with (first | ((with_reducible refine gate_dst (N := 3) rfl ?_); refine box_event ?hg (N := 3) ?hd (cs := #[.int .i64 a0_0, .slice A0_1 l0_1.length c0_1, .slice A0_2 l0_2.length c0_2, .int .i64 a0_3, .int .i64 a0_4, .int .i64 a0_5]) (t := 76) ?hr ?_; (case hd => rfl); (case hg => rfl); (case hr => first | (go_simp; done) | (go_simp; rfl)); intro gb334 hg w5 hbox hb; have n0_ := Aside0.mk (Kd.V_below (Kd.V_elderB (by (with_reducible repeat (first | apply Kd.V_alloc | apply Kd.V_drewN | apply Kd.V_drew)); exact HO0_1.out) gb334 (Nat.le_of_eq hg.symm)) hb); have n1_ := Aside0.mk (Kd.V_below (Kd.V_elderB (by (with_reducible repeat (first | apply Kd.V_alloc | apply Kd.V_drewN | apply Kd.V_drew)); exact HO0_2.out) gb334 (Nat.le_of_eq hg.symm)) hb); have n2_ := Aside0.mk (below_step (by repeat (first | (with_reducible first | exact HB.out | apply below_alloc | apply pw_below_drewN | apply below_drew1) | exact HB.out)) hb); have n3_ := Aside0.mk (hbox); have n4_ := Aside0.mk ((by rw [hg]; exact (below_size (by repeat (first | (with_reducible first | exact HB.out | apply below_alloc | apply pw_below_drewN | apply below_drew1) | exact HB.out))) : w.heap.size ≤ gb334)); have n5_ := Aside0.mk ((by rw [hg]; exact (below_size (by repeat (first | (with_reducible first | exact HB.out | apply below_alloc | apply pw_below_drewN | apply below_drew1) | exact HB.out))) : w.heap.size ≤ gb334)); clear HO0_1; clear HO0_2; clear HB; have HO0_1 := n0_; have HO0_2 := n1_; have HB := n2_; have BK334 := n3_; have GW334 := n4_; have GE334 := n5_; clear n0_ n1_ n2_ n3_ n4_ n5_; clear hb hbox hg) | ((with_reducible refine gate_dst (N := 6) rfl ?_); refine box_event ?hg (N := 6) ?hd (cs := #[.int .i64 0, .slice none 0 0, .slice none 0 0, .int .i64 0, .int .i64 0, .int .i64 0]) (t := 76) ?hr ?_; (case hd => rfl); (case hg => rfl); (case hr => first | (go_simp; done) | (go_simp; rfl)); intro gb335 hg w6 hbox hb; have n0_ := Aside0.mk (Kd.V_below (Kd.V_elderB (by (with_reducible repeat (first | apply Kd.V_alloc | apply Kd.V_drewN | apply Kd.V_drew)); exact HO0_1.out) gb335 (Nat.le_of_eq hg.symm)) hb); have n1_ := Aside0.mk (Kd.V_below (Kd.V_elderB (by (with_reducible repeat (first | apply Kd.V_alloc | apply Kd.V_drewN | apply Kd.V_drew)); exact HO0_2.out) gb335 (Nat.le_of_eq hg.symm)) hb); have n2_ := Aside0.mk (blk_below (g := gb334) (o := .cells #[.int .i64 a0_0, .slice A0_1 l0_1.length c0_1, .slice A0_2 l0_2.length c0_2, .int .i64 a0_3, .int .i64 a0_4, .int .i64 a0_5] 76 (0, 0)) (by (with_reducible repeat (first | refine blk_drewN ?_ _ | refine blk_drew ?_ | refine blk_alloc ?_ _)); exact BK334.out) hb); have n3_ := Aside0.mk (below_step (by repeat (first | (with_reducible first | exact HB.out | apply below_alloc | apply pw_below_drewN | apply below_drew1 | refine below_set ?_ GE334.out) | exact HB.out)) hb); have n4_ := Aside0.mk (hbox); have n5_ := Aside0.mk ((by rw [hg]; exact (below_size (by repeat (first | (with_reducible first | exact HB.out | apply below_alloc | apply pw_below_drewN | apply below_drew1 | refine below_set ?_ GE334.out) | exact HB.out))) : w.heap.size ≤ gb335)); have n6_ := Aside0.mk ((by rw [hg]; exact (below_size (by repeat (first | (with_reducible first | exact HB.out | apply below_alloc | apply pw_below_drewN | apply below_drew1 | refine below_set ?_ GE334.out) | exact HB.out))) : w.heap.size ≤ gb335)); have n7_ := Aside0.mk ((by rw [hg]; exact Nat.ne_of_lt (blk_lt (g := gb334) (o := .cells #[.int .i64 a0_0, .slice A0_1 l0_1.length c0_1, .slice A0_2 l0_2.length c0_2, .int .i64 a0_3, .int .i64 a0_4, .int .i64 a0_5] 76 (0, 0)) (by (with_reducible repeat (first | refine blk_drewN ?_ _ | refine blk_drew ?_ | refine blk_alloc ?_ _)); exact BK334.out)) : gb334 ≠ gb335)); have n8_ := Aside0.mk ((by rw [hg]; exact Nat.ne_of_gt (blk_lt (g := gb334) (o := .cells #[.int .i64 a0_0, .slice A0_1 l0_1.length c0_1, .slice A0_2 l0_2.length c0_2, .int .i64 a0_3, .int .i64 a0_4, .int .i64 a0_5] 76 (0, 0)) (by (with_reducible repeat (first | refine blk_drewN ?_ _ | refine blk_drew ?_ | refine blk_alloc ?_ _)); exact BK334.out)) : gb335 ≠ gb334)); clear HO0_1; clear HO0_2; clear BK334; clear HB; have HO0_1 := n0_; have HO0_2 := n1_; have BK334 := n2_; have HB := n3_; have BK335 := n4_; have GW335 := n5_; have GE335 := n6_; have NB334_335 := n7_; have NB335_334 := n8_; clear n0_ n1_ n2_ n3_ n4_ n5_ n6_ n7_ n8_; clear hb hbox hg))
  (try simp only [Act.put, List.setIfInBounds_toArray, List.set_cons_zero, List.set_cons_succ])
  go_cut [17] (fun v17 wc => ∃ (kq : Nat) (x17_3 : Bool), v17 = .bool x17_3 ∧ Aside0 (kilnref3_Turn.j0 kq a1 a2 x17_3 a0_0 l0_1 l0_2 a0_3 a0_4 a0_5 = some (r1, r2, r3, r4, r5, r6, r7)) ∧ Aside0 (kq ≤ k) ∧ Aside0 (Kd.V k106 106 wc w.heap.size (fun k_ => ((P0_1_ k_ ∨ P0_2_ k_) ∨ w.heap.size ≤ k_) ∧ k_ ≠ gb334 ∧ k_ ≠ gb335) (.slice A0_1 l0_1.length c0_1) l0_1) ∧ Aside0 (Kd.V k106 106 wc w.heap.size (fun k_ => ((P0_1_ k_ ∨ P0_2_ k_) ∨ w.heap.size ≤ k_) ∧ k_ ≠ gb334 ∧ k_ ≠ gb335) (.slice A0_2 l0_2.length c0_2) l0_2) ∧ Aside0 (wc.heap[gb334]? = some (.cells #[.int .i64 a0_0, (.slice A0_1 l0_1.length c0_1), (.slice A0_2 l0_2.length c0_2), .int .i64 a0_3, .int .i64 a0_4, .int .i64 a0_5] 76 (0, 0))) ∧ Aside0 (wc.heap[gb335]? = some (.cells #[.int .i64 0, (.slice none 0 0), (.slice none 0 0), .int .i64 0, .int .i64 0, .int .i64 0] 76 (0, 0))) ∧ Aside0 (Below w.heap.size w wc))
  case first =>
    have H := HC4.out
    clear HC4
    by_cases c7 : a1 < 0
    · rw [if_pos c7] at H
      have c7b0 : decide (a1 < 0) = true := decide_eq_true c7
      clear c7
      (first | rw [c7b0] | (simp only [i64_w, i32_w]; rw [c7b0]) | skip)
      have H' := Aside0.mk H
      clear H
      go_wp2
      go_meet
      case rel => exact ⟨_, (true), (by first | rfl | (simp; done) | (simp [*]; done)), H', ⟨by first | omega | exact Nat.le_refl _⟩, ⟨by (with_reducible repeat (first | apply Kd.V_alloc | apply Kd.V_drewN | apply Kd.V_drew)); exact Kd.V_mono HO0_1.out (fun _ hk => ⟨hk.1.1, ⟨hk.1.2, hk.2⟩⟩)⟩, ⟨by (with_reducible repeat (first | apply Kd.V_alloc | apply Kd.V_drewN | apply Kd.V_drew)); exact Kd.V_mono HO0_2.out (fun _ hk => ⟨hk.1.1, ⟨hk.1.2, hk.2⟩⟩)⟩, ⟨by (with_reducible repeat (first | refine blk_drewN ?_ _ | refine blk_drew ?_ | refine blk_alloc ?_ _)); exact BK334.out⟩, ⟨by (with_reducible repeat (first | refine blk_drewN ?_ _ | refine blk_drew ?_ | refine blk_alloc ?_ _)); exact BK335.out⟩, ⟨by repeat (first | (with_reducible first | exact HB.out | apply below_alloc | apply pw_below_drewN | apply below_drew1 | refine below_set ?_ GE334.out | refine below_set ?_ GE335.out) | exact HB.out)⟩⟩
    · rw [if_neg c7] at H
      have c7b0 : decide (a1 < 0) = false := decide_eq_false c7
      clear c7
      (first | rw [c7b0] | (simp only [i64_w, i32_w]; rw [c7b0]) | skip)
      have H' := Aside0.mk H
      clear H
      have hnb8 := NB334_335.out
      have hnc8 := NB335_334.out
      have hcz9_0 : w6.cell? ⟨gb334, 0, none⟩ = some (.int .i64 a0_0) := (blk_cell BK334.out 0).trans rfl
      have hcz9_1 : w6.cell? ⟨gb334, 1, none⟩ = some (.slice A0_1 l0_1.length c0_1) := (blk_cell BK334.out 1).trans rfl
      have hcz9_2 : w6.cell? ⟨gb334, 2, none⟩ = some (.slice A0_2 l0_2.length c0_2) := (blk_cell BK334.out 2).trans rfl
      have hcz9_3 : w6.cell? ⟨gb334, 3, none⟩ = some (.int .i64 a0_3) := (blk_cell BK334.out 3).trans rfl
      have hcz9_4 : w6.cell? ⟨gb334, 4, none⟩ = some (.int .i64 a0_4) := (blk_cell BK334.out 4).trans rfl
      have hcz9_5 : w6.cell? ⟨gb334, 5, none⟩ = some (.int .i64 a0_5) := (blk_cell BK334.out 5).trans rfl
      have hfz9_0 := blk_frozen BK334.out 0
      have hfz9_1 := blk_frozen BK334.out 1
      have hfz9_2 := blk_frozen BK334.out 2
      have hfz9_3 := blk_frozen BK334.out 3
      have hfz9_4 := blk_frozen BK334.out 4
      have hfz9_5 := blk_frozen BK334.out 5
      go_wp2
      go_meet
      case rel => exact ⟨_, (decide (a1 ≥ a0_0)), (by first | rfl | (simp; done) | (simp [*]; done)), H', ⟨by first | omega | exact Nat.le_refl _⟩, ⟨by (with_reducible repeat (first | apply Kd.V_alloc | apply Kd.V_drewN | apply Kd.V_drew)); exact Kd.V_mono HO0_1.out (fun _ hk => ⟨hk.1.1, ⟨hk.1.2, hk.2⟩⟩)⟩, ⟨by (with_reducible repeat (first | apply Kd.V_alloc | apply Kd.V_drewN | apply Kd.V_drew)); exact Kd.V_mono HO0_2.out (fun _ hk => ⟨hk.1.1, ⟨hk.1.2, hk.2⟩⟩)⟩, ⟨by (with_reducible repeat (first | refine blk_drewN ?_ _ | refine blk_drew ?_ | refine blk_alloc ?_ _)); exact BK334.out⟩, ⟨by (with_reducible repeat (first | refine blk_drewN ?_ _ | refine blk_drew ?_ | refine blk_alloc ?_ _)); exact BK335.out⟩, ⟨by repeat (first | (with_reducible first | exact HB.out | apply below_alloc | apply pw_below_drewN | apply below_drew1 | refine below_set ?_ GE334.out | refine below_set ?_ GE335.out) | exact HB.out)⟩⟩
  case rest =>
    clear HC4
    try clear p2
    try clear c5
    try clear c7
    try clear c7b0
    try clear c8
    try clear hcz9_0
    try clear hcz9_1
    try clear hcz9_2
    try clear hcz9_3
    try clear hcz9_4
    try clear hcz9_5
    try clear hfz9_0
    try clear hfz9_1
    try clear hfz9_2
    try clear hfz9_3
    try clear hfz9_4
    try clear hfz9_5
    obtain ⟨kq, x17_3, rfl, HA, HJ3, HO_335001, HO_335002, BK334, BK335, HB⟩ := hcut
    cases kq with
    | zero => exact absurd HA.out (by simp [kilnref3_Turn.j0])
    | succ kj3 =>
      have H := HA.out
      clear HA
      simp only [kilnref3_Turn.j0] at H
      by_cases c10 : x17_3 = true
      · subst c10
        have H1 : (some (a0_0, l0_1, l0_2, a0_3, a0_4, a0_5, 31)) = some (r1, r2, r3, r4, r5, r6, r7) := by rw [if_pos rfl] at H; exact H
        clear H
        have H := H1
        clear H1
        simp only [Option.some.injEq, Prod.mk.injEq] at H
        obtain ⟨rfl, rfl, rfl, rfl, rfl, rfl, rfl⟩ := H
        have hnb11 := NB334_335.out
        have hnc11 := NB335_334.out
        have hcz12_0 : wc.cell? ⟨gb334, 0, none⟩ = some (.int .i64 a0_0) := (blk_cell BK334.out 0).trans rfl
        have hcz12_1 : wc.cell? ⟨gb334, 1, none⟩ = some (.slice A0_1 l0_1.length c0_1) := (blk_cell BK334.out 1).trans rfl
        have hcz12_2 : wc.cell? ⟨gb334, 2, none⟩ = some (.slice A0_2 l0_2.length c0_2) := (blk_cell BK334.out 2).trans rfl
        have hcz12_3 : wc.cell? ⟨gb334, 3, none⟩ = some (.int .i64 a0_3) := (blk_cell BK334.out 3).trans rfl
        have hcz12_4 : wc.cell? ⟨gb334, 4, none⟩ = some (.int .i64 a0_4) := (blk_cell BK334.out 4).trans rfl
        have hcz12_5 : wc.cell? ⟨gb334, 5, none⟩ = some (.int .i64 a0_5) := (blk_cell BK334.out 5).trans rfl
        have hfz12_0 := blk_frozen BK334.out 0
        have hfz12_1 := blk_frozen BK334.out 1
        have hfz12_2 := blk_frozen BK334.out 2
        have hfz12_3 := blk_frozen BK334.out 3
        have hfz12_4 := blk_frozen BK334.out 4
        have hfz12_5 := blk_frozen BK334.out 5
        have hcz13_0 : wc.cell? ⟨gb335, 0, none⟩ = some (.int .i64 0) := (blk_cell BK335.out 0).trans rfl
        have hcz13_1 : wc.cell? ⟨gb335, 1, none⟩ = some (.slice none 0 0) := (blk_cell BK335.out 1).trans rfl
        have hcz13_2 : wc.cell? ⟨gb335, 2, none⟩ = some (.slice none 0 0) := (blk_cell BK335.out 2).trans rfl
        have hcz13_3 : wc.cell? ⟨gb335, 3, none⟩ = some (.int .i64 0) := (blk_cell BK335.out 3).trans rfl
        have hcz13_4 : wc.cell? ⟨gb335, 4, none⟩ = some (.int .i64 0) := (blk_cell BK335.out 4).trans rfl
        have hcz13_5 : wc.cell? ⟨gb335, 5, none⟩ = some (.int .i64 0) := (blk_cell BK335.out 5).trans rfl
        have hfz13_0 := blk_frozen BK335.out 0
        have hfz13_1 := blk_frozen BK335.out 1
        have hfz13_2 := blk_frozen BK335.out 2
        have hfz13_3 := blk_frozen BK335.out 3
        have hfz13_4 := blk_frozen BK335.out 4
        have hfz13_5 := blk_frozen BK335.out 5
        go_wp2
        refine bodyPost_ret (results_ct rfl _ _ gb335 76 #[.int .i64 a0_0, .slice A0_1 l0_1.length c0_1, .slice A0_2 l0_2.length c0_2, .int .i64 a0_3, .int .i64 a0_4, .int .i64 a0_5] (0, 0) _ rfl (by (with_reducible repeat (first | refine blk_drewN ?_ _ | refine blk_drew ?_ | refine blk_alloc ?_ _)); refine blk_put (cs := #[.int .i64 a0_0, .slice A0_1 l0_1.length c0_1, .slice A0_2 l0_2.length c0_2, .int .i64 a0_3, .int .i64 a0_4, .int .i64 0]) ?_ 5 _ rfl; (with_reducible repeat (first | refine blk_drewN ?_ _ | refine blk_drew ?_ | refine blk_alloc ?_ _)); refine blk_put (cs := #[.int .i64 a0_0, .slice A0_1 l0_1.length c0_1, .slice A0_2 l0_2.length c0_2, .int .i64 a0_3, .int .i64 0, .int .i64 0]) ?_ 4 _ rfl; (with_reducible repeat (first | refine blk_drewN ?_ _ | refine blk_drew ?_ | refine blk_alloc ?_ _)); refine blk_put (cs := #[.int .i64 a0_0, .slice A0_1 l0_1.length c0_1, .slice A0_2 l0_2.length c0_2, .int .i64 0, .int .i64 0, .int .i64 0]) ?_ 3 _ rfl; (with_reducible repeat (first | refine blk_drewN ?_ _ | refine blk_drew ?_ | refine blk_alloc ?_ _)); refine blk_put (cs := #[.int .i64 a0_0, .slice A0_1 l0_1.length c0_1, .slice none 0 0, .int .i64 0, .int .i64 0, .int .i64 0]) ?_ 2 _ rfl; (with_reducible repeat (first | refine blk_drewN ?_ _ | refine blk_drew ?_ | refine blk_alloc ?_ _)); refine blk_put (cs := #[.int .i64 a0_0, .slice none 0 0, .slice none 0 0, .int .i64 0, .int .i64 0, .int .i64 0]) ?_ 1 _ rfl; (with_reducible repeat (first | refine blk_drewN ?_ _ | refine blk_drew ?_ | refine blk_alloc ?_ _)); refine blk_put (cs := #[.int .i64 0, .slice none 0 0, .slice none 0 0, .int .i64 0, .int .i64 0, .int .i64 0]) ?_ 0 _ rfl; (with_reducible repeat (first | refine blk_drewN ?_ _ | refine blk_drew ?_ | refine blk_alloc ?_ _)); exact BK335.out) Try.underlying76 rfl (by kernel_rfl)) rfl ?_
        exact ⟨_, _, by first | rfl | (simp [errW_none, errW_some] <;> rfl) | (simp [*, errW_none, errW_some] <;> rfl), by (with_reducible repeat (first | apply Kd.V_alloc | apply Kd.V_drewN | apply Kd.V_drew)); exact Kd.V_mono (Kd.V_far (p := ⟨gb335, 5, none⟩) (Kd.V_far (p := ⟨gb335, 4, none⟩) (Kd.V_far (p := ⟨gb335, 3, none⟩) (Kd.V_far (p := ⟨gb335, 2, none⟩) (Kd.V_far (p := ⟨gb335, 1, none⟩) (Kd.V_far (p := ⟨gb335, 0, none⟩) (Kd.V_mono HO_335001.out (fun k_ hk => (⟨hk, hk.2.2⟩ : _ ∧ k_ ≠ gb335))) (fun _ hk => hk.2) (.int .i64 a0_0)) (fun _ hk => hk.2) (.slice A0_1 l0_1.length c0_1)) (fun _ hk => hk.2) (.slice A0_2 l0_2.length c0_2)) (fun _ hk => hk.2) (.int .i64 a0_3)) (fun _ hk => hk.2) (.int .i64 a0_4)) (fun _ hk => hk.2) (.int .i64 a0_5)) (fun _ hk => hk.1.1), by (with_reducible repeat (first | apply Kd.V_alloc | apply Kd.V_drewN | apply Kd.V_drew)); exact Kd.V_mono (Kd.V_far (p := ⟨gb335, 5, none⟩) (Kd.V_far (p := ⟨gb335, 4, none⟩) (Kd.V_far (p := ⟨gb335, 3, none⟩) (Kd.V_far (p := ⟨gb335, 2, none⟩) (Kd.V_far (p := ⟨gb335, 1, none⟩) (Kd.V_far (p := ⟨gb335, 0, none⟩) (Kd.V_mono HO_335002.out (fun k_ hk => (⟨hk, hk.2.2⟩ : _ ∧ k_ ≠ gb335))) (fun _ hk => hk.2) (.int .i64 a0_0)) (fun _ hk => hk.2) (.slice A0_1 l0_1.length c0_1)) (fun _ hk => hk.2) (.slice A0_2 l0_2.length c0_2)) (fun _ hk => hk.2) (.int .i64 a0_3)) (fun _ hk => hk.2) (.int .i64 a0_4)) (fun _ hk => hk.2) (.int .i64 a0_5)) (fun _ hk => hk.1.1), by repeat (first | (with_reducible first | exact HB.out | apply below_alloc | apply pw_below_drewN | apply below_drew1 | refine below_set ?_ GE334.out | refine below_set ?_ GE335.out) | exact HB.out)⟩
      · replace c10 := Bool.eq_false_iff.mpr c10
        subst c10
        have H1 : (if a2 < 0 then (kilnref3_Turn.j1 kj3 a1 a2 true a0_0 l0_1 l0_2 a0_3 a0_4 a0_5) else (kilnref3_Turn.j1 kj3 a1 a2 (decide (a2 ≥ 4096)) a0_0 l0_1 l0_2 a0_3 a0_4 a0_5)) = some (r1, r2, r3, r4, r5, r6, r7) := by rw [if_neg (show ¬ (false = true) by decide)] at H; exact H
        clear H
        have H := H1
        clear H1
        have HC14 := Aside0.mk H
        clear H
        go_upto_region 3 with (fail)
        go_cut [24] (fun v24 wc => ∃ (kq : Nat) (x24_13 : Bool), v24 = .bool x24_13 ∧ Aside0 (kilnref3_Turn.j1 kq a1 a2 x24_13 a0_0 l0_1 l0_2 a0_3 a0_4 a0_5 = some (r1, r2, r3, r4, r5, r6, r7)) ∧ Aside0 (kq ≤ kj3) ∧ Aside0 (Kd.V k106 106 wc w.heap.size (fun k_ => ((P0_1_ k_ ∨ P0_2_ k_) ∨ w.heap.size ≤ k_) ∧ k_ ≠ gb334 ∧ k_ ≠ gb335) (.slice A0_1 l0_1.length c0_1) l0_1) ∧ Aside0 (Kd.V k106 106 wc w.heap.size (fun k_ => ((P0_1_ k_ ∨ P0_2_ k_) ∨ w.heap.size ≤ k_) ∧ k_ ≠ gb334 ∧ k_ ≠ gb335) (.slice A0_2 l0_2.length c0_2) l0_2) ∧ Aside0 (wc.heap[gb334]? = some (.cells #[.int .i64 a0_0, (.slice A0_1 l0_1.length c0_1), (.slice A0_2 l0_2.length c0_2), .int .i64 a0_3, .int .i64 a0_4, .int .i64 a0_5] 76 (0, 0))) ∧ Aside0 (wc.heap[gb335]? = some (.cells #[.int .i64 0, (.slice none 0 0), (.slice none 0 0), .int .i64 0, .int .i64 0, .int .i64 0] 76 (0, 0))) ∧ Aside0 (Below w.heap.size w wc))
        case first =>
          have H := HC14.out
          clear HC14
          by_cases c15 : a2 < 0
          · rw [if_pos c15] at H
            have c15b0 : decide (a2 < 0) = true := decide_eq_true c15
            clear c15
            (first | rw [c15b0] | (simp only [i64_w, i32_w]; rw [c15b0]) | skip)
            have H' := Aside0.mk H
            clear H
            go_wp2
            go_meet
            case rel => exact ⟨_, (true), (by first | rfl | (simp; done) | (simp [*]; done)), H', ⟨by have := HJ3.out; first | omega | exact Nat.le_refl _⟩, ⟨by (with_reducible repeat (first | apply Kd.V_alloc | apply Kd.V_drewN | apply Kd.V_drew)); exact HO_335001.out⟩, ⟨by (with_reducible repeat (first | apply Kd.V_alloc | apply Kd.V_drewN | apply Kd.V_drew)); exact HO_335002.out⟩, ⟨by (with_reducible repeat (first | refine blk_drewN ?_ _ | refine blk_drew ?_ | refine blk_alloc ?_ _)); exact BK334.out⟩, ⟨by (with_reducible repeat (first | refine blk_drewN ?_ _ | refine blk_drew ?_ | refine blk_alloc ?_ _)); exact BK335.out⟩, ⟨by repeat (first | (with_reducible first | exact HB.out | apply below_alloc | apply pw_below_drewN | apply below_drew1 | refine below_set ?_ GE334.out | refine below_set ?_ GE335.out) | exact HB.out)⟩⟩
          · rw [if_neg c15] at H
            have c15b0 : decide (a2 < 0) = false := decide_eq_false c15
            clear c15
            (first | rw [c15b0] | (simp only [i64_w, i32_w]; rw [c15b0]) | skip)
            have H' := Aside0.mk H
            clear H
            go_wp2
            go_meet
            case rel => exact ⟨_, (decide (a2 ≥ 4096)), (by first | rfl | (simp; done) | (simp [*]; done)), H', ⟨by have := HJ3.out; first | omega | exact Nat.le_refl _⟩, ⟨by (with_reducible repeat (first | apply Kd.V_alloc | apply Kd.V_drewN | apply Kd.V_drew)); exact HO_335001.out⟩, ⟨by (with_reducible repeat (first | apply Kd.V_alloc | apply Kd.V_drewN | apply Kd.V_drew)); exact HO_335002.out⟩, ⟨by (with_reducible repeat (first | refine blk_drewN ?_ _ | refine blk_drew ?_ | refine blk_alloc ?_ _)); exact BK334.out⟩, ⟨by (with_reducible repeat (first | refine blk_drewN ?_ _ | refine blk_drew ?_ | refine blk_alloc ?_ _)); exact BK335.out⟩, ⟨by repeat (first | (with_reducible first | exact HB.out | apply below_alloc | apply pw_below_drewN | apply below_drew1 | refine below_set ?_ GE334.out | refine below_set ?_ GE335.out) | exact HB.out)⟩⟩
        case rest =>
          clear HC14
          try clear c1
          try clear p2
          try clear c5
          try clear c7
          try clear c7b0
          try clear c8
          try clear c10
          try clear c11
          try clear c15
          try clear c15b0
          try clear hcz12_0
          try clear hcz12_1
          try clear hcz12_2
          try clear hcz12_3
          try clear hcz12_4
          try clear hcz12_5
          try clear hcz13_0
          try clear hcz13_1
          try clear hcz13_2
          try clear hcz13_3
          try clear hcz13_4
          try clear hcz13_5
          try clear hcz9_0
          try clear hcz9_1
          try clear hcz9_2
          try clear hcz9_3
          try clear hcz9_4
          try clear hcz9_5
          try clear hfz12_0
          try clear hfz12_1
          try clear hfz12_2
          try clear hfz12_3
          try clear hfz12_4
          try clear hfz12_5
          try clear hfz13_0
          try clear hfz13_1
          try clear hfz13_2
          try clear hfz13_3
          try clear hfz13_4
          try clear hfz13_5
          try clear hfz9_0
          try clear hfz9_1
          try clear hfz9_2
          try clear hfz9_3
          try clear hfz9_4
          try clear hfz9_5
          try clear p2
          obtain ⟨kq, x24_13, rfl, HA, HJ13, HO_335001, HO_335002, BK334, BK335, HB⟩ := hcut
          cases kq with
          | zero => exact absurd HA.out (by simp [kilnref3_Turn.j1])
          | succ kj13 =>
            have H := HA.out
            clear HA
            simp only [kilnref3_Turn.j1] at H
            by_cases c16 : x24_13 = true
            · subst c16
              have H1 : (some (a0_0, l0_1, l0_2, a0_3, a0_4, a0_5, 1)) = some (r1, r2, r3, r4, r5, r6, r7) := by rw [if_pos rfl] at H; exact H
              clear H
              have H := H1
              clear H1
              simp only [Option.some.injEq, Prod.mk.injEq] at H
              obtain ⟨rfl, rfl, rfl, rfl, rfl, rfl, rfl⟩ := H
              have hnb17 := NB334_335.out
              have hnc17 := NB335_334.out
              have hcz18_0 : wc.cell? ⟨gb334, 0, none⟩ = some (.int .i64 a0_0) := (blk_cell BK334.out 0).trans rfl
              have hcz18_1 : wc.cell? ⟨gb334, 1, none⟩ = some (.slice A0_1 l0_1.length c0_1) := (blk_cell BK334.out 1).trans rfl
              have hcz18_2 : wc.cell? ⟨gb334, 2, none⟩ = some (.slice A0_2 l0_2.length c0_2) := (blk_cell BK334.out 2).trans rfl
              have hcz18_3 : wc.cell? ⟨gb334, 3, none⟩ = some (.int .i64 a0_3) := (blk_cell BK334.out 3).trans rfl
              have hcz18_4 : wc.cell? ⟨gb334, 4, none⟩ = some (.int .i64 a0_4) := (blk_cell BK334.out 4).trans rfl
              have hcz18_5 : wc.cell? ⟨gb334, 5, none⟩ = some (.int .i64 a0_5) := (blk_cell BK334.out 5).trans rfl
              have hfz18_0 := blk_frozen BK334.out 0
              have hfz18_1 := blk_frozen BK334.out 1
              have hfz18_2 := blk_frozen BK334.out 2
              have hfz18_3 := blk_frozen BK334.out 3
              have hfz18_4 := blk_frozen BK334.out 4
              have hfz18_5 := blk_frozen BK334.out 5
              have hcz19_0 : wc.cell? ⟨gb335, 0, none⟩ = some (.int .i64 0) := (blk_cell BK335.out 0).trans rfl
              have hcz19_1 : wc.cell? ⟨gb335, 1, none⟩ = some (.slice none 0 0) := (blk_cell BK335.out 1).trans rfl
              have hcz19_2 : wc.cell? ⟨gb335, 2, none⟩ = some (.slice none 0 0) := (blk_cell BK335.out 2).trans rfl
              have hcz19_3 : wc.cell? ⟨gb335, 3, none⟩ = some (.int .i64 0) := (blk_cell BK335.out 3).trans rfl
              have hcz19_4 : wc.cell? ⟨gb335, 4, none⟩ = some (.int .i64 0) := (blk_cell BK335.out 4).trans rfl
              have hcz19_5 : wc.cell? ⟨gb335, 5, none⟩ = some (.int .i64 0) := (blk_cell BK335.out 5).trans rfl
              have hfz19_0 := blk_frozen BK335.out 0
              have hfz19_1 := blk_frozen BK335.out 1
              have hfz19_2 := blk_frozen BK335.out 2
              have hfz19_3 := blk_frozen BK335.out 3
              have hfz19_4 := blk_frozen BK335.out 4
              have hfz19_5 := blk_frozen BK335.out 5
              go_wp2
              refine bodyPost_ret (results_ct rfl _ _ gb335 76 #[.int .i64 a0_0, .slice A0_1 l0_1.length c0_1, .slice A0_2 l0_2.length c0_2, .int .i64 a0_3, .int .i64 a0_4, .int .i64 a0_5] (0, 0) _ rfl (by (with_reducible repeat (first | refine blk_drewN ?_ _ | refine blk_drew ?_ | refine blk_alloc ?_ _)); refine blk_put (cs := #[.int .i64 a0_0, .slice A0_1 l0_1.length c0_1, .slice A0_2 l0_2.length c0_2, .int .i64 a0_3, .int .i64 a0_4, .int .i64 0]) ?_ 5 _ rfl; (with_reducible repeat (first | refine blk_drewN ?_ _ | refine blk_drew ?_ | refine blk_alloc ?_ _)); refine blk_put (cs := #[.int .i64 a0_0, .slice A0_1 l0_1.length c0_1, .slice A0_2 l0_2.length c0_2, .int .i64 a0_3, .int .i64 0, .int .i64 0]) ?_ 4 _ rfl; (with_reducible repeat (first | refine blk_drewN ?_ _ | refine blk_drew ?_ | refine blk_alloc ?_ _)); refine blk_put (cs := #[.int .i64 a0_0, .slice A0_1 l0_1.length c0_1, .slice A0_2 l0_2.length c0_2, .int .i64 0, .int .i64 0, .int .i64 0]) ?_ 3 _ rfl; (with_reducible repeat (first | refine blk_drewN ?_ _ | refine blk_drew ?_ | refine blk_alloc ?_ _)); refine blk_put (cs := #[.int .i64 a0_0, .slice A0_1 l0_1.length c0_1, .slice none 0 0, .int .i64 0, .int .i64 0, .int .i64 0]) ?_ 2 _ rfl; (with_reducible repeat (first | refine blk_drewN ?_ _ | refine blk_drew ?_ | refine blk_alloc ?_ _)); refine blk_put (cs := #[.int .i64 a0_0, .slice none 0 0, .slice none 0 0, .int .i64 0, .int .i64 0, .int .i64 0]) ?_ 1 _ rfl; (with_reducible repeat (first | refine blk_drewN ?_ _ | refine blk_drew ?_ | refine blk_alloc ?_ _)); refine blk_put (cs := #[.int .i64 0, .slice none 0 0, .slice none 0 0, .int .i64 0, .int .i64 0, .int .i64 0]) ?_ 0 _ rfl; (with_reducible repeat (first | refine blk_drewN ?_ _ | refine blk_drew ?_ | refine blk_alloc ?_ _)); exact BK335.out) Try.underlying76 rfl (by kernel_rfl)) rfl ?_
              exact ⟨_, _, by first | rfl | (simp [errW_none, errW_some] <;> rfl) | (simp [*, errW_none, errW_some] <;> rfl), by (with_reducible repeat (first | apply Kd.V_alloc | apply Kd.V_drewN | apply Kd.V_drew)); exact Kd.V_mono (Kd.V_far (p := ⟨gb335, 5, none⟩) (Kd.V_far (p := ⟨gb335, 4, none⟩) (Kd.V_far (p := ⟨gb335, 3, none⟩) (Kd.V_far (p := ⟨gb335, 2, none⟩) (Kd.V_far (p := ⟨gb335, 1, none⟩) (Kd.V_far (p := ⟨gb335, 0, none⟩) (Kd.V_mono HO_335001.out (fun k_ hk => (⟨hk, hk.2.2⟩ : _ ∧ k_ ≠ gb335))) (fun _ hk => hk.2) (.int .i64 a0_0)) (fun _ hk => hk.2) (.slice A0_1 l0_1.length c0_1)) (fun _ hk => hk.2) (.slice A0_2 l0_2.length c0_2)) (fun _ hk => hk.2) (.int .i64 a0_3)) (fun _ hk => hk.2) (.int .i64 a0_4)) (fun _ hk => hk.2) (.int .i64 a0_5)) (fun _ hk => hk.1.1), by (with_reducible repeat (first | apply Kd.V_alloc | apply Kd.V_drewN | apply Kd.V_drew)); exact Kd.V_mono (Kd.V_far (p := ⟨gb335, 5, none⟩) (Kd.V_far (p := ⟨gb335, 4, none⟩) (Kd.V_far (p := ⟨gb335, 3, none⟩) (Kd.V_far (p := ⟨gb335, 2, none⟩) (Kd.V_far (p := ⟨gb335, 1, none⟩) (Kd.V_far (p := ⟨gb335, 0, none⟩) (Kd.V_mono HO_335002.out (fun k_ hk => (⟨hk, hk.2.2⟩ : _ ∧ k_ ≠ gb335))) (fun _ hk => hk.2) (.int .i64 a0_0)) (fun _ hk => hk.2) (.slice A0_1 l0_1.length c0_1)) (fun _ hk => hk.2) (.slice A0_2 l0_2.length c0_2)) (fun _ hk => hk.2) (.int .i64 a0_3)) (fun _ hk => hk.2) (.int .i64 a0_4)) (fun _ hk => hk.2) (.int .i64 a0_5)) (fun _ hk => hk.1.1), by repeat (first | (with_reducible first | exact HB.out | apply below_alloc | apply pw_below_drewN | apply below_drew1 | refine below_set ?_ GE334.out | refine below_set ?_ GE335.out) | exact HB.out)⟩
            · replace c16 := Bool.eq_false_iff.mpr c16
              subst c16
              have H1 : ((kilnref3_lasts.f kj13 a0_0 l0_1 l0_2 a0_3 a0_4 a0_5 a1).bind fun t336 => ((kilnref3_turned.f t336 a2).bind fun t339 => ((kilnref3_put.f kj13 l0_1 a1 t339).bind fun t342 => (kilnref3_Turn.l0 kj13 a1 a2 ([] : List (S106)) 0 a0_0 t342 l0_2 a0_3 a0_4 a0_5)))) = some (r1, r2, r3, r4, r5, r6, r7) := by rw [if_neg (show ¬ (false = true) by decide)] at H; exact H
              clear H
              have H := H1
              clear H1
              replace H := Option.bind_eq_some_iff.mp H
              obtain ⟨t336, A200, H⟩ := H
              replace H : ((kilnref3_turned.f t336 a2).bind fun t339 => ((kilnref3_put.f kj13 l0_1 a1 t339).bind fun t342 => (kilnref3_Turn.l0 kj13 a1 a2 ([] : List (S106)) 0 a0_0 t342 l0_2 a0_3 a0_4 a0_5))) = some (r1, r2, r3, r4, r5, r6, r7) := H
              have A20 := Aside0.mk A200
              clear A200
              replace H := Option.bind_eq_some_iff.mp H
              obtain ⟨t339, A210, H⟩ := H
              replace H : ((kilnref3_put.f kj13 l0_1 a1 t339).bind fun t342 => (kilnref3_Turn.l0 kj13 a1 a2 ([] : List (S106)) 0 a0_0 t342 l0_2 a0_3 a0_4 a0_5)) = some (r1, r2, r3, r4, r5, r6, r7) := H
              have A21 := Aside0.mk A210
              clear A210
              replace H := Option.bind_eq_some_iff.mp H
              obtain ⟨t342, A220, H⟩ := H
              replace H : (kilnref3_Turn.l0 kj13 a1 a2 ([] : List (S106)) 0 a0_0 t342 l0_2 a0_3 a0_4 a0_5) = some (r1, r2, r3, r4, r5, r6, r7) := H
              have A22 := Aside0.mk A220
              clear A220
              have H' := Aside0.mk H
              clear H
              try go_wp2
              have n0_ := Aside0.mk (Kd.V_drew HO_335001.out)
              have n1_ := Aside0.mk (Kd.V_drew HO_335002.out)
              have n2_ := Aside0.mk (blk_drew BK334.out)
              have n3_ := Aside0.mk (blk_drew BK335.out)
              have n4_ := Aside0.mk (below_drew1 HB.out)
              clear HO_335001
              clear HO_335002
              clear BK334
              clear BK335
              clear HB
              have HO_335001 := n0_
              have HO_335002 := n1_
              have BK334 := n2_
              have BK335 := n3_
              have HB := n4_
              clear n0_ n1_ n2_ n3_ n4_
              refine start_ (n := 11) (S := fun w' => w'.cell? ⟨gb334, 0, none⟩ = some (.int .i64 a0_0) ∧ w'.cell? ⟨gb334, 1, none⟩ = some (.slice A0_1 l0_1.length c0_1) ∧ w'.cell? ⟨gb334, 2, none⟩ = some (.slice A0_2 l0_2.length c0_2) ∧ w'.cell? ⟨gb334, 3, none⟩ = some (.int .i64 a0_3) ∧ w'.cell? ⟨gb334, 4, none⟩ = some (.int .i64 a0_4) ∧ w'.cell? ⟨gb334, 5, none⟩ = some (.int .i64 a0_5)) (ds := [10]) (bb 11 0) (by kernel_rfl) rfl rfl ⟨(blk_cell BK334.out 0).trans rfl, (blk_cell BK334.out 1).trans rfl, (blk_cell BK334.out 2).trans rfl, (blk_cell BK334.out 3).trans rfl, (blk_cell BK334.out 4).trans rfl, (blk_cell BK334.out 5).trans rfl⟩ (fun hHeld => ?_); refine with_tabW kilnref3_Turn.tab5 kilnref3_Turn.bits5 (fun HT_ HW_ => ?_)
              generalize wc.drew = w23 at HO_335001 HO_335002 BK334 BK335 HB hHeld ⊢
              refine pure_ (i := 0) (N := some 26) (v := ?_) (a' := ?_) (bb 11 1) rfl rfl (any_of HT_.out (by kernel_rfl)) (fun _ _ _ h => h) (Or.inl ⟨by rfl, ?_⟩) ?_ ?_
              rotate_left
              · intro w'
                go_simp
                with_reducible rfl
              rotate_left
              · simp only [Act.put, List.setIfInBounds_toArray, List.set_cons_zero, List.set_cons_succ, i64_w, i32_w]
                rfl
              refine pure_ (i := 2) (N := some 28) (v := ?_) (a' := ?_) (bb 11 5) rfl rfl (any_of HT_.out (by kernel_rfl)) (fun _ _ _ h => h) (Or.inl ⟨by rfl, ?_⟩) ?_ ?_
              rotate_left
              · intro w'
                go_simp
                with_reducible rfl
              rotate_left
              · simp only [Act.put, List.setIfInBounds_toArray, List.set_cons_zero, List.set_cons_succ, i64_w, i32_w]
                rfl
              refine pure_ (i := 4) (N := some 30) (v := ?_) (a' := ?_) (bb 11 21) rfl rfl (any_of HT_.out (by kernel_rfl)) (fun _ _ _ h => h) (Or.inl ⟨by rfl, ?_⟩) ?_ ?_
              rotate_left
              · intro w'
                go_simp
                with_reducible rfl
              rotate_left
              · simp only [Act.put, List.setIfInBounds_toArray, List.set_cons_zero, List.set_cons_succ, i64_w, i32_w]
                rfl
              refine pure_ (i := 6) (N := some 32) (v := ?_) (a' := ?_) (bb 11 85) rfl rfl (any_of HT_.out (by kernel_rfl)) (fun _ _ _ h => h) (Or.inl ⟨by rfl, ?_⟩) ?_ ?_
              rotate_left
              · intro w'
                go_simp
                with_reducible rfl
              rotate_left
              · simp only [Act.put, List.setIfInBounds_toArray, List.set_cons_zero, List.set_cons_succ, i64_w, i32_w]
                rfl
              refine take_ (i := 1) (N := some 27) (v := ?_) (a' := ?_) (bb 11 87) rfl rfl (take_ofW HT_.out HW_.out (by kernel_rfl)) (fun _ _ _ h => h) (Or.inl ⟨by rfl, ?_⟩) hHeld ?_ ?_
              rotate_left
              · rintro w' ⟨s0, s1, s2, s3, s4, s5⟩
                go_simp
                with_reducible rfl
              rotate_left
              · simp only [Act.put, List.setIfInBounds_toArray, List.set_cons_zero, List.set_cons_succ, i64_w, i32_w]
                rfl
              refine take_ (i := 3) (N := some 29) (v := ?_) (a' := ?_) (bb 11 95) rfl rfl (take_ofW HT_.out HW_.out (by kernel_rfl)) (fun _ _ _ h => h) (Or.inl ⟨by rfl, ?_⟩) hHeld ?_ ?_
              rotate_left
              · rintro w' ⟨s0, s1, s2, s3, s4, s5⟩
                go_simp
                with_reducible rfl
              rotate_left
              · simp only [Act.put, List.setIfInBounds_toArray, List.set_cons_zero, List.set_cons_succ, i64_w, i32_w]
                rfl
              refine one_ (i := 5) (N := some 31) (bb 11 127) rfl rfl (one_of HT_.out (by kernel_rfl)) (by decide) (fun K hK => ?_)
              refine goes_ Try.func63 (by kernel_rfl) rfl #[.agg #[.int .i64 a0_0, .slice A0_1 l0_1.length c0_1, .slice A0_2 l0_2.length c0_2, .int .i64 a0_3, .int .i64 a0_4, .int .i64 a0_5], .int .i64 a1] (by rfl) rfl rfl (by (try simp only [List.map_toArray, List.map_cons, List.map_nil]); first | done | rfl | (simp only [List.length_drop, List.length_take]; rfl)) ?_
              with_reducible refine (kilnref3_lasts.calls kj13 a0_0 (fun k_ => (((P0_1_ k_ ∨ P0_2_ k_) ∨ w.heap.size ≤ k_) ∧ (k_ ≠ gb334 ∧ k_ ≠ gb335))) _ _ l0_1 _ _ l0_2 a0_3 a0_4 a0_5 a1 t336 _ ?side1 ?side2 ?side3 A20.out).mono ?_
              (case side1 => exact HO_335001.out)
              (case side2 => repeat (first | exact (Kd.V_reads' HO_335002.out).2.2 | (with_reducible refine Kd.C_alloc ?_ _) | (with_reducible refine Kd.C_drewN ?_ _) | (with_reducible refine Kd.C_drew ?_)))
              (case side3 => exact (Kd.V_reads' HO_335002.out).2.1)
              rintro e w24 ⟨v337, rfl, ho0, hb⟩
              refine ⟨_, rfl, ?_⟩
              have n0_ := Aside0.mk (Kd.V_below (by (with_reducible repeat (first | apply Kd.V_alloc | apply Kd.V_drewN | apply Kd.V_drew)); exact HO_335001.out) hb)
              have n1_ := Aside0.mk (Kd.V_below (by (with_reducible repeat (first | apply Kd.V_alloc | apply Kd.V_drewN | apply Kd.V_drew)); exact HO_335002.out) hb)
              have n2_ := Aside0.mk (Kd.V_lower (Kd.V_mono (ok' := fun k_ => ((P0_1_ k_ ∨ P0_2_ k_) ∨ w.heap.size ≤ k_) ∧ k_ ≠ gb334 ∧ k_ ≠ gb335) ho0 (fun k_ hk_ => ⟨Or.elim hk_ (fun hs_ => hs_.1) (fun hn_ => (.inr (Nat.le_trans (below_size (by repeat (first | (with_reducible first | exact HB.out | apply below_alloc | apply pw_below_drewN | apply below_drew1 | refine below_set ?_ GE334.out | refine below_set ?_ GE335.out) | exact HB.out))) hn_))), Or.elim hk_ (fun hs_ => hs_.2.1) (fun hn_ => (Kd.freshB (g := gb334) (o := .cells #[.int .i64 a0_0, .slice A0_1 l0_1.length c0_1, .slice A0_2 l0_2.length c0_2, .int .i64 a0_3, .int .i64 a0_4, .int .i64 a0_5] 76 (0, 0)) (by (with_reducible repeat (first | refine blk_drewN ?_ _ | refine blk_drew ?_ | refine blk_alloc ?_ _)); exact BK334.out) k_ hn_)), Or.elim hk_ (fun hs_ => hs_.2.2) (fun hn_ => (Kd.freshB (g := gb335) (o := .cells #[.int .i64 0, .slice none 0 0, .slice none 0 0, .int .i64 0, .int .i64 0, .int .i64 0] 76 (0, 0)) (by (with_reducible repeat (first | refine blk_drewN ?_ _ | refine blk_drew ?_ | refine blk_alloc ?_ _)); exact BK335.out) k_ hn_))⟩)) (below_size (by repeat (first | (with_reducible first | exact HB.out | apply below_alloc | apply pw_below_drewN | apply below_drew1 | refine below_set ?_ GE334.out | refine below_set ?_ GE335.out) | exact HB.out))))
              have n3_ := Aside0.mk (blk_below (g := gb334) (o := .cells #[.int .i64 a0_0, .slice A0_1 l0_1.length c0_1, .slice A0_2 l0_2.length c0_2, .int .i64 a0_3, .int .i64 a0_4, .int .i64 a0_5] 76 (0, 0)) (by (with_reducible repeat (first | refine blk_drewN ?_ _ | refine blk_drew ?_ | refine blk_alloc ?_ _)); exact BK334.out) hb)
              have n4_ := Aside0.mk (blk_below (g := gb335) (o := .cells #[.int .i64 0, .slice none 0 0, .slice none 0 0, .int .i64 0, .int .i64 0, .int .i64 0] 76 (0, 0)) (by (with_reducible repeat (first | refine blk_drewN ?_ _ | refine blk_drew ?_ | refine blk_alloc ?_ _)); exact BK335.out) hb)
              have n5_ := Aside0.mk (below_step (by repeat (first | (with_reducible first | exact HB.out | apply below_alloc | apply pw_below_drewN | apply below_drew1 | refine below_set ?_ GE334.out | refine below_set ?_ GE335.out) | exact HB.out)) hb)
              clear HO_335001
              clear HO_335002
              clear BK334
              clear BK335
              clear HB
              have HO_335001 := n0_
              have HO_335002 := n1_
              have HO338 := n2_
              have BK334 := n3_
              have BK335 := n4_
              have HB := n5_
              clear n0_ n1_ n2_ n3_ n4_ n5_
              (try clear hb)
              (try clear hb2)
              (try clear hk)
              (try clear hi)
              (try clear ho0)
              obtain ⟨Ao25, co25, eo25⟩ := Kd.V_slice HO338.out
              (first | subst eo25 | (injection eo25 with f1_ f2_ f3_; have f4_ := f1_.symm; have f5_ := f3_.symm; clear f1_ f2_ f3_; subst f4_; subst f5_))
              refine hK.out _ _ ⟨(blk_cell BK334.out 0).trans rfl, (blk_cell BK334.out 1).trans rfl, (blk_cell BK334.out 2).trans rfl, (blk_cell BK334.out 3).trans rfl, (blk_cell BK334.out 4).trans rfl, (blk_cell BK334.out 5).trans rfl⟩ (fun hHeld => ?_)
              clear hK K
              refine norm_ (a' := ?_) ?_ ?_
              rotate_left
              · show Act.put _ (some 31) _ = _
                simp only [Act.put, List.setIfInBounds_toArray, List.set_cons_zero, List.set_cons_succ, i64_w, i32_w]
                rfl
              refine one_ (i := 7) (N := some 33) (bb 11 255) rfl rfl (one_of HT_.out (by kernel_rfl)) (by decide) (fun K hK => ?_)
              refine goes_ Try.func62 (by kernel_rfl) rfl #[.slice Ao25 t336.length co25, .int .i64 a2] (by rfl) rfl rfl (by (try simp only [List.map_toArray, List.map_cons, List.map_nil]); first | done | rfl | (simp only [List.length_drop, List.length_take]; rfl)) ?_
              with_reducible refine (kilnref3_turned.calls _ _ t336 a2 t339 _ ?side1 ?side2 A21.out).mono ?_
              (case side1 => repeat (first | exact (Kd.V_reads' HO338.out).2.2 | (with_reducible refine Kd.C_alloc ?_ _) | (with_reducible refine Kd.C_drewN ?_ _) | (with_reducible refine Kd.C_drew ?_)))
              (case side2 => exact (Kd.V_reads' HO338.out).2.1)
              rintro e w26 ⟨v340, rfl, ho0, hb⟩
              refine ⟨_, rfl, ?_⟩
              have n0_ := Aside0.mk (Kd.V_elder' (by (with_reducible repeat (first | apply Kd.V_alloc | apply Kd.V_drewN | apply Kd.V_drew)); exact HO_335001.out) (Kd.R_base ho0) hb)
              have n1_ := Aside0.mk (Kd.V_elder' (by (with_reducible repeat (first | apply Kd.V_alloc | apply Kd.V_drewN | apply Kd.V_drew)); exact HO_335002.out) (Kd.R_base ho0) hb)
              have n2_ := Aside0.mk (Kd.V_elder' (by (with_reducible repeat (first | apply Kd.V_alloc | apply Kd.V_drewN | apply Kd.V_drew)); exact HO338.out) (Kd.R_base ho0) hb)
              have n3_ := Aside0.mk (Kd.R_lower (Kd.R_newM (M := fun k_ => (w.heap.size ≤ k_)) ho0 (below_size (by repeat (first | (with_reducible first | exact HB.out | apply below_alloc | apply pw_below_drewN | apply below_drew1 | refine below_set ?_ GE334.out | refine below_set ?_ GE335.out) | exact HB.out))) (fun k_ h_ => h_)) (below_size (by repeat (first | (with_reducible first | exact HB.out | apply below_alloc | apply pw_below_drewN | apply below_drew1 | refine below_set ?_ GE334.out | refine below_set ?_ GE335.out) | exact HB.out))))
              have n4_ := Aside0.mk (blk_below (g := gb334) (o := .cells #[.int .i64 a0_0, .slice A0_1 l0_1.length c0_1, .slice A0_2 l0_2.length c0_2, .int .i64 a0_3, .int .i64 a0_4, .int .i64 a0_5] 76 (0, 0)) (by (with_reducible repeat (first | refine blk_drewN ?_ _ | refine blk_drew ?_ | refine blk_alloc ?_ _)); exact BK334.out) hb)
              have n5_ := Aside0.mk (blk_below (g := gb335) (o := .cells #[.int .i64 0, .slice none 0 0, .slice none 0 0, .int .i64 0, .int .i64 0, .int .i64 0] 76 (0, 0)) (by (with_reducible repeat (first | refine blk_drewN ?_ _ | refine blk_drew ?_ | refine blk_alloc ?_ _)); exact BK335.out) hb)
              have n6_ := Aside0.mk (below_step (by repeat (first | (with_reducible first | exact HB.out | apply below_alloc | apply pw_below_drewN | apply below_drew1 | refine below_set ?_ GE334.out | refine below_set ?_ GE335.out) | exact HB.out)) hb)
              clear HO_335001
              clear HO_335002
              clear HO338
              clear BK334
              clear BK335
              clear HB
              have HO_335001 := n0_
              have HO_335002 := n1_
              have HO338 := n2_
              have HO341 := n3_
              have BK334 := n4_
              have BK335 := n5_
              have HB := n6_
              clear n0_ n1_ n2_ n3_ n4_ n5_ n6_
              (try clear hb)
              (try clear hb2)
              (try clear hk)
              (try clear hi)
              (try clear ho0)
              obtain ⟨Ao27, co27, eo27⟩ := Kd.R_slice HO341.out
              (first | subst eo27 | (injection eo27 with f1_ f2_ f3_; have f4_ := f1_.symm; have f5_ := f3_.symm; clear f1_ f2_ f3_; subst f4_; subst f5_))
              refine hK.out _ _ ⟨(blk_cell BK334.out 0).trans rfl, (blk_cell BK334.out 1).trans rfl, (blk_cell BK334.out 2).trans rfl, (blk_cell BK334.out 3).trans rfl, (blk_cell BK334.out 4).trans rfl, (blk_cell BK334.out 5).trans rfl⟩ (fun hHeld => ?_)
              clear hK K
              refine norm_ (a' := ?_) ?_ ?_
              rotate_left
              · show Act.put _ (some 33) _ = _
                simp only [Act.put, List.setIfInBounds_toArray, List.set_cons_zero, List.set_cons_succ, i64_w, i32_w]
                rfl
              refine one_ (i := 8) (N := some 34) (bb 11 511) rfl rfl (one_of HT_.out (by kernel_rfl)) (by decide) (fun K hK => ?_)
              refine goes_ Try.func60 (by kernel_rfl) rfl #[.slice A0_1 l0_1.length c0_1, .int .i64 a1, .slice Ao27 t339.length co27] (by rfl) rfl rfl (by (try simp only [List.map_toArray, List.map_cons, List.map_nil]); first | done | rfl | (simp only [List.length_drop, List.length_take]; rfl)) ?_
              with_reducible refine (kilnref3_put.calls kj13 (fun k_ => ((((P0_1_ k_ ∨ P0_2_ k_) ∨ w.heap.size ≤ k_) ∧ (k_ ≠ gb334 ∧ k_ ≠ gb335)) ∧ some k_ ≠ (.slice Ao27 t339.length co27 : Value).ownBlock)) _ _ l0_1 a1 (fun k_ => some k_ = (.slice Ao27 t339.length co27 : Value).ownBlock) _ _ t339 t342 _ ?side1 ?side2 A22.out).mono ?_
              (case side1 => exact HO_335001.out)
              (case side2 => exact Kd.R_V (Kd.R_tight rfl (Kd.R_types (Kd.R_types (HO341.out) BK334.out (by decide)) BK335.out (by decide))))
              rintro e w28 ⟨v343, rfl, ho0, hb⟩
              refine ⟨_, rfl, ?_⟩
              have n0_ := Aside0.mk (Kd.V_elder' (by (with_reducible repeat (first | apply Kd.V_alloc | apply Kd.V_drewN | apply Kd.V_drew)); exact HO_335001.out) (Kd.N_base ho0) hb)
              have n1_ := Aside0.mk (Kd.V_elder' (by (with_reducible repeat (first | apply Kd.V_alloc | apply Kd.V_drewN | apply Kd.V_drew)); exact HO_335002.out) (Kd.N_base ho0) hb)
              have n2_ := Aside0.mk (Kd.V_elder' (by (with_reducible repeat (first | apply Kd.V_alloc | apply Kd.V_drewN | apply Kd.V_drew)); exact HO338.out) (Kd.N_base ho0) hb)
              have n3_ := Aside0.mk (Kd.R_below (by (with_reducible repeat (first | apply Kd.R_alloc | apply Kd.R_drewN | apply Kd.R_drew)); exact HO341.out) hb)
              have n4_ := Aside0.mk (Kd.N_lower (Kd.N_mono (ok' := fun k_ => ((P0_1_ k_ ∨ P0_2_ k_) ∨ w.heap.size ≤ k_) ∧ k_ ≠ gb334 ∧ k_ ≠ gb335) ho0 (fun k_ hk_ => ⟨Or.elim hk_ (fun hs_ => Or.elim hs_ (fun hs_ => hs_.1.1) (fun hs_ => (.inr (((Kd.R_types (Kd.R_types (HO341.out) BK334.out (by decide)) BK335.out (by decide)).1 k_ hs_.symm).1.1.1)))) (fun hn_ => (.inr (Nat.le_trans (below_size (by repeat (first | (with_reducible first | exact HB.out | apply below_alloc | apply pw_below_drewN | apply below_drew1 | refine below_set ?_ GE334.out | refine below_set ?_ GE335.out) | exact HB.out))) hn_))), Or.elim hk_ (fun hs_ => Or.elim hs_ (fun hs_ => hs_.1.2.1) (fun hs_ => ((Kd.R_types (Kd.R_types (HO341.out) BK334.out (by decide)) BK335.out (by decide)).1 k_ hs_.symm).1.2)) (fun hn_ => (Kd.freshB (g := gb334) (o := .cells #[.int .i64 a0_0, .slice A0_1 l0_1.length c0_1, .slice A0_2 l0_2.length c0_2, .int .i64 a0_3, .int .i64 a0_4, .int .i64 a0_5] 76 (0, 0)) (by (with_reducible repeat (first | refine blk_drewN ?_ _ | refine blk_drew ?_ | refine blk_alloc ?_ _)); exact BK334.out) k_ hn_)), Or.elim hk_ (fun hs_ => Or.elim hs_ (fun hs_ => hs_.1.2.2) (fun hs_ => ((Kd.R_types (Kd.R_types (HO341.out) BK334.out (by decide)) BK335.out (by decide)).1 k_ hs_.symm).2)) (fun hn_ => (Kd.freshB (g := gb335) (o := .cells #[.int .i64 0, .slice none 0 0, .slice none 0 0, .int .i64 0, .int .i64 0, .int .i64 0] 76 (0, 0)) (by (with_reducible repeat (first | refine blk_drewN ?_ _ | refine blk_drew ?_ | refine blk_alloc ?_ _)); exact BK335.out) k_ hn_))⟩)) (below_size (by repeat (first | (with_reducible first | exact HB.out | apply below_alloc | apply pw_below_drewN | apply below_drew1 | refine below_set ?_ GE334.out | refine below_set ?_ GE335.out) | exact HB.out))))
              have n5_ := Aside0.mk (blk_below (g := gb334) (o := .cells #[.int .i64 a0_0, .slice A0_1 l0_1.length c0_1, .slice A0_2 l0_2.length c0_2, .int .i64 a0_3, .int .i64 a0_4, .int .i64 a0_5] 76 (0, 0)) (by (with_reducible repeat (first | refine blk_drewN ?_ _ | refine blk_drew ?_ | refine blk_alloc ?_ _)); exact BK334.out) hb)
              have n6_ := Aside0.mk (blk_below (g := gb335) (o := .cells #[.int .i64 0, .slice none 0 0, .slice none 0 0, .int .i64 0, .int .i64 0, .int .i64 0] 76 (0, 0)) (by (with_reducible repeat (first | refine blk_drewN ?_ _ | refine blk_drew ?_ | refine blk_alloc ?_ _)); exact BK335.out) hb)
              have n7_ := Aside0.mk (below_step (by repeat (first | (with_reducible first | exact HB.out | apply below_alloc | apply pw_below_drewN | apply below_drew1 | refine below_set ?_ GE334.out | refine below_set ?_ GE335.out) | exact HB.out)) hb)
              clear HO_335001
              clear HO_335002
              clear HO338
              clear HO341
              clear BK334
              clear BK335
              clear HB
              have HO_335001 := n0_
              have HO_335002 := n1_
              have HO338 := n2_
              have HO341 := n3_
              have HO344 := n4_
              have BK334 := n5_
              have BK335 := n6_
              have HB := n7_
              clear n0_ n1_ n2_ n3_ n4_ n5_ n6_ n7_
              (try clear hb)
              (try clear hb2)
              (try clear hk)
              (try clear hi)
              (try clear ho0)
              obtain ⟨Ao29, co29, eo29⟩ := Kd.N_slice HO344.out
              (first | subst eo29 | (injection eo29 with f1_ f2_ f3_; have f4_ := f1_.symm; have f5_ := f3_.symm; clear f1_ f2_ f3_; subst f4_; subst f5_))
              refine hK.out _ _ ⟨(blk_cell BK334.out 0).trans rfl, (blk_cell BK334.out 1).trans rfl, (blk_cell BK334.out 2).trans rfl, (blk_cell BK334.out 3).trans rfl, (blk_cell BK334.out 4).trans rfl, (blk_cell BK334.out 5).trans rfl⟩ (fun hHeld => ?_)
              clear hK K
              refine norm_ (a' := ?_) ?_ ?_
              rotate_left
              · show Act.put _ (some 34) _ = _
                simp only [Act.put, List.setIfInBounds_toArray, List.set_cons_zero, List.set_cons_succ, i64_w, i32_w]
                rfl
              refine pure_ (i := 9) (N := some 35) (v := ?_) (a' := ?_) (bb 11 1023) rfl rfl (any_of HT_.out (by kernel_rfl)) (fun _ _ _ h => h) (Or.inl ⟨by rfl, ?_⟩) ?_ ?_
              rotate_left
              · intro w'
                go_simp
                with_reducible rfl
              rotate_left
              · simp only [Act.put, List.setIfInBounds_toArray, List.set_cons_zero, List.set_cons_succ, i64_w, i32_w]
                rfl
              refine last_ (i := 10) (N := none) (bb 11 2047) rfl rfl (one_of HT_.out (by kernel_rfl)) (by decide) (fun K hK => ?_)
              have hs30 : w28.cell? ⟨gb334, 1, none⟩ = some (.slice A0_1 l0_1.length c0_1) := (blk_cell BK334.out 1).trans rfl
              have hfs30 := blk_frozen BK334.out 1
              have hns30_1 := NB335_334.out
              have hms30_1 := NB334_335.out
              refine skip_ (w1 := ?_) (by rfl) rfl ?_ ?_
              rotate_left
              · go_simp
                rfl
              refine hK.out _ _ ?_
              clear hK K
              refine done_ (done_of HT_.out (by kernel_rfl)) ?_
              try go_wp2
              go_loopg [8, 9] kj13 (fun kq v8 v9 w' => ∃ (x8_3 : List (S106)) (x9_3 : Int), v9 = .int .i64 x9_3 ∧ Aside0 (kilnref3_Turn.l0 kq a1 a2 x8_3 x9_3 a0_0 t342 l0_2 a0_3 a0_4 a0_5 = some (r1, r2, r3, r4, r5, r6, r7)) ∧ Aside0 (kq ≤ kj13) ∧ Aside0 (Kd.N k106 106 w' w.heap.size (fun k_ => ((P0_1_ k_ ∨ P0_2_ k_) ∨ w.heap.size ≤ k_) ∧ some k_ ≠ ((.slice Ao29 t342.length co29) : Value).ownBlock ∧ k_ ≠ gb334 ∧ k_ ≠ gb335) v8 x8_3) ∧ Aside0 (Kd.N k106 106 w' w.heap.size (fun k_ => ((P0_1_ k_ ∨ P0_2_ k_) ∨ w.heap.size ≤ k_) ∧ some k_ ≠ (v8 : Value).ownBlock ∧ k_ ≠ gb334 ∧ k_ ≠ gb335) (.slice Ao29 t342.length co29) t342) ∧ Aside0 (Kd.V k106 106 w' w.heap.size (fun k_ => ((P0_1_ k_ ∨ P0_2_ k_) ∨ w.heap.size ≤ k_) ∧ some k_ ≠ (v8 : Value).ownBlock ∧ some k_ ≠ ((.slice Ao29 t342.length co29) : Value).ownBlock ∧ k_ ≠ gb334 ∧ k_ ≠ gb335) (.slice A0_2 l0_2.length c0_2) l0_2) ∧ Aside0 (w'.heap[gb334]? = some (.cells #[.int .i64 a0_0, (.slice Ao29 t342.length co29), (.slice A0_2 l0_2.length c0_2), .int .i64 a0_3, .int .i64 a0_4, .int .i64 a0_5] 76 (0, 0))) ∧ Aside0 (w'.heap[gb335]? = some (.cells #[.int .i64 0, (.slice none 0 0), (.slice none 0 0), .int .i64 0, .int .i64 0, .int .i64 0] 76 (0, 0))) ∧ Aside0 (Below w.heap.size w w'))
              case atStart => exact ⟨(([] : List (S106))), (0), (by first | rfl | (simp; done) | (simp [*]; done)), H', ⟨Nat.le_refl _⟩, ⟨by first | exact Kd.S_nil _ _ _ _ _ | exact Kd.N_nil _ _ _ _ _ | exact Kd.V_nil _ _ _ _ _ | exact Kd.Q_nil _ _ _ _ _ | exact Kd.R_nil _ _ _ _ _⟩, ⟨by (with_reducible repeat (first | apply Kd.N_alloc | apply Kd.N_drewN | apply Kd.N_drew)); exact Kd.N_mono (Kd.N_far (p := ⟨gb334, 1, none⟩) (Kd.N_mono HO344.out (fun k_ hk => (⟨hk, hk.2.1⟩ : _ ∧ k_ ≠ gb334))) (fun _ hk => hk.2) (.slice Ao29 t342.length co29)) (fun _ hk => ⟨hk.1.1, ⟨(by simp [Value.ownBlock]), ⟨hk.1.2.1, hk.1.2.2⟩⟩⟩)⟩, ⟨by (with_reducible repeat (first | apply Kd.V_alloc | apply Kd.V_drewN | apply Kd.V_drew)); exact Kd.V_mono (Kd.V_far (p := ⟨gb334, 1, none⟩) (Kd.V_mono HO_335002.out (fun k_ hk => (⟨hk, hk.1.1.2.1⟩ : _ ∧ k_ ≠ gb334))) (fun _ hk => hk.2) (.slice Ao29 t342.length co29)) (fun _ hk => ⟨hk.1.1.1.1, ⟨(by simp [Value.ownBlock]), ⟨hk.1.2, ⟨hk.1.1.1.2.1, hk.1.1.1.2.2⟩⟩⟩⟩)⟩, ⟨by (with_reducible repeat (first | refine blk_drewN ?_ _ | refine blk_drew ?_ | refine blk_alloc ?_ _)); refine blk_put (cs := #[.int .i64 a0_0, .slice A0_1 l0_1.length c0_1, .slice A0_2 l0_2.length c0_2, .int .i64 a0_3, .int .i64 a0_4, .int .i64 a0_5]) ?_ 1 _ rfl; (with_reducible repeat (first | refine blk_drewN ?_ _ | refine blk_drew ?_ | refine blk_alloc ?_ _)); exact BK334.out⟩, ⟨by (with_reducible repeat (first | refine blk_drewN ?_ _ | refine blk_drew ?_ | refine blk_alloc ?_ _)); refine blk_far ?_ NB335_334.out _; (with_reducible repeat (first | refine blk_drewN ?_ _ | refine blk_drew ?_ | refine blk_alloc ?_ _)); exact BK335.out⟩, ⟨by repeat (first | (with_reducible first | exact HB.out | apply below_alloc | apply pw_below_drewN | apply below_drew1 | refine below_set ?_ GE334.out | refine below_set ?_ GE335.out) | exact HB.out)⟩⟩
              case round =>
                clear H'
                try clear c1
                try clear p2
                try clear c5
                try clear c6
                try clear c7
                try clear c7b0
                try clear c8
                try clear c10
                try clear c11
                try clear c15
                try clear c15b0
                try clear c16
                try clear c17
                try clear hcz12_0
                try clear hcz12_1
                try clear hcz12_2
                try clear hcz12_3
                try clear hcz12_4
                try clear hcz12_5
                try clear hcz13_0
                try clear hcz13_1
                try clear hcz13_2
                try clear hcz13_3
                try clear hcz13_4
                try clear hcz13_5
                try clear hcz18_0
                try clear hcz18_1
                try clear hcz18_2
                try clear hcz18_3
                try clear hcz18_4
                try clear hcz18_5
                try clear hcz19_0
                try clear hcz19_1
                try clear hcz19_2
                try clear hcz19_3
                try clear hcz19_4
                try clear hcz19_5
                try clear hcz9_0
                try clear hcz9_1
                try clear hcz9_2
                try clear hcz9_3
                try clear hcz9_4
                try clear hcz9_5
                try clear hfz12_0
                try clear hfz12_1
                try clear hfz12_2
                try clear hfz12_3
                try clear hfz12_4
                try clear hfz12_5
                try clear hfz13_0
                try clear hfz13_1
                try clear hfz13_2
                try clear hfz13_3
                try clear hfz13_4
                try clear hfz13_5
                try clear hfz18_0
                try clear hfz18_1
                try clear hfz18_2
                try clear hfz18_3
                try clear hfz18_4
                try clear hfz18_5
                try clear hfz19_0
                try clear hfz19_1
                try clear hfz19_2
                try clear hfz19_3
                try clear hfz19_4
                try clear hfz19_5
                try clear hfz9_0
                try clear hfz9_1
                try clear hfz9_2
                try clear hfz9_3
                try clear hfz9_4
                try clear hfz9_5
                try clear p2
                obtain ⟨x8_3, x9_3, rfl, HA, HK3, HO_8, HO_335001, HO_335002, BK334, BK335, HB⟩ := hrel
                cases gk with
                | zero => exact absurd HA.out (by simp [kilnref3_Turn.l0])
                | succ k3 =>
                  have H := HA.out
                  clear HA
                  simp only [kilnref3_Turn.l0] at H
                  by_cases c31 : x9_3 < (l0_2.length : Int)
                  · rw [if_pos c31] at H
                    have c31b0 : decide (x9_3 < (l0_2.length : Int)) = true := decide_eq_true c31
                    clear c31
                    by_cases c32 : 0 ≤ x9_3
                    · rw [if_pos c32] at H
                      have c32b0 : decide (0 ≤ x9_3) = true := decide_eq_true c32
                      clear c32
                      by_cases c33 : ((rd_T106 l0_2 x9_3).f0) = a1
                      · rw [if_pos c33] at H
                        have c33b0 : (((rd_T106 l0_2 x9_3).f0) == a1) = true := beq_iff_eq.mpr c33
                        have c33b1 : (((rd_T106 l0_2 x9_3).f0) != a1) = false := bne_eq_false_iff_eq.mpr c33
                        clear c33
                        replace H := Option.bind_eq_some_iff.mp H
                        obtain ⟨t347, A340, H⟩ := H
                        replace H : (if x8_3.length < 4398046511104 then (kilnref3_Turn.l0 k3 a1 a2 (x8_3 ++ [(⟨a1, t347⟩ : S106)]) (wrap64 (x9_3 + 1)) a0_0 t342 l0_2 a0_3 a0_4 a0_5) else (none)) = some (r1, r2, r3, r4, r5, r6, r7) := H
                        have A34 := Aside0.mk A340
                        clear A340
                        by_cases c35 : x8_3.length < 4398046511104
                        · rw [if_pos c35] at H
                          have LMc35 := Aside0.mk c35
                          clear c35
                          obtain ⟨y350, hy350⟩ : ∃ y_ : List (S106), y_ = (x8_3 ++ [(⟨a1, t347⟩ : S106)]) := ⟨_, rfl⟩
                          replace H : (kilnref3_Turn.l0 k3 a1 a2 y350 (wrap64 (x9_3 + 1)) a0_0 t342 l0_2 a0_3 a0_4 a0_5) = some (r1, r2, r3, r4, r5, r6, r7) := by first | (rw [hy350]; with_reducible exact H) | (have H2_ := (Option.bind_some _ _).symm.trans H; rw [hy350]; with_reducible exact H2_) | (have H2_ := (Option.bind_some _ _).symm.trans H; with_reducible exact H2_) | with_reducible exact H | (rw [hy350]; exact H) | exact H
                          have Ny350 := Aside0.mk hy350
                          clear hy350
                          have H' := Aside0.mk H
                          clear H
                          have hnb36 := NB334_335.out
                          have hnc36 := NB335_334.out
                          have hcz37_0 : wr.cell? ⟨gb334, 0, none⟩ = some (.int .i64 a0_0) := (blk_cell BK334.out 0).trans rfl
                          have hcz37_1 : wr.cell? ⟨gb334, 1, none⟩ = some (.slice Ao29 t342.length co29) := (blk_cell BK334.out 1).trans rfl
                          have hcz37_2 : wr.cell? ⟨gb334, 2, none⟩ = some (.slice A0_2 l0_2.length c0_2) := (blk_cell BK334.out 2).trans rfl
                          have hcz37_3 : wr.cell? ⟨gb334, 3, none⟩ = some (.int .i64 a0_3) := (blk_cell BK334.out 3).trans rfl
                          have hcz37_4 : wr.cell? ⟨gb334, 4, none⟩ = some (.int .i64 a0_4) := (blk_cell BK334.out 4).trans rfl
                          have hcz37_5 : wr.cell? ⟨gb334, 5, none⟩ = some (.int .i64 a0_5) := (blk_cell BK334.out 5).trans rfl
                          have hfz37_0 := blk_frozen BK334.out 0
                          have hfz37_1 := blk_frozen BK334.out 1
                          have hfz37_2 := blk_frozen BK334.out 2
                          have hfz37_3 := blk_frozen BK334.out 3
                          have hfz37_4 := blk_frozen BK334.out 4
                          have hfz37_5 := blk_frozen BK334.out 5
                          have p345 : 0 ≤ (x9_3 : Int) := of_decide_eq_true (by first | (with_reducible assumption) | assumption)
                          have q345 : x9_3 < (l0_2.length : Int) := of_decide_eq_true (by first | (with_reducible assumption) | assumption)
                          obtain ⟨ad345, A345_1, c345_1, e345, hx345_0, hx345_1, hl345_1, hi345_1⟩ := at_T106 (Kd.V_reads' HO_335002.out).2.2 x9_3 p345 q345
                          cases e345
                          obtain ⟨ce345, hce345, hMe345, hcc345⟩ := Kd.V_get HO_335002.out z106 x9_3 p345 (by first | exact q345 | exact of_decide_eq_true (by first | (with_reducible assumption) | assumption) | (have e_ := (Kd.V_reads' HO_335002.out).1; omega))
                          obtain ⟨ua345_1, uc345_1, rfl, ul345_1, ge345_1⟩ := k106_openF hMe345
                          have hv345_1 := hcc345 1 _ rfl
                          rw [add_field _ _ 1 (by omega)] at hv345_1
                          replace hv345_1 := Option.some.inj (hv345_1.symm.trans hx345_1)
                          injection hv345_1 with hva_ hvn_ hvc_
                          rw [hva_] at ge345_1
                          rw [hvc_] at ul345_1
                          have HL345_1 := Aside0.mk (show Kd.V (Kd.int .u8) 5 _ w.heap.size _ _ ((rd_T106 l0_2 x9_3).f1) from Kd.V_mk ul345_1 ge345_1)
                          clear hva_ hvn_ hvc_ ge345_1 ul345_1
                          clear hcc345 hce345
                          have HR345_1 := Aside0.mk hi345_1
                          have HC345_1 := Aside0.mk hl345_1
                          clear hi345_1 hl345_1
                          replace p345 := eq_true p345
                          replace q345 := eq_true q345
                          have p346 : 0 ≤ (x9_3 : Int) := of_decide_eq_true (by first | (with_reducible assumption) | assumption)
                          have q346 : x9_3 < (l0_2.length : Int) := of_decide_eq_true (by first | (with_reducible assumption) | assumption)
                          obtain ⟨ad346, A346_1, c346_1, e346, hx346_0, hx346_1, hl346_1, hi346_1⟩ := at_T106 (Kd.V_reads' HO_335002.out).2.2 x9_3 p346 q346
                          obtain rfl : ad345 = ad346 := (by injection e346)
                          obtain ⟨ce346, hce346, hMe346, hcc346⟩ := Kd.V_get HO_335002.out z106 x9_3 p346 (by first | exact q346 | exact of_decide_eq_true (by first | (with_reducible assumption) | assumption) | (have e_ := (Kd.V_reads' HO_335002.out).1; omega))
                          obtain ⟨ua346_1, uc346_1, rfl, ul346_1, ge346_1⟩ := k106_openF hMe346
                          have hv346_1 := hcc346 1 _ rfl
                          rw [add_field _ _ 1 (by omega)] at hv346_1
                          replace hv346_1 := Option.some.inj (hv346_1.symm.trans hx346_1)
                          injection hv346_1 with hva_ hvn_ hvc_
                          rw [hva_] at ge346_1
                          rw [hvc_] at ul346_1
                          have HL346_1 := Aside0.mk (show Kd.V (Kd.int .u8) 5 _ w.heap.size _ _ ((rd_T106 l0_2 x9_3).f1) from Kd.V_mk ul346_1 ge346_1)
                          clear hva_ hvn_ hvc_ ge346_1 ul346_1
                          clear hcc346 hce346
                          have HR346_1 := Aside0.mk hi346_1
                          have HC346_1 := Aside0.mk hl346_1
                          clear hi346_1 hl346_1
                          replace p346 := eq_true p346
                          replace q346 := eq_true q346
                          have ea_ := Option.some.inj (hx345_1.symm.trans hx346_1)
                          injection ea_ with ea_ en_ ec_
                          subst ea_
                          subst ec_
                          clear en_
                          go_wp2_with (first | ((with_reducible refine gate_callee (f := 62) rfl ?_); refine goesL_ (some 60) rfl rfl Try.func62 (by kernel_rfl) rfl #[.slice A345_1 ((rd_T106 l0_2 x9_3).f1).length c345_1, .int .i64 a2] rfl (by (try simp only [List.map_toArray, List.map_cons, List.map_nil]); first | done | rfl | (simp only [List.length_drop, List.length_take]; rfl)) ?_; (with_reducible refine (kilnref3_turned.calls _ _ ((rd_T106 l0_2 x9_3).f1) a2 t347 _ ?side1 ?side2 A34.out).mono ?_); (case side1 => repeat (first | exact (by repeat (first | (with_reducible exact HR346_1.out) | (with_reducible refine Kd.C_alloc ?_ _) | (with_reducible refine Kd.C_drewN ?_ _) | (with_reducible refine Kd.C_drew ?_) | exact HR346_1.out)) | (with_reducible refine Kd.C_alloc ?_ _) | (with_reducible refine Kd.C_drewN ?_ _) | (with_reducible refine Kd.C_drew ?_))); (case side2 => exact HC346_1.out); rintro e w38 ⟨v348, rfl, ho0, hb⟩; refine ⟨_, rfl, ?_⟩; have n0_ := Aside0.mk (Kd.N_elder' (by (with_reducible repeat (first | apply Kd.N_alloc | apply Kd.N_drewN | apply Kd.N_drew)); exact HO_8.out) (Kd.R_base ho0) hb); have n1_ := Aside0.mk (Kd.N_elder' (by (with_reducible repeat (first | apply Kd.N_alloc | apply Kd.N_drewN | apply Kd.N_drew)); exact HO_335001.out) (Kd.R_base ho0) hb); have n2_ := Aside0.mk (Kd.V_elder' (by (with_reducible repeat (first | apply Kd.V_alloc | apply Kd.V_drewN | apply Kd.V_drew)); exact HO_335002.out) (Kd.R_base ho0) hb); have n3_ := Aside0.mk (Kd.V_elder' (by (with_reducible repeat (first | apply Kd.V_alloc | apply Kd.V_drewN | apply Kd.V_drew)); exact HL345_1.out) (Kd.R_base ho0) hb); have n4_ := Aside0.mk (Kd.V_elder' (by (with_reducible repeat (first | apply Kd.V_alloc | apply Kd.V_drewN | apply Kd.V_drew)); exact HL346_1.out) (Kd.R_base ho0) hb); have n5_ := Aside0.mk (Kd.R_lower (Kd.R_newM (M := fun k_ => (w.heap.size ≤ k_)) ho0 (below_size (by repeat (first | (with_reducible first | exact HB.out | apply below_alloc | apply pw_below_drewN | apply below_drew1 | refine below_set ?_ GE334.out | refine below_set ?_ GE335.out) | exact HB.out))) (fun k_ h_ => h_)) (below_size (by repeat (first | (with_reducible first | exact HB.out | apply below_alloc | apply pw_below_drewN | apply below_drew1 | refine below_set ?_ GE334.out | refine below_set ?_ GE335.out) | exact HB.out)))); have n6_ := Aside0.mk (blk_below (g := gb334) (o := .cells #[.int .i64 a0_0, .slice Ao29 t342.length co29, .slice (some ad345) l0_2.length c0_2, .int .i64 a0_3, .int .i64 a0_4, .int .i64 a0_5] 76 (0, 0)) (by (with_reducible repeat (first | refine blk_drewN ?_ _ | refine blk_drew ?_ | refine blk_alloc ?_ _)); exact BK334.out) hb); have n7_ := Aside0.mk (blk_below (g := gb335) (o := .cells #[.int .i64 0, .slice none 0 0, .slice none 0 0, .int .i64 0, .int .i64 0, .int .i64 0] 76 (0, 0)) (by (with_reducible repeat (first | refine blk_drewN ?_ _ | refine blk_drew ?_ | refine blk_alloc ?_ _)); exact BK335.out) hb); have n8_ := Aside0.mk (Kd.C_below (by repeat (first | (with_reducible exact HR345_1.out) | (with_reducible refine Kd.C_alloc ?_ _) | (with_reducible refine Kd.C_drewN ?_ _) | (with_reducible refine Kd.C_drew ?_) | exact HR345_1.out)) hb); have n9_ := Aside0.mk (Kd.C_below (by repeat (first | (with_reducible exact HR346_1.out) | (with_reducible refine Kd.C_alloc ?_ _) | (with_reducible refine Kd.C_drewN ?_ _) | (with_reducible refine Kd.C_drew ?_) | exact HR346_1.out)) hb); have n10_ := Aside0.mk (below_step (by repeat (first | (with_reducible first | exact HB.out | apply below_alloc | apply pw_below_drewN | apply below_drew1 | refine below_set ?_ GE334.out | refine below_set ?_ GE335.out) | exact HB.out)) hb); clear HO_8; clear HO_335001; clear HO_335002; clear HL345_1; clear HL346_1; clear BK334; clear BK335; clear HR345_1; clear HR346_1; clear HB; have HO_8 := n0_; have HO_335001 := n1_; have HO_335002 := n2_; have HL345_1 := n3_; have HL346_1 := n4_; have HO349 := n5_; have BK334 := n6_; have BK335 := n7_; have HR345_1 := n8_; have HR346_1 := n9_; have HB := n10_; clear n0_ n1_ n2_ n3_ n4_ n5_ n6_ n7_ n8_ n9_ n10_; (try clear hb); (try clear hb2); (try clear hk); (try clear hi); (try clear ho0); obtain ⟨Ao39, co39, eo39⟩ := Kd.R_slice HO349.out; subst eo39) | ((with_reducible refine gate_builtin (b := .append) (xs := #[.tmp 51, .tmp 62]) rfl ?_); at_builtin; refine Kd.N_append k106 (w0 := w) w.heap.size rfl (.tmp 51) (.tmp 62) 74 106 (.agg #[(.int .i64 0), (.slice none 0 0)]) 32 rfl Try.underlying74 info106 rfl (by decide) (by omega) u8 x8_3 (⟨a1, t347⟩ : S106) [.int .i64 a1, .slice Ao39 t347.length co39] (fun k_ => ((P0_1_ k_ ∨ P0_2_ k_) ∨ w.heap.size ≤ k_) ∧ some k_ ≠ (.slice Ao29 t342.length co29 : Value).ownBlock ∧ k_ ≠ gb334 ∧ k_ ≠ gb335) (fun k_ => ((fun k_ => ((P0_1_ k_ ∨ P0_2_ k_) ∨ w.heap.size ≤ k_) ∧ some k_ ≠ (.slice Ao29 t342.length co29 : Value).ownBlock ∧ k_ ≠ gb334 ∧ k_ ≠ gb335)) k_ ∧ some k_ ≠ (u8 : Value).ownBlock) rfl rfl ?aP (fun _ hk => hk) ?aF ?aO ?aB ?aS ?aL ?_; (case aP => exact (k106_mkF _ _ (⟨a1, t347⟩ : S106) (Kd.R_reads' (Kd.R_mono (ok' := (fun k_ => ((fun k_ => ((P0_1_ k_ ∨ P0_2_ k_) ∨ w.heap.size ≤ k_) ∧ some k_ ≠ (.slice Ao29 t342.length co29 : Value).ownBlock ∧ k_ ≠ gb334 ∧ k_ ≠ gb335)) k_ ∧ some k_ ≠ (u8 : Value).ownBlock)) (Kd.R_types (Kd.R_types (Kd.R_apart' (Kd.R_apart' (HO349.out) (Kd.N_typed HO_335001.out) (by decide)) (Kd.N_typed HO_8.out) (by decide)) BK334.out (by decide)) BK335.out (by decide)) (fun k_ hk => ⟨⟨(.inr (hk.1.1.1.1.1)), ⟨hk.1.1.1.2, ⟨hk.1.2, hk.2⟩⟩⟩, hk.1.1.2⟩))).2.1 (Kd.R_F (Kd.R_mono (ok' := (fun k_ => ((fun k_ => ((P0_1_ k_ ∨ P0_2_ k_) ∨ w.heap.size ≤ k_) ∧ some k_ ≠ (.slice Ao29 t342.length co29 : Value).ownBlock ∧ k_ ≠ gb334 ∧ k_ ≠ gb335)) k_ ∧ some k_ ≠ (u8 : Value).ownBlock)) (Kd.R_types (Kd.R_types (Kd.R_apart' (Kd.R_apart' (HO349.out) (Kd.N_typed HO_335001.out) (by decide)) (Kd.N_typed HO_8.out) (by decide)) BK334.out (by decide)) BK335.out (by decide)) (fun k_ hk => ⟨⟨(.inr (hk.1.1.1.1.1)), ⟨hk.1.1.1.2, ⟨hk.1.2, hk.2⟩⟩⟩, hk.1.1.2⟩))))); (case aB => exact (by repeat (first | (with_reducible first | exact HB.out | apply below_alloc | apply pw_below_drewN | apply below_drew1 | refine below_set ?_ GE334.out | refine below_set ?_ GE335.out) | exact HB.out))); (case aF => exact (fun k_ hk => ⟨(.inr (Nat.le_trans (below_size (by repeat (first | (with_reducible first | exact HB.out | apply below_alloc | apply pw_below_drewN | apply below_drew1 | refine below_set ?_ GE334.out | refine below_set ?_ GE335.out) | exact HB.out))) hk)), Kd.fresh' (Kd.N_lt (by (with_reducible repeat (first | apply Kd.N_alloc | apply Kd.N_drewN | apply Kd.N_drew)); exact HO_335001.out)) k_ hk, Kd.freshB (g := gb334) (o := .cells #[.int .i64 a0_0, .slice Ao29 t342.length co29, .slice (some ad345) l0_2.length c0_2, .int .i64 a0_3, .int .i64 a0_4, .int .i64 a0_5] 76 (0, 0)) (by (with_reducible repeat (first | refine blk_drewN ?_ _ | refine blk_drew ?_ | refine blk_alloc ?_ _)); exact BK334.out) k_ hk, Kd.freshB (g := gb335) (o := .cells #[.int .i64 0, .slice none 0 0, .slice none 0 0, .int .i64 0, .int .i64 0, .int .i64 0] 76 (0, 0)) (by (with_reducible repeat (first | refine blk_drewN ?_ _ | refine blk_drew ?_ | refine blk_alloc ?_ _)); exact BK335.out) k_ hk⟩)); (case aO => exact (by (with_reducible repeat (first | apply Kd.N_alloc | apply Kd.N_drewN | apply Kd.N_drew)); exact Kd.N_mono HO_8.out (fun _ hk => ⟨hk.1.1, ⟨hk.1.2.1, ⟨hk.1.2.2.1, hk.1.2.2.2⟩⟩⟩))); (case aS => exact (below_size (by repeat (first | (with_reducible first | exact HB.out | apply below_alloc | apply pw_below_drewN | apply below_drew1 | refine below_set ?_ GE334.out | refine below_set ?_ GE335.out) | exact HB.out)))); (case aL => have := LMc35.out; omega); intro v351 w40 ho hb hg hat; rw [← Ny350.out] at ho; have n0_ := Aside0.mk (Kd.N_afterv (ok := (fun k_ => ((P0_1_ k_ ∨ P0_2_ k_) ∨ w.heap.size ≤ k_) ∧ some k_ ≠ (.slice Ao39 t347.length co39 : Value).ownBlock ∧ k_ ≠ gb334 ∧ k_ ≠ gb335)) (by (with_reducible repeat (first | apply Kd.N_alloc | apply Kd.N_drewN | apply Kd.N_drew)); exact Kd.N_mono HO_335001.out (fun _ hk => ⟨⟨hk.1.1, ⟨hk.2, ⟨hk.1.2.2.1, hk.1.2.2.2⟩⟩⟩, hk.1.2.1⟩)) hg hat); have n1_ := Aside0.mk (Kd.V_afterv (ok := (fun k_ => ((P0_1_ k_ ∨ P0_2_ k_) ∨ w.heap.size ≤ k_) ∧ some k_ ≠ (.slice Ao29 t342.length co29 : Value).ownBlock ∧ some k_ ≠ (.slice Ao39 t347.length co39 : Value).ownBlock ∧ k_ ≠ gb334 ∧ k_ ≠ gb335)) (by (with_reducible repeat (first | apply Kd.V_alloc | apply Kd.V_drewN | apply Kd.V_drew)); exact Kd.V_mono HO_335002.out (fun _ hk => ⟨⟨hk.1.1, ⟨hk.1.2.2.1, ⟨hk.2, ⟨hk.1.2.2.2.1, hk.1.2.2.2.2⟩⟩⟩⟩, hk.1.2.1⟩)) hg hat); have n2_ := Aside0.mk (blk_grown (g := gb334) (o := .cells #[.int .i64 a0_0, .slice Ao29 t342.length co29, .slice (some ad345) l0_2.length c0_2, .int .i64 a0_3, .int .i64 a0_4, .int .i64 a0_5] 76 (0, 0)) (by (with_reducible repeat (first | refine blk_drewN ?_ _ | refine blk_drew ?_ | refine blk_alloc ?_ _)); exact BK334.out) hg (Kd.N_ne HO_8.out BK334.out (by decide))); have n3_ := Aside0.mk (blk_grown (g := gb335) (o := .cells #[.int .i64 0, .slice none 0 0, .slice none 0 0, .int .i64 0, .int .i64 0, .int .i64 0] 76 (0, 0)) (by (with_reducible repeat (first | refine blk_drewN ?_ _ | refine blk_drew ?_ | refine blk_alloc ?_ _)); exact BK335.out) hg (Kd.N_ne HO_8.out BK335.out (by decide))); have n4_ := Aside0.mk (Kd.V_afterv (ok := (fun k_ => ((P0_1_ k_ ∨ P0_2_ k_) ∨ w.heap.size ≤ k_) ∧ some k_ ≠ (.slice Ao29 t342.length co29 : Value).ownBlock ∧ some k_ ≠ (.slice Ao39 t347.length co39 : Value).ownBlock ∧ k_ ≠ gb334 ∧ k_ ≠ gb335)) (by (with_reducible repeat (first | apply Kd.V_alloc | apply Kd.V_drewN | apply Kd.V_drew)); exact Kd.V_mono HL345_1.out (fun _ hk => ⟨⟨hk.1.1, ⟨hk.1.2.2.1, ⟨hk.2, ⟨hk.1.2.2.2.1, hk.1.2.2.2.2⟩⟩⟩⟩, hk.1.2.1⟩)) hg hat); have n5_ := Aside0.mk (Kd.V_afterv (ok := (fun k_ => ((P0_1_ k_ ∨ P0_2_ k_) ∨ w.heap.size ≤ k_) ∧ some k_ ≠ (.slice Ao29 t342.length co29 : Value).ownBlock ∧ some k_ ≠ (.slice Ao39 t347.length co39 : Value).ownBlock ∧ k_ ≠ gb334 ∧ k_ ≠ gb335)) (by (with_reducible repeat (first | apply Kd.V_alloc | apply Kd.V_drewN | apply Kd.V_drew)); exact Kd.V_mono HL346_1.out (fun _ hk => ⟨⟨hk.1.1, ⟨hk.1.2.2.1, ⟨hk.2, ⟨hk.1.2.2.2.1, hk.1.2.2.2.2⟩⟩⟩⟩, hk.1.2.1⟩)) hg hat); have n6_ := Aside0.mk (hb); have n7_ := Aside0.mk (ho); clear HO_335001; clear HO_335002; clear BK334; clear BK335; clear HL345_1; clear HL346_1; clear HB; clear HO_8; clear HO349; have HO_335001 := n0_; have HO_335002 := n1_; have BK334 := n2_; have BK335 := n3_; have HL345_1 := n4_; have HL346_1 := n5_; have HB := n6_; have HO352 := n7_; clear n0_ n1_ n2_ n3_ n4_ n5_ n6_ n7_; clear ho hb hg hat))
                          go_roundg k3
                          case measure => have := HJ3.out; have := HJ13.out; have := HK3.out; omega
                          case rel => exact ⟨(y350), (wrap64 (x9_3 + 1)), (by first | rfl | (simp; done) | (simp [*]; done)), H', ⟨by have := HJ3.out; have := HJ13.out; have := HK3.out; omega⟩, ⟨by (with_reducible repeat (first | apply Kd.N_alloc | apply Kd.N_drewN | apply Kd.N_drew)); exact HO352.out⟩, ⟨by (with_reducible repeat (first | apply Kd.N_alloc | apply Kd.N_drewN | apply Kd.N_drew)); exact Kd.N_mono HO_335001.out (fun _ hk => ⟨hk.1.1, ⟨hk.2, ⟨hk.1.2.2.1, hk.1.2.2.2⟩⟩⟩)⟩, ⟨by (with_reducible repeat (first | apply Kd.V_alloc | apply Kd.V_drewN | apply Kd.V_drew)); exact Kd.V_mono HO_335002.out (fun _ hk => ⟨hk.1.1, ⟨hk.2, ⟨hk.1.2.1, ⟨hk.1.2.2.2.1, hk.1.2.2.2.2⟩⟩⟩⟩)⟩, ⟨by (with_reducible repeat (first | refine blk_drewN ?_ _ | refine blk_drew ?_ | refine blk_alloc ?_ _)); exact BK334.out⟩, ⟨by (with_reducible repeat (first | refine blk_drewN ?_ _ | refine blk_drew ?_ | refine blk_alloc ?_ _)); exact BK335.out⟩, ⟨by repeat (first | (with_reducible first | exact HB.out | apply below_alloc | apply pw_below_drewN | apply below_drew1 | refine below_set ?_ GE334.out | refine below_set ?_ GE335.out) | exact HB.out)⟩⟩
                        · rw [if_neg c35] at H
                          exact absurd H (by simp)
                      · rw [if_neg c33] at H
                        have c33b0 : (((rd_T106 l0_2 x9_3).f0) == a1) = false := beq_eq_false_iff_ne.mpr c33
                        have c33b1 : (((rd_T106 l0_2 x9_3).f0) != a1) = true := bne_iff_ne.mpr c33
                        by_cases c41 : x8_3.length < 4398046511104
                        · rw [if_pos c41] at H
                          have LMc41 := Aside0.mk c41
                          clear c41
                          obtain ⟨y354, hy354⟩ : ∃ y_ : List (S106), y_ = (x8_3 ++ [(⟨(rd_T106 l0_2 x9_3).f0, (rd_T106 l0_2 x9_3).f1⟩ : S106)]) := ⟨_, rfl⟩
                          replace H : (kilnref3_Turn.l0 k3 a1 a2 y354 (wrap64 (x9_3 + 1)) a0_0 t342 l0_2 a0_3 a0_4 a0_5) = some (r1, r2, r3, r4, r5, r6, r7) := by first | (rw [hy354]; with_reducible exact H) | (have H2_ := (Option.bind_some _ _).symm.trans H; rw [hy354]; with_reducible exact H2_) | (have H2_ := (Option.bind_some _ _).symm.trans H; with_reducible exact H2_) | with_reducible exact H | (rw [hy354]; exact H) | exact H
                          have Ny354 := Aside0.mk hy354
                          clear hy354
                          have H' := Aside0.mk H
                          clear H
                          have hnb42 := NB334_335.out
                          have hnc42 := NB335_334.out
                          have hcz43_0 : wr.cell? ⟨gb334, 0, none⟩ = some (.int .i64 a0_0) := (blk_cell BK334.out 0).trans rfl
                          have hcz43_1 : wr.cell? ⟨gb334, 1, none⟩ = some (.slice Ao29 t342.length co29) := (blk_cell BK334.out 1).trans rfl
                          have hcz43_2 : wr.cell? ⟨gb334, 2, none⟩ = some (.slice A0_2 l0_2.length c0_2) := (blk_cell BK334.out 2).trans rfl
                          have hcz43_3 : wr.cell? ⟨gb334, 3, none⟩ = some (.int .i64 a0_3) := (blk_cell BK334.out 3).trans rfl
                          have hcz43_4 : wr.cell? ⟨gb334, 4, none⟩ = some (.int .i64 a0_4) := (blk_cell BK334.out 4).trans rfl
                          have hcz43_5 : wr.cell? ⟨gb334, 5, none⟩ = some (.int .i64 a0_5) := (blk_cell BK334.out 5).trans rfl
                          have hfz43_0 := blk_frozen BK334.out 0
                          have hfz43_1 := blk_frozen BK334.out 1
                          have hfz43_2 := blk_frozen BK334.out 2
                          have hfz43_3 := blk_frozen BK334.out 3
                          have hfz43_4 := blk_frozen BK334.out 4
                          have hfz43_5 := blk_frozen BK334.out 5
                          have p345 : 0 ≤ (x9_3 : Int) := of_decide_eq_true (by first | (with_reducible assumption) | assumption)
                          have q345 : x9_3 < (l0_2.length : Int) := of_decide_eq_true (by first | (with_reducible assumption) | assumption)
                          obtain ⟨ad345, A345_1, c345_1, e345, hx345_0, hx345_1, hl345_1, hi345_1⟩ := at_T106 (Kd.V_reads' HO_335002.out).2.2 x9_3 p345 q345
                          cases e345
                          obtain ⟨ce345, hce345, hMe345, hcc345⟩ := Kd.V_get HO_335002.out z106 x9_3 p345 (by first | exact q345 | exact of_decide_eq_true (by first | (with_reducible assumption) | assumption) | (have e_ := (Kd.V_reads' HO_335002.out).1; omega))
                          obtain ⟨ua345_1, uc345_1, rfl, ul345_1, ge345_1⟩ := k106_openF hMe345
                          have hv345_1 := hcc345 1 _ rfl
                          rw [add_field _ _ 1 (by omega)] at hv345_1
                          replace hv345_1 := Option.some.inj (hv345_1.symm.trans hx345_1)
                          injection hv345_1 with hva_ hvn_ hvc_
                          rw [hva_] at ge345_1
                          rw [hvc_] at ul345_1
                          have HL345_1 := Aside0.mk (show Kd.V (Kd.int .u8) 5 _ w.heap.size _ _ ((rd_T106 l0_2 x9_3).f1) from Kd.V_mk ul345_1 ge345_1)
                          clear hva_ hvn_ hvc_ ge345_1 ul345_1
                          clear hcc345 hce345
                          have HR345_1 := Aside0.mk hi345_1
                          have HC345_1 := Aside0.mk hl345_1
                          clear hi345_1 hl345_1
                          replace p345 := eq_true p345
                          replace q345 := eq_true q345
                          have p353 : 0 ≤ (x9_3 : Int) := of_decide_eq_true (by first | (with_reducible assumption) | assumption)
                          have q353 : x9_3 < (l0_2.length : Int) := of_decide_eq_true (by first | (with_reducible assumption) | assumption)
                          obtain ⟨ad353, A353_1, c353_1, e353, hx353_0, hx353_1, hl353_1, hi353_1⟩ := at_T106 (Kd.V_reads' HO_335002.out).2.2 x9_3 p353 q353
                          obtain rfl : ad345 = ad353 := (by injection e353)
                          obtain ⟨ce353, hce353, hMe353, hcc353⟩ := Kd.V_get HO_335002.out z106 x9_3 p353 (by first | exact q353 | exact of_decide_eq_true (by first | (with_reducible assumption) | assumption) | (have e_ := (Kd.V_reads' HO_335002.out).1; omega))
                          obtain ⟨ua353_1, uc353_1, rfl, ul353_1, ge353_1⟩ := k106_openF hMe353
                          have hv353_1 := hcc353 1 _ rfl
                          rw [add_field _ _ 1 (by omega)] at hv353_1
                          replace hv353_1 := Option.some.inj (hv353_1.symm.trans hx353_1)
                          injection hv353_1 with hva_ hvn_ hvc_
                          rw [hva_] at ge353_1
                          rw [hvc_] at ul353_1
                          have HL353_1 := Aside0.mk (show Kd.V (Kd.int .u8) 5 _ w.heap.size _ _ ((rd_T106 l0_2 x9_3).f1) from Kd.V_mk ul353_1 ge353_1)
                          clear hva_ hvn_ hvc_ ge353_1 ul353_1
                          clear hcc353 hce353
                          have HR353_1 := Aside0.mk hi353_1
                          have HC353_1 := Aside0.mk hl353_1
                          clear hi353_1 hl353_1
                          replace p353 := eq_true p353
                          replace q353 := eq_true q353
                          have ea_ := Option.some.inj (hx345_1.symm.trans hx353_1)
                          injection ea_ with ea_ en_ ec_
                          subst ea_
                          subst ec_
                          clear en_
                          go_wp2_with (first | ((with_reducible refine gate_builtin (b := .append) (xs := #[.tmp 64, .tmp 70]) rfl ?_); at_builtin; refine Kd.N_append k106 (w0 := w) w.heap.size rfl (.tmp 64) (.tmp 70) 74 106 (.agg #[(.int .i64 0), (.slice none 0 0)]) 32 rfl Try.underlying74 info106 rfl (by decide) (by omega) u8 x8_3 (⟨(rd_T106 l0_2 x9_3).f0, (rd_T106 l0_2 x9_3).f1⟩ : S106) [.int .i64 ((rd_T106 l0_2 x9_3).f0), .slice A345_1 ((rd_T106 l0_2 x9_3).f1).length c345_1] (fun k_ => ((P0_1_ k_ ∨ P0_2_ k_) ∨ w.heap.size ≤ k_) ∧ some k_ ≠ (.slice Ao29 t342.length co29 : Value).ownBlock ∧ k_ ≠ gb334 ∧ k_ ≠ gb335) (fun k_ => ((fun k_ => ((P0_1_ k_ ∨ P0_2_ k_) ∨ w.heap.size ≤ k_) ∧ some k_ ≠ (.slice Ao29 t342.length co29 : Value).ownBlock ∧ k_ ≠ gb334 ∧ k_ ≠ gb335)) k_ ∧ some k_ ≠ (u8 : Value).ownBlock) rfl rfl ?aP (fun _ hk => hk) ?aF ?aO ?aB ?aS ?aL ?_; (case aP => exact (k106_mkF _ _ (⟨(rd_T106 l0_2 x9_3).f0, (rd_T106 l0_2 x9_3).f1⟩ : S106) (Kd.V_reads' (Kd.V_mono (ok' := (fun k_ => ((fun k_ => ((P0_1_ k_ ∨ P0_2_ k_) ∨ w.heap.size ≤ k_) ∧ some k_ ≠ (.slice Ao29 t342.length co29 : Value).ownBlock ∧ k_ ≠ gb334 ∧ k_ ≠ gb335)) k_ ∧ some k_ ≠ (u8 : Value).ownBlock)) (HL353_1.out) (fun k_ hk => ⟨⟨hk.1, ⟨hk.2.2.1, ⟨hk.2.2.2.1, hk.2.2.2.2⟩⟩⟩, hk.2.1⟩))).2.1 (Kd.V_F (Kd.V_mono (ok' := (fun k_ => ((fun k_ => ((P0_1_ k_ ∨ P0_2_ k_) ∨ w.heap.size ≤ k_) ∧ some k_ ≠ (.slice Ao29 t342.length co29 : Value).ownBlock ∧ k_ ≠ gb334 ∧ k_ ≠ gb335)) k_ ∧ some k_ ≠ (u8 : Value).ownBlock)) (HL353_1.out) (fun k_ hk => ⟨⟨hk.1, ⟨hk.2.2.1, ⟨hk.2.2.2.1, hk.2.2.2.2⟩⟩⟩, hk.2.1⟩))))); (case aB => exact (by repeat (first | (with_reducible first | exact HB.out | apply below_alloc | apply pw_below_drewN | apply below_drew1 | refine below_set ?_ GE334.out | refine below_set ?_ GE335.out) | exact HB.out))); (case aF => exact (fun k_ hk => ⟨(.inr (Nat.le_trans (below_size (by repeat (first | (with_reducible first | exact HB.out | apply below_alloc | apply pw_below_drewN | apply below_drew1 | refine below_set ?_ GE334.out | refine below_set ?_ GE335.out) | exact HB.out))) hk)), Kd.fresh' (Kd.N_lt (by (with_reducible repeat (first | apply Kd.N_alloc | apply Kd.N_drewN | apply Kd.N_drew)); exact HO_335001.out)) k_ hk, Kd.freshB (g := gb334) (o := .cells #[.int .i64 a0_0, .slice Ao29 t342.length co29, .slice (some ad345) l0_2.length c0_2, .int .i64 a0_3, .int .i64 a0_4, .int .i64 a0_5] 76 (0, 0)) (by (with_reducible repeat (first | refine blk_drewN ?_ _ | refine blk_drew ?_ | refine blk_alloc ?_ _)); exact BK334.out) k_ hk, Kd.freshB (g := gb335) (o := .cells #[.int .i64 0, .slice none 0 0, .slice none 0 0, .int .i64 0, .int .i64 0, .int .i64 0] 76 (0, 0)) (by (with_reducible repeat (first | refine blk_drewN ?_ _ | refine blk_drew ?_ | refine blk_alloc ?_ _)); exact BK335.out) k_ hk⟩)); (case aO => exact (by (with_reducible repeat (first | apply Kd.N_alloc | apply Kd.N_drewN | apply Kd.N_drew)); exact HO_8.out)); (case aS => exact (below_size (by repeat (first | (with_reducible first | exact HB.out | apply below_alloc | apply pw_below_drewN | apply below_drew1 | refine below_set ?_ GE334.out | refine below_set ?_ GE335.out) | exact HB.out)))); (case aL => have := LMc41.out; omega); intro v355 w44 ho hb hg hat; rw [← Ny354.out] at ho; have n0_ := Aside0.mk (Kd.N_afterv (ok := (fun k_ => ((P0_1_ k_ ∨ P0_2_ k_) ∨ w.heap.size ≤ k_) ∧ k_ ≠ gb334 ∧ k_ ≠ gb335)) (by (with_reducible repeat (first | apply Kd.N_alloc | apply Kd.N_drewN | apply Kd.N_drew)); exact Kd.N_mono HO_335001.out (fun _ hk => ⟨⟨hk.1, ⟨hk.2.2.1, hk.2.2.2⟩⟩, hk.2.1⟩)) hg hat); have n1_ := Aside0.mk (Kd.V_afterv (ok := (fun k_ => ((P0_1_ k_ ∨ P0_2_ k_) ∨ w.heap.size ≤ k_) ∧ some k_ ≠ (.slice Ao29 t342.length co29 : Value).ownBlock ∧ k_ ≠ gb334 ∧ k_ ≠ gb335)) (by (with_reducible repeat (first | apply Kd.V_alloc | apply Kd.V_drewN | apply Kd.V_drew)); exact Kd.V_mono HO_335002.out (fun _ hk => ⟨⟨hk.1, ⟨hk.2.2.1, ⟨hk.2.2.2.1, hk.2.2.2.2⟩⟩⟩, hk.2.1⟩)) hg hat); have n2_ := Aside0.mk (blk_grown (g := gb334) (o := .cells #[.int .i64 a0_0, .slice Ao29 t342.length co29, .slice (some ad345) l0_2.length c0_2, .int .i64 a0_3, .int .i64 a0_4, .int .i64 a0_5] 76 (0, 0)) (by (with_reducible repeat (first | refine blk_drewN ?_ _ | refine blk_drew ?_ | refine blk_alloc ?_ _)); exact BK334.out) hg (Kd.N_ne HO_8.out BK334.out (by decide))); have n3_ := Aside0.mk (blk_grown (g := gb335) (o := .cells #[.int .i64 0, .slice none 0 0, .slice none 0 0, .int .i64 0, .int .i64 0, .int .i64 0] 76 (0, 0)) (by (with_reducible repeat (first | refine blk_drewN ?_ _ | refine blk_drew ?_ | refine blk_alloc ?_ _)); exact BK335.out) hg (Kd.N_ne HO_8.out BK335.out (by decide))); have n4_ := Aside0.mk (Kd.V_afterv (ok := (fun k_ => ((P0_1_ k_ ∨ P0_2_ k_) ∨ w.heap.size ≤ k_) ∧ some k_ ≠ (.slice Ao29 t342.length co29 : Value).ownBlock ∧ k_ ≠ gb334 ∧ k_ ≠ gb335)) (by (with_reducible repeat (first | apply Kd.V_alloc | apply Kd.V_drewN | apply Kd.V_drew)); exact Kd.V_mono HL345_1.out (fun _ hk => ⟨⟨hk.1, ⟨hk.2.2.1, ⟨hk.2.2.2.1, hk.2.2.2.2⟩⟩⟩, hk.2.1⟩)) hg hat); have n5_ := Aside0.mk (Kd.V_afterv (ok := (fun k_ => ((P0_1_ k_ ∨ P0_2_ k_) ∨ w.heap.size ≤ k_) ∧ some k_ ≠ (.slice Ao29 t342.length co29 : Value).ownBlock ∧ k_ ≠ gb334 ∧ k_ ≠ gb335)) (by (with_reducible repeat (first | apply Kd.V_alloc | apply Kd.V_drewN | apply Kd.V_drew)); exact Kd.V_mono HL353_1.out (fun _ hk => ⟨⟨hk.1, ⟨hk.2.2.1, ⟨hk.2.2.2.1, hk.2.2.2.2⟩⟩⟩, hk.2.1⟩)) hg hat); have n6_ := Aside0.mk (hb); have n7_ := Aside0.mk (ho); clear HO_335001; clear HO_335002; clear BK334; clear BK335; clear HL345_1; clear HL353_1; clear HB; clear HO_8; have HO_335001 := n0_; have HO_335002 := n1_; have BK334 := n2_; have BK335 := n3_; have HL345_1 := n4_; have HL353_1 := n5_; have HB := n6_; have HO356 := n7_; clear n0_ n1_ n2_ n3_ n4_ n5_ n6_ n7_; clear ho hb hg hat))
                          go_roundg k3
                          case measure => have := HJ3.out; have := HJ13.out; have := HK3.out; omega
                          case rel => exact ⟨(y354), (wrap64 (x9_3 + 1)), (by first | rfl | (simp; done) | (simp [*]; done)), H', ⟨by have := HJ3.out; have := HJ13.out; have := HK3.out; omega⟩, ⟨by (with_reducible repeat (first | apply Kd.N_alloc | apply Kd.N_drewN | apply Kd.N_drew)); exact HO356.out⟩, ⟨by (with_reducible repeat (first | apply Kd.N_alloc | apply Kd.N_drewN | apply Kd.N_drew)); exact Kd.N_mono HO_335001.out (fun _ hk => ⟨hk.1.1, ⟨hk.2, ⟨hk.1.2.1, hk.1.2.2⟩⟩⟩)⟩, ⟨by (with_reducible repeat (first | apply Kd.V_alloc | apply Kd.V_drewN | apply Kd.V_drew)); exact Kd.V_mono HO_335002.out (fun _ hk => ⟨hk.1.1, ⟨hk.2, ⟨hk.1.2.1, ⟨hk.1.2.2.1, hk.1.2.2.2⟩⟩⟩⟩)⟩, ⟨by (with_reducible repeat (first | refine blk_drewN ?_ _ | refine blk_drew ?_ | refine blk_alloc ?_ _)); exact BK334.out⟩, ⟨by (with_reducible repeat (first | refine blk_drewN ?_ _ | refine blk_drew ?_ | refine blk_alloc ?_ _)); exact BK335.out⟩, ⟨by repeat (first | (with_reducible first | exact HB.out | apply below_alloc | apply pw_below_drewN | apply below_drew1 | refine below_set ?_ GE334.out | refine below_set ?_ GE335.out) | exact HB.out)⟩⟩
                        · rw [if_neg c41] at H
                          exact absurd H (by simp)
                    · rw [if_neg c32] at H
                      exact absurd H (by simp)
                  · rw [if_neg c31] at H
                    have c31b0 : decide (x9_3 < (l0_2.length : Int)) = false := decide_eq_false c31
                    clear c31
                    simp only [Option.some.injEq, Prod.mk.injEq] at H
                    obtain ⟨rfl, rfl, rfl, rfl, rfl, rfl, rfl⟩ := H
                    have hnb45 := NB334_335.out
                    have hnc45 := NB335_334.out
                    have hcz46_0 : wr.cell? ⟨gb334, 0, none⟩ = some (.int .i64 a0_0) := (blk_cell BK334.out 0).trans rfl
                    have hcz46_1 : wr.cell? ⟨gb334, 1, none⟩ = some (.slice Ao29 t342.length co29) := (blk_cell BK334.out 1).trans rfl
                    have hcz46_2 : wr.cell? ⟨gb334, 2, none⟩ = some (.slice A0_2 l0_2.length c0_2) := (blk_cell BK334.out 2).trans rfl
                    have hcz46_3 : wr.cell? ⟨gb334, 3, none⟩ = some (.int .i64 a0_3) := (blk_cell BK334.out 3).trans rfl
                    have hcz46_4 : wr.cell? ⟨gb334, 4, none⟩ = some (.int .i64 a0_4) := (blk_cell BK334.out 4).trans rfl
                    have hcz46_5 : wr.cell? ⟨gb334, 5, none⟩ = some (.int .i64 a0_5) := (blk_cell BK334.out 5).trans rfl
                    have hfz46_0 := blk_frozen BK334.out 0
                    have hfz46_1 := blk_frozen BK334.out 1
                    have hfz46_2 := blk_frozen BK334.out 2
                    have hfz46_3 := blk_frozen BK334.out 3
                    have hfz46_4 := blk_frozen BK334.out 4
                    have hfz46_5 := blk_frozen BK334.out 5
                    obtain ⟨Ao47, co47, eo47⟩ := Kd.N_slice HO_8.out
                    subst eo47
                    have hcz48_0 : wr.cell? ⟨gb335, 0, none⟩ = some (.int .i64 0) := (blk_cell BK335.out 0).trans rfl
                    have hcz48_1 : wr.cell? ⟨gb335, 1, none⟩ = some (.slice none 0 0) := (blk_cell BK335.out 1).trans rfl
                    have hcz48_2 : wr.cell? ⟨gb335, 2, none⟩ = some (.slice none 0 0) := (blk_cell BK335.out 2).trans rfl
                    have hcz48_3 : wr.cell? ⟨gb335, 3, none⟩ = some (.int .i64 0) := (blk_cell BK335.out 3).trans rfl
                    have hcz48_4 : wr.cell? ⟨gb335, 4, none⟩ = some (.int .i64 0) := (blk_cell BK335.out 4).trans rfl
                    have hcz48_5 : wr.cell? ⟨gb335, 5, none⟩ = some (.int .i64 0) := (blk_cell BK335.out 5).trans rfl
                    have hfz48_0 := blk_frozen BK335.out 0
                    have hfz48_1 := blk_frozen BK335.out 1
                    have hfz48_2 := blk_frozen BK335.out 2
                    have hfz48_3 := blk_frozen BK335.out 3
                    have hfz48_4 := blk_frozen BK335.out 4
                    have hfz48_5 := blk_frozen BK335.out 5
                    go_wp2
                    refine bodyPost_ret (results_ct rfl _ _ gb335 76 #[.int .i64 a0_0, .slice Ao29 t342.length co29, .slice Ao47 x8_3.length co47, .int .i64 a0_3, .int .i64 a0_4, .int .i64 a0_5] (0, 0) _ rfl (by (with_reducible repeat (first | refine blk_drewN ?_ _ | refine blk_drew ?_ | refine blk_alloc ?_ _)); refine blk_put (cs := #[.int .i64 a0_0, .slice Ao29 t342.length co29, .slice Ao47 x8_3.length co47, .int .i64 a0_3, .int .i64 a0_4, .int .i64 0]) ?_ 5 _ rfl; (with_reducible repeat (first | refine blk_drewN ?_ _ | refine blk_drew ?_ | refine blk_alloc ?_ _)); refine blk_put (cs := #[.int .i64 a0_0, .slice Ao29 t342.length co29, .slice Ao47 x8_3.length co47, .int .i64 a0_3, .int .i64 0, .int .i64 0]) ?_ 4 _ rfl; (with_reducible repeat (first | refine blk_drewN ?_ _ | refine blk_drew ?_ | refine blk_alloc ?_ _)); refine blk_put (cs := #[.int .i64 a0_0, .slice Ao29 t342.length co29, .slice Ao47 x8_3.length co47, .int .i64 0, .int .i64 0, .int .i64 0]) ?_ 3 _ rfl; (with_reducible repeat (first | refine blk_drewN ?_ _ | refine blk_drew ?_ | refine blk_alloc ?_ _)); refine blk_put (cs := #[.int .i64 a0_0, .slice Ao29 t342.length co29, .slice none 0 0, .int .i64 0, .int .i64 0, .int .i64 0]) ?_ 2 _ rfl; (with_reducible repeat (first | refine blk_drewN ?_ _ | refine blk_drew ?_ | refine blk_alloc ?_ _)); refine blk_put (cs := #[.int .i64 a0_0, .slice none 0 0, .slice none 0 0, .int .i64 0, .int .i64 0, .int .i64 0]) ?_ 1 _ rfl; (with_reducible repeat (first | refine blk_drewN ?_ _ | refine blk_drew ?_ | refine blk_alloc ?_ _)); refine blk_put (cs := #[.int .i64 0, .slice none 0 0, .slice none 0 0, .int .i64 0, .int .i64 0, .int .i64 0]) ?_ 0 _ rfl; (with_reducible repeat (first | refine blk_drewN ?_ _ | refine blk_drew ?_ | refine blk_alloc ?_ _)); refine blk_far ?_ NB335_334.out _; (with_reducible repeat (first | refine blk_drewN ?_ _ | refine blk_drew ?_ | refine blk_alloc ?_ _)); exact BK335.out) Try.underlying76 rfl (by kernel_rfl)) rfl ?_
                    exact ⟨_, _, by first | rfl | (simp [errW_none, errW_some] <;> rfl) | (simp [*, errW_none, errW_some] <;> rfl), Kd.N_V (by (with_reducible repeat (first | apply Kd.N_alloc | apply Kd.N_drewN | apply Kd.N_drew)); exact Kd.N_mono (Kd.N_far (p := ⟨gb335, 5, none⟩) (Kd.N_far (p := ⟨gb335, 4, none⟩) (Kd.N_far (p := ⟨gb335, 3, none⟩) (Kd.N_far (p := ⟨gb335, 2, none⟩) (Kd.N_far (p := ⟨gb335, 1, none⟩) (Kd.N_far (p := ⟨gb335, 0, none⟩) (Kd.N_far (p := ⟨gb334, 2, none⟩) (Kd.N_mono (Kd.N_mono HO_335001.out (fun k_ hk => (⟨hk, hk.2.2.1⟩ : _ ∧ k_ ≠ gb334))) (fun k_ hk => (⟨hk, hk.1.2.2.2⟩ : _ ∧ k_ ≠ gb335))) (fun _ hk => hk.1.2) (.slice Ao47 x8_3.length co47)) (fun _ hk => hk.2) (.int .i64 a0_0)) (fun _ hk => hk.2) (.slice Ao29 t342.length co29)) (fun _ hk => hk.2) (.slice Ao47 x8_3.length co47)) (fun _ hk => hk.2) (.int .i64 a0_3)) (fun _ hk => hk.2) (.int .i64 a0_4)) (fun _ hk => hk.2) (.int .i64 a0_5)) (fun _ hk => hk.1.1.1)), Kd.N_V (by (with_reducible repeat (first | apply Kd.N_alloc | apply Kd.N_drewN | apply Kd.N_drew)); exact Kd.N_mono (Kd.N_far (p := ⟨gb335, 5, none⟩) (Kd.N_far (p := ⟨gb335, 4, none⟩) (Kd.N_far (p := ⟨gb335, 3, none⟩) (Kd.N_far (p := ⟨gb335, 2, none⟩) (Kd.N_far (p := ⟨gb335, 1, none⟩) (Kd.N_far (p := ⟨gb335, 0, none⟩) (Kd.N_far (p := ⟨gb334, 2, none⟩) (Kd.N_mono (Kd.N_mono HO_8.out (fun k_ hk => (⟨hk, hk.2.2.1⟩ : _ ∧ k_ ≠ gb334))) (fun k_ hk => (⟨hk, hk.1.2.2.2⟩ : _ ∧ k_ ≠ gb335))) (fun _ hk => hk.1.2) (.slice Ao47 x8_3.length co47)) (fun _ hk => hk.2) (.int .i64 a0_0)) (fun _ hk => hk.2) (.slice Ao29 t342.length co29)) (fun _ hk => hk.2) (.slice Ao47 x8_3.length co47)) (fun _ hk => hk.2) (.int .i64 a0_3)) (fun _ hk => hk.2) (.int .i64 a0_4)) (fun _ hk => hk.2) (.int .i64 a0_5)) (fun _ hk => hk.1.1.1)), by repeat (first | (with_reducible first | exact HB.out | apply below_alloc | apply pw_below_drewN | apply below_drew1 | refine below_set ?_ GE334.out | refine below_set ?_ GE335.out) | exact HB.out)⟩
end Go.Proofs.Ytddnhcnkjcdfgaa.R

namespace Go.Proofs.Ytddnhcnkjcdfgaa.M
open Go.RowKit Go.Maps Go.Proofs.YtddnhcnkjcdfgaaW.PrintWords Go.Proofs.YtddnhcnkjcdfgaaW.PrintLast Go.Proofs.YtddnhcnkjcdfgaaW.PrintMore
open Go.Proofs.Ytddnhcnkjcdfgaa.P hiding S106 k106
open Go.Proofs.Ytddnhcnkjcdfgaa.R
set_option linter.unusedVariables false
set_option linter.unusedSimpArgs false
def refT (v1 v2 : Value) (l1 l2 : List S106) : Th where
  P := fun w F => Kd.V k106 106 w 0 F v1 l1 ∧ Kd.V k106 106 w 0 F v2 l2 ∧ ∀ b, F b → b < w.heap.size
  foot := fun h => h.2.2
  step := by
    rintro w w' F ⟨h1, h2, h3⟩ h
    exact ⟨Kd.V_step h1 (fun k hk _ => h k hk), Kd.V_step h2 (fun k hk _ => h k hk), fun b hb => same_lt (h b hb) (h3 b hb)⟩
section
variable {w0 w w' : World} {L : List Th} {A1 A2 : Option Addr} {c1 c2 : Nat} {l1 l2 : List S106}
theorem Sep.ref_put {v1 v2 : Value} (h : Sep w0 w (refT v1 v2 l1 l2 :: L)) : ∃ F : Nat → Prop, Kd.V k106 106 w 0 F v1 l1 ∧ Kd.V k106 106 w 0 F v2 l2 ∧ (∀ b, F b → b < w.heap.size) ∧
    ∀ (w' : World) (b1 b2 : Nat) (ok1 ok2 : Nat → Prop) (v1' v2' : Value) (l1' l2' : List S106), Kd.V k106 106 w' b1 ok1 v1' l1' → Kd.V k106 106 w' b2 ok2 v2' l2' → (∀ k, ok1 k → F k ∨ w.heap.size ≤ k) → (∀ k, ok2 k → F k ∨ w.heap.size ≤ k) → Below w.heap.size w w' → Sep w0 w' (refT v1' v2' l1' l2' :: L) := by
  obtain ⟨F, ⟨h1, h2, h3⟩, _, h4⟩ := h.open1
  refine ⟨F, h1, h2, h3, fun w' b1 b2 ok1 ok2 v1' v2' l1' l2' g1 g2 e1 e2 hb => ?_⟩
  exact h4 (refT v1' v2' l1' l2') w' (fun k => (F k ∨ w.heap.size ≤ k) ∧ k < w'.heap.size) ⟨Kd.V_mono (Kd.V_bound (Kd.V_mono g1 (fun _ h => h))) (fun k hk => ⟨e1 k hk.1, hk.2⟩), Kd.V_mono (Kd.V_bound (Kd.V_mono g2 (fun _ h => h))) (fun k hk => ⟨e2 k hk.1, hk.2⟩), fun b hb => hb.2⟩ (fun b hb => hb.1) (Chg.of_below hb)
theorem Sep.ref_new {b1 b2 : Nat} {ok1 ok2 : Nat → Prop} {v1 v2 : Value} (h : Sep w0 w L) (h1 : Kd.S k106 106 w' w.heap.size ok1 v1 l1) (h2 : Kd.S k106 106 w' w.heap.size ok2 v2 l2) (hb : Below w.heap.size w w') : Sep w0 w' (refT v1 v2 l1 l2 :: L) :=
  h.push (t := refT v1 v2 l1 l2) hb (F := fun k => w.heap.size ≤ k ∧ k < w'.heap.size) ⟨Kd.S_V (Kd.S_mono (Kd.S_bound h1) (fun k hk => ⟨hk.2.1, hk.2.2.1⟩)), Kd.S_V (Kd.S_mono (Kd.S_bound h2) (fun k hk => ⟨hk.2.1, hk.2.2.1⟩)), fun b hb => hb.2⟩ (fun b hb => hb.1)
theorem Sep.ref_C (h : Sep w0 w (refT (.slice A1 l1.length c1) (.slice A2 l2.length c2) l1 l2 :: L)) : Kd.C k106 w A1 l1.length l1 ∧ l1.length ≤ c1 ∧ Kd.C k106 w A2 l2.length l2 ∧ l2.length ≤ c2 := by
  obtain ⟨F, ⟨h1, h2, _⟩, _⟩ := h.get
  exact ⟨(Kd.V_reads' h1).2.2, (Kd.V_reads' h1).2.1, (Kd.V_reads' h2).2.2, (Kd.V_reads' h2).2.1⟩
theorem Sep.rWrite (h : Sep w0 w (refT (.slice A1 l1.length c1) (.slice A2 l2.length c2) l1 l2 :: L)) (k : Nat) (n r wr fl : Int) (a1 : Int) (A0 : Option Addr) (c0 : Nat) (l0 : List Int) (n' : Int) (l1' l2' : List S106) (r' wr' fl' : Int) (e7 : Int) (hC : Kd.C (Kd.int .u8) w A0 l0.length l0) (hc : l0.length ≤ c0) (hf : kilnref3_Write.f k n l1 l2 r wr fl a1 l0 = some (n', l1', l2', r', wr', fl', e7)) :
    Calls Try.prog 49 #[.agg #[.int .i64 n, .slice A1 l1.length c1, .slice A2 l2.length c2, .int .i64 r, .int .i64 wr, .int .i64 fl], .int .i64 a1, .slice A0 l0.length c0] w fun e w' => ∃ A1' c1' A2' c2', e = .returned (.tuple #[.agg #[.int .i64 n', .slice A1' l1'.length c1', .slice A2' l2'.length c2', .int .i64 r', .int .i64 wr', .int .i64 fl'], .int .i64 e7]) ∧ Sep w0 w' (refT (.slice A1' l1'.length c1') (.slice A2' l2'.length c2') l1' l2' :: L) := by
  obtain ⟨F, g1, g2, g3, put⟩ := h.ref_put
  refine (kilnref3_Write.calls k n F A1 c1 l1 F A2 c2 l2 r wr fl a1 A0 c0 l0 n' l1' l2' r' wr' fl' e7 w (Kd.V_mono g1 (fun _ h => h)) (Kd.V_mono g2 (fun _ h => h)) hC hc hf).mono ?_
  rintro e w' ⟨v1, v2, he, h1, h2, hb⟩
  obtain ⟨A1', c1', rfl⟩ := Kd.V_slice h1
  have h2 := h2
  obtain ⟨A2', c2', rfl⟩ := Kd.V_slice h2
  exact ⟨A1', c1', A2', c2', he, put w' _ _ _ _ _ _ _ _ h1 h2 (fun k hk => hk.imp (fun h => h.elim id id) id) (fun k hk => hk.imp (fun h => h.elim id id) id) hb⟩
theorem Sep.rTurn (h : Sep w0 w (refT (.slice A1 l1.length c1) (.slice A2 l2.length c2) l1 l2 :: L)) (k : Nat) (n r wr fl : Int) (a1 a2 : Int) (n' : Int) (l1' l2' : List S106) (r' wr' fl' : Int) (e7 : Int) (hf : kilnref3_Turn.f k n l1 l2 r wr fl a1 a2 = some (n', l1', l2', r', wr', fl', e7)) :
    Calls Try.prog 53 #[.agg #[.int .i64 n, .slice A1 l1.length c1, .slice A2 l2.length c2, .int .i64 r, .int .i64 wr, .int .i64 fl], .int .i64 a1, .int .i64 a2] w fun e w' => ∃ A1' c1' A2' c2', e = .returned (.tuple #[.agg #[.int .i64 n', .slice A1' l1'.length c1', .slice A2' l2'.length c2', .int .i64 r', .int .i64 wr', .int .i64 fl'], .int .i64 e7]) ∧ Sep w0 w' (refT (.slice A1' l1'.length c1') (.slice A2' l2'.length c2') l1' l2' :: L) := by
  obtain ⟨F, g1, g2, g3, put⟩ := h.ref_put
  refine (kilnref3_Turn.calls k n F A1 c1 l1 F A2 c2 l2 r wr fl a1 a2 n' l1' l2' r' wr' fl' e7 w (Kd.V_mono g1 (fun _ h => h)) (Kd.V_mono g2 (fun _ h => h)) hf).mono ?_
  rintro e w' ⟨v1, v2, he, h1, h2, hb⟩
  obtain ⟨A1', c1', rfl⟩ := Kd.V_slice h1
  have h2 := h2
  obtain ⟨A2', c2', rfl⟩ := Kd.V_slice h2
  exact ⟨A1', c1', A2', c2', he, put w' _ _ _ _ _ _ _ _ h1 h2 (fun k hk => hk.imp (fun h => h.elim id id) id) (fun k hk => hk.imp (fun h => h.elim id id) id) hb⟩
theorem Sep.rFlush (h : Sep w0 w (refT (.slice A1 l1.length c1) (.slice A2 l2.length c2) l1 l2 :: L)) (k : Nat) (n r wr fl : Int) (n' : Int) (l1' l2' : List S106) (r' wr' fl' : Int) (hf : kilnref3_Flush.f k n l1 l2 r wr fl = some (n', l1', l2', r', wr', fl')) :
    Calls Try.prog 51 #[.agg #[.int .i64 n, .slice A1 l1.length c1, .slice A2 l2.length c2, .int .i64 r, .int .i64 wr, .int .i64 fl]] w fun e w' => ∃ A1' c1' A2' c2', e = .returned (.agg #[.int .i64 n', .slice A1' l1'.length c1', .slice A2' l2'.length c2', .int .i64 r', .int .i64 wr', .int .i64 fl']) ∧ Sep w0 w' (refT (.slice A1' l1'.length c1') (.slice A2' l2'.length c2') l1' l2' :: L) := by
  obtain ⟨F, g1, g2, g3, put⟩ := h.ref_put
  refine (kilnref3_Flush.calls k n F A1 c1 l1 F A2 c2 l2 r wr fl n' l1' l2' r' wr' fl' w (Kd.V_mono g1 (fun _ h => h)) (Kd.V_mono g2 (fun _ h => h)) hf).mono ?_
  rintro e w' ⟨v1, v2, he, h1, h2, hb⟩
  obtain ⟨A1', c1', rfl⟩ := Kd.V_slice h1
  have h2 := Kd.N_V (base' := 0) h2
  obtain ⟨A2', c2', rfl⟩ := Kd.V_slice h2
  exact ⟨A1', c1', A2', c2', he, put w' _ _ _ _ _ _ _ _ h1 h2 (fun k hk => hk.1.imp (fun h => h.elim id id) id) (fun k hk => hk.imp (fun h => h.elim id id) id) hb⟩
theorem Sep.rCrash (h : Sep w0 w (refT (.slice A1 l1.length c1) (.slice A2 l2.length c2) l1 l2 :: L)) (k : Nat) (n r wr fl : Int) (A0 : Option Addr) (c0 : Nat) (l0 : List Int) (n' : Int) (l1' l2' : List S106) (r' wr' fl' : Int) (hC : Kd.C (Kd.int .i64) w A0 l0.length l0) (hc : l0.length ≤ c0) (hf : kilnref3_Crash.f k n l1 l2 r wr fl l0 = some (n', l1', l2', r', wr', fl')) :
    Calls Try.prog 52 #[.agg #[.int .i64 n, .slice A1 l1.length c1, .slice A2 l2.length c2, .int .i64 r, .int .i64 wr, .int .i64 fl], .slice A0 l0.length c0] w fun e w' => ∃ A1' c1' A2' c2', e = .returned (.agg #[.int .i64 n', .slice A1' l1'.length c1', .slice A2' l2'.length c2', .int .i64 r', .int .i64 wr', .int .i64 fl']) ∧ Sep w0 w' (refT (.slice A1' l1'.length c1') (.slice A2' l2'.length c2') l1' l2' :: L) := by
  obtain ⟨F, g1, g2, g3, put⟩ := h.ref_put
  refine (kilnref3_Crash.calls k n F A1 c1 l1 F A2 c2 l2 r wr fl A0 c0 l0 n' l1' l2' r' wr' fl' w (Kd.V_mono g1 (fun _ h => h)) (Kd.V_mono g2 (fun _ h => h)) hC hc hf).mono ?_
  rintro e w' ⟨v1, v2, he, h1, h2, hb⟩
  obtain ⟨A1', c1', rfl⟩ := Kd.V_slice h1
  have h2 := Kd.N_V (base' := 0) h2
  obtain ⟨A2', c2', rfl⟩ := Kd.V_slice h2
  exact ⟨A1', c1', A2', c2', he, put w' _ _ _ _ _ _ _ _ h1 h2 (fun k hk => hk.1.imp (fun h => h.elim id id) id) (fun k hk => hk.imp (fun h => h.elim id id) id) hb⟩
theorem Sep.rRead (h : Sep w0 w (refT (.slice A1 l1.length c1) (.slice A2 l2.length c2) l1 l2 :: L)) (k : Nat) (n r wr fl a1 : Int) (n' : Int) (l1' l2' : List S106) (r' wr' fl' : Int) (b7 : List Int) (e8 : Int) (hf : kilnref3_Read.f k n l1 l2 r wr fl a1 = some (n', l1', l2', r', wr', fl', b7, e8)) :
    Calls Try.prog 48 #[.agg #[.int .i64 n, .slice A1 l1.length c1, .slice A2 l2.length c2, .int .i64 r, .int .i64 wr, .int .i64 fl], .int .i64 a1] w fun e w' => ∃ A1' c1' A2' c2' A7 c7, e = .returned (.tuple #[.agg #[.int .i64 n', .slice A1' l1'.length c1', .slice A2' l2'.length c2', .int .i64 r', .int .i64 wr', .int .i64 fl'], .slice A7 b7.length c7, .int .i64 e8]) ∧ Sep w0 w' (ownT (Kd.int .u8) 5 (.slice A7 b7.length c7) b7 :: refT (.slice A1' l1'.length c1') (.slice A2' l2'.length c2') l1' l2' :: L) := by
  obtain ⟨F, ⟨g1, g2, g3⟩, hF0, back⟩ := h.open_
  refine (kilnref3_Read.calls k n F A1 c1 l1 F A2 c2 l2 r wr fl a1 n' l1' l2' r' wr' fl' b7 e8 w (Kd.V_mono g1 (fun _ h => h)) (Kd.V_mono g2 (fun _ h => h)) hf).mono ?_
  rintro e w' ⟨v1, v2, v7, he, h1, h2, h7, hb⟩
  obtain ⟨A1', c1', rfl⟩ := Kd.V_slice h1
  obtain ⟨A2', c2', rfl⟩ := Kd.V_slice h2
  obtain ⟨A7, c7, rfl⟩ := Kd.R_slice h7
  refine ⟨A1', c1', A2', c2', A7, c7, he, back [ownT (Kd.int .u8) 5 _ b7, refT _ _ l1' l2'] w' ⟨fun k => (Value.slice A7 b7.length c7).ownBlock = some k ∧ k < w'.heap.size, ⟨⟨0, Kd.R_mono (Kd.R_bound (Kd.R_lower (Kd.R_tight rfl h7) (Nat.zero_le _))) (fun k hk => ⟨hk.1.symm, hk.2.2.1⟩)⟩, fun b hb => hb.2⟩, fun b hb => .inr (h7.1 b hb.1), fun k => (((F k ∨ w.heap.size ≤ k) ∧ some k ≠ (Value.slice A7 b7.length c7).ownBlock) ∧ k < w'.heap.size), ⟨Kd.V_mono (Kd.V_bound (Kd.V_lower h1 (Nat.zero_le _))) (fun k hk => ⟨⟨hk.1.1.imp (fun h => h.elim id id) id, hk.1.2⟩, hk.2⟩), Kd.V_mono (Kd.V_bound (Kd.V_lower h2 (Nat.zero_le _))) (fun k hk => ⟨⟨hk.1.1.imp (fun h => h.elim id id) id, hk.1.2⟩, hk.2⟩), fun b hb => hb.2⟩, fun b hb => ⟨hb.1.1, fun hx => hb.1.2 hx.1.symm⟩, trivial⟩ (Chg.of_below hb)⟩
theorem Sep.rNew (h : Sep w0 w L) (a : Int) (n' : Int) (l1' l2' : List S106) (r' wr' fl' e7 : Int) (hf : kilnref3_New.f a = some (n', l1', l2', r', wr', fl', e7)) :
    Calls Try.prog 47 #[.int .i64 a] w fun e w' => ∃ A1' c1' A2' c2', e = .returned (.tuple #[.agg #[.int .i64 n', .slice A1' l1'.length c1', .slice A2' l2'.length c2', .int .i64 r', .int .i64 wr', .int .i64 fl'], .int .i64 e7]) ∧ Sep w0 w' (refT (.slice A1' l1'.length c1') (.slice A2' l2'.length c2') l1' l2' :: L) := by
  refine (kilnref3_New.calls a n' l1' l2' r' wr' fl' e7 w hf).mono ?_
  rintro e w' ⟨v1, v2, he, h1, h2, hb⟩
  obtain ⟨A1', c1', rfl⟩ := Kd.S_slice h1
  obtain ⟨A2', c2', rfl⟩ := Kd.S_slice h2
  exact ⟨A1', c1', A2', c2', he, h.ref_new (b1 := 0) (b2 := 0) h1 h2 hb⟩
theorem Sep.rLoad (h : Sep w0 w L) (k : Nat) (A0 : Option Addr) (c0 : Nat) (l0 : List (List Int)) (hC : Kd.C KB w A0 l0.length l0) (hc : l0.length ≤ c0) (n' : Int) (l1' l2' : List S106) (r' wr' fl' e7 : Int) (hf : kilnref3_Load.f k l0 = some (n', l1', l2', r', wr', fl', e7)) :
    Calls Try.prog 40 #[.slice A0 l0.length c0] w fun e w' => ∃ A1' c1' A2' c2', e = .returned (.tuple #[.agg #[.int .i64 n', .slice A1' l1'.length c1', .slice A2' l2'.length c2', .int .i64 r', .int .i64 wr', .int .i64 fl'], .int .i64 e7]) ∧ Sep w0 w' (refT (.slice A1' l1'.length c1') (.slice A2' l2'.length c2') l1' l2' :: L) := by
  refine (kilnref3_Load.calls k A0 c0 l0 n' l1' l2' r' wr' fl' e7 w hC hc hf).mono ?_
  rintro e w' ⟨v1, v2, he, h1, h2, hb⟩
  obtain ⟨A1', c1', rfl⟩ := Kd.S_slice h1
  obtain ⟨A2', c2', rfl⟩ := Kd.S_slice h2
  exact ⟨A1', c1', A2', c2', he, h.ref_new (b1 := 0) (b2 := 0) h1 h2 hb⟩
end
end Go.Proofs.Ytddnhcnkjcdfgaa.M

namespace Go.Proofs.Ytddnhcnkjcdfgaa.M
open Go.RowKit Go.Maps Go.Proofs.YtddnhcnkjcdfgaaW.PrintWords Go.Proofs.YtddnhcnkjcdfgaaW.PrintLast Go.Proofs.YtddnhcnkjcdfgaaW.PrintMore
open Go.Proofs.Ytddnhcnkjcdfgaa.P hiding S106 k106 rd_T106 at_T106
open Go.Proofs.Ytddnhcnkjcdfgaa.R
set_option linter.unusedVariables false
set_option linter.unusedSimpArgs false
theorem Sep.nest {w0 w w' : World} {L : List Th} {t : Th} (h : Sep w0 w L) (h2 : Sep w w' [t]) : Sep w0 w' (t :: L) := by
  obtain ⟨F, h3, h4⟩ := h2.get
  exact h.push h2.below h3 h4
def zl (n : Nat) : Nat → List (List Int)
  | 0 => List.replicate n []
  | i + 1 => (zl n i).set i zeros
def imL (n : Nat) (l : List S106) : Nat → List (List Int)
  | 0 => zl n n
  | j + 1 => (imL n l j).set (rd_T106 l (j : Int)).f0.toNat (rd_T106 l (j : Int)).f1
def rimg9_T : Bool × List (List Nat × List Nat) := (true, [([], []), ([], []), ([1], [1]), ([], []), ([2, 3], [2, 3]), ([4], [4]), ([5], [5]), ([], []), ([7], [7]), ([], []), ([8, 9], [8, 9]), ([10], [10]), ([11], [11]), ([12], [12]), ([0, 6, 0, 1, 2, 3, 4, 5, 6, 7, 8, 9, 10, 11, 12, 13], [0, 6]), ([14, 13, 13, 0, 1, 2, 3, 4, 5, 6, 7, 8, 9, 10, 11, 12, 13], [13, 14])])
def rimg9_B : List Nat := [0, 0, 2, 0, 14, 30, 62, 0, 128, 0, 896, 1920, 3968, 8064, 16383, 32767]
theorem rimg9_tab : rtab .any (opsOf Try.f54 9) = rimg9_T := by kernel_rfl
theorem rimg9_bits : waitsOk rimg9_T.2 rimg9_B = true := by kernel_rfl
set_option maxHeartbeats 8000000 in
set_option maxRecDepth 100000 in
theorem rImage_calls (A1 : Option Addr) (c1 : Nat) (l1 : List S106) (A2 : Option Addr) (m2 c2 : Nat) (n : Nat) (r wr0 fl : Int) (w : World) (hC : Kd.C k106 w A1 l1.length l1) (hc1 : l1.length ≤ c1) (hn2 : 2 ≤ n) (hnm : n ≤ 65536) (hl : l1.length ≤ 1000000000)
    (hg : ∀ j, j < l1.length → (∃ i : Nat, i < n ∧ (rd_T106 l1 (j : Int)).f0 = (i : Int)) ∧ (rd_T106 l1 (j : Int)).f1.length ≤ 1000000) :
    Calls Try.prog 54 #[.agg #[.int .i64 (n : Int), .slice A1 l1.length c1, .slice A2 m2 c2, .int .i64 r, .int .i64 wr0, .int .i64 fl]] w fun e w' => ∃ go c, e = .returned (.slice (some ⟨go, 0, none⟩) n c) ∧ Sep w w' [ownT KB 28 (.slice (some ⟨go, 0, none⟩) n c) (imL n l1 l1.length)] := by
  have HC := Aside0.mk hC
  have HZ := Aside0.mk (fun W => kilnref3_Zeros.calls zeros W (show kilnref3_Zeros.f = some zeros from if_pos (by decide)))
  have HG := Aside0.mk hg
  have HS0 := Aside0.mk ((Sep.refl w).push_alloc #[.int .i64 (n : Int), .slice A1 l1.length c1, .slice A2 m2 c2, .int .i64 r, .int .i64 wr0, .int .i64 fl] 76)
  clear hC hg
  go_enter Try.func54, Try.ntmps54
  go_upto_region 1 with (fail)
  generalize w.alloc (.cells #[.int .i64 (n : Int), .slice A1 l1.length c1, .slice A2 m2 c2, .int .i64 r, .int .i64 wr0, .int .i64 fl] 76) = w1 at HS0 ⊢
  generalize w.heap.size = gb at HS0 ⊢
  have hb0 : w1.cell? ⟨gb, 0, none⟩ = some (.int .i64 (n : Int)) := blk_cell HS0.out.cells.1 0
  go_upto_region 2 with (at_make; refine Kd.R_make KB (w0 := w1) w1.heap.size 28 rfl (N := 8) rfl 37 (.tmp 7) (.tmp 7) rfl (n : Int) rfl rfl Try.underlying37 (.slice none 0 0) 24 info28 rfl (by decide) (by decide) [] (ok := fun _ => True) (okp := fun _ => False) ⟨_, rfl, Kd.R_nil _ _ _ _ _⟩ (fun _ h => h.elim) trivial (by omega) (by omega) (Below.refl _ _) (Nat.le_refl _) ?_; intro vw w2 hr hb hg hat; have HR2 := Aside0.mk hr; have HB2 := Aside0.mk hb; clear hr hb hg hat)
  have h2_ := HS0.out.push_own HR2.out HB2.out
  rw [Int.toNat_natCast] at h2_
  obtain ⟨bw, cw, e2, _, _, _⟩ := Kd.R_form HR2.out (by rw [List.length_replicate]; omega)
  rw [List.length_replicate, Int.toNat_natCast] at e2
  subst e2
  have HS2 := Aside0.mk h2_
  clear h2_ HR2 HB2 HS0 hb0
  go_wp2
  go_loopg [4] n (fun kq v4 wr => ∃ i : Nat, v4 = .int .i64 i ∧ Aside0 (i + kq = n) ∧ Aside0 (Sep w wr [ownT KB 28 (.slice (some ⟨bw, 0, none⟩) n cw) (zl n i), cellsT gb #[.int .i64 (n : Int), .slice A1 l1.length c1, .slice A2 m2 c2, .int .i64 r, .int .i64 wr0, .int .i64 fl] 76]))
  case atStart => exact ⟨0, rfl, ⟨Nat.zero_add _⟩, HS2⟩
  case round =>
    clear HS2
    obtain ⟨i, rfl, HI0, HS⟩ := hrel
    rename World => wr
    have hb0 : wr.cell? ⟨gb, 0, none⟩ = some (.int .i64 (n : Int)) := blk_cell HS.out.up1.cells.1 0
    by_cases hi : i < n
    · have hib : decide (i < n) = true := decide_eq_true hi
      have hi0 : (0 : Int) ≤ (i : Int) := by omega
      have hi1 : (i : Int) < (n : Int) := by omega
      have HI := Aside0.mk hi
      clear hi
      go_wp2_with (go_at_call 64; (with_reducible refine (HZ.out _).mono ?_); rintro e w5 ⟨v5, rfl, hr, hb⟩; obtain ⟨A5, c5, e5⟩ := Kd.R_slice hr; subst e5; have HS5 := Aside0.mk (HS.out.push_own hr hb); obtain ⟨A_, c_, hsl, hfz, _⟩ := HS5.out.up1.slot i HI.out; clear hr hb)
      have HSn := Aside0.mk (show Sep w _ [ownT KB 28 (.slice (some ⟨bw, 0, none⟩) n cw) (zl n (i + 1)), cellsT gb #[.int .i64 (n : Int), .slice A1 l1.length c1, .slice A2 m2 c2, .int .i64 r, .int .i64 wr0, .int .i64 fl] 76] from HS5.out.put_row i HI.out)
      clear hsl hfz hb0 HS HS5
      go_roundg (n - i - 1)
      case measure => have := HI0.out; have := HI.out; omega
      case rel => exact ⟨i + 1, (by have hi_ := HI.out; have hl_ := hnm; first | rfl | (simp; done)), ⟨by have := HI0.out; have := HI.out; omega⟩, HSn⟩
    · have hib : decide (i < n) = false := decide_eq_false hi
      obtain rfl : n = i := by have := HI0.out; omega
      clear hi
      have HS3 := Aside0.mk (show Sep w wr [ownT KB 28 (.slice (some ⟨bw, 0, none⟩) n cw) (imL n l1 0), cellsT gb #[.int .i64 (n : Int), .slice A1 l1.length c1, .slice A2 m2 c2, .int .i64 r, .int .i64 wr0, .int .i64 fl] 76] from HS.out)
      clear HS
      go_wp2
      go_loopg [5] l1.length (fun kq v5 wr => ∃ j : Nat, v5 = .int .i64 j ∧ Aside0 (j + kq = l1.length) ∧ Aside0 (Sep w wr [ownT KB 28 (.slice (some ⟨bw, 0, none⟩) n cw) (imL n l1 j), cellsT gb #[.int .i64 (n : Int), .slice A1 l1.length c1, .slice A2 m2 c2, .int .i64 r, .int .i64 wr0, .int .i64 fl] 76]))
      case atStart => exact ⟨0, rfl, ⟨Nat.zero_add _⟩, HS3⟩
      case round =>
        clear HS3 hb0 hib
        obtain ⟨j, rfl, HJ0, HS⟩ := hrel
        rename World => wr
        have hb1 : wr.cell? ⟨gb, 1, none⟩ = some (.slice A1 l1.length c1) := blk_cell HS.out.up1.cells.1 1
        by_cases hj : j < l1.length
        · have hjb : decide (j < l1.length) = true := decide_eq_true hj
          have hj0 : (0 : Int) ≤ (j : Int) := by omega
          have hj1 : (j : Int) < (l1.length : Int) := by omega
          obtain ⟨⟨i, hi, hf0⟩, hf1⟩ := HG.out j hj
          obtain ⟨ad, A7, c7, e1, hx0, hx1, hl7, hC7⟩ := at_T106 (Kd.C_below HC.out HS.out.below) (j : Int) hj0 hj1
          subst e1
          rw [hf0] at hx0
          rw [Int.toNat_natCast] at hx0 hx1
          have HK := Aside0.mk (fun W (hW : Below wr.heap.size wr W) => (show W.cell? ⟨gb, 1, none⟩ = some (.slice (some ad) l1.length c1) ∧ W.cell? (ad.add (j * 2)) = some (.int .i64 (i : Int)) ∧ W.cell? ⟨(ad.add (j * 2)).block, (ad.add (j * 2)).off + 1, none⟩ = some (.slice A7 (rd_T106 l1 (j : Int)).f1.length c7) from
            ⟨(hW.cell (World.block_lt_of_cell? wr _ hb1)).trans hb1, (hW.cell (World.block_lt_of_cell? wr _ hx0)).trans hx0, (hW.cell (World.block_lt_of_cell? wr _ hx1)).trans hx1⟩))
          have HCP := Aside0.mk (fun W (hW : Below wr.heap.size wr W) => kilnref3_Copy.calls A7 c7 (rd_T106 l1 (j : Int)).f1 _ W (Kd.C_below hC7 hW) hl7 (show kilnref3_Copy.f _ = some (rd_T106 l1 (j : Int)).f1 from if_pos (by omega)))
          have HF0 := Aside0.mk (show (rd_T106 l1 (j : Int)).f0.toNat = i from by rw [hf0]; rfl)
          have HI := Aside0.mk hi
          have hi0 : (0 : Int) ≤ (i : Int) := by omega
          have hi1 : (i : Int) < (n : Int) := by omega
          have HJ := Aside0.mk hj
          clear hj hi hf0 hx0 hx1 hl7 hC7
          go_upto_region 9 with (fail)
          have HB := Aside0.mk (below_drew1 (Below.refl wr.heap.size wr))
          refine start_ (n := 16) (S := fun W => W.cell? ⟨gb, 1, none⟩ = some (.slice (some ad) l1.length c1) ∧ W.cell? (ad.add (j * 2)) = some (.int .i64 (i : Int)) ∧ W.cell? ⟨(ad.add (j * 2)).block, (ad.add (j * 2)).off + 1, none⟩ = some (.slice A7 (rd_T106 l1 (j : Int)).f1.length c7)) (ds := [15]) (bb 16 0) (by kernel_rfl) rfl rfl (HK.out _ HB.out) (fun hHeld => ?_); refine with_tabW rimg9_tab rimg9_bits (fun HT_ HW_ => ?_)
          generalize wr.drew = wd at hHeld HB ⊢
          refine pure_ (i := 0) (N := (some 26)) (v := ?_) (a' := ?_) (bb 16 1) rfl rfl (any_of HT_.out (by kernel_rfl)) (fun _ _ _ h => h) (Or.inl ⟨by rfl, ?_⟩) ?_ ?_
          rotate_left
          · intro w'
            go_simp
            with_reducible rfl
          rotate_left
          · simp only [Act.put, List.setIfInBounds_toArray, List.set_cons_zero, List.set_cons_succ, i64_w, i32_w]
            rfl
          refine pure_ (i := 1) (N := (some 27)) (v := ?_) (a' := ?_) (bb 16 3) rfl rfl (any_of HT_.out (by kernel_rfl)) (fun _ _ _ h => h) (Or.inl ⟨by rfl, ?_⟩) ?_ ?_
          rotate_left
          · intro w'
            go_simp
            with_reducible rfl
          rotate_left
          · simp only [Act.put, List.setIfInBounds_toArray, List.set_cons_zero, List.set_cons_succ, i64_w, i32_w]
            rfl
          refine take_ (i := 2) (N := (some 28)) (v := ?_) (a' := ?_) (bb 16 7) rfl rfl (take_ofW HT_.out HW_.out (by kernel_rfl)) (fun _ _ _ h => h) (Or.inl ⟨by rfl, ?_⟩) hHeld ?_ ?_
          rotate_left
          · intro w' s0
            (try dsimp only at s0)
            go_simp
            with_reducible rfl
          rotate_left
          · simp only [Act.put, List.setIfInBounds_toArray, List.set_cons_zero, List.set_cons_succ, i64_w, i32_w]
            rfl
          refine pure_ (i := 3) (N := (some 29)) (v := ?_) (a' := ?_) (bb 16 15) rfl rfl (any_of HT_.out (by kernel_rfl)) (fun _ _ _ h => h) (Or.inl ⟨by rfl, ?_⟩) ?_ ?_
          rotate_left
          · intro w'
            go_simp
            with_reducible rfl
          rotate_left
          · simp only [Act.put, List.setIfInBounds_toArray, List.set_cons_zero, List.set_cons_succ, i64_w, i32_w]
            rfl
          refine pure_ (i := 4) (N := (some 30)) (v := ?_) (a' := ?_) (bb 16 31) rfl rfl (any_of HT_.out (by kernel_rfl)) (fun _ _ _ h => h) (Or.inl ⟨by rfl, ?_⟩) ?_ ?_
          rotate_left
          · intro w'
            go_simp
            with_reducible rfl
          rotate_left
          · simp only [Act.put, List.setIfInBounds_toArray, List.set_cons_zero, List.set_cons_succ, i64_w, i32_w]
            rfl
          refine pure_ (i := 5) (N := (some 31)) (v := ?_) (a' := ?_) (bb 16 63) rfl rfl (any_of HT_.out (by kernel_rfl)) (fun _ _ _ h => h) (Or.inl ⟨by rfl, ?_⟩) ?_ ?_
          rotate_left
          · intro w'
            go_simp
            with_reducible rfl
          rotate_left
          · simp only [Act.put, List.setIfInBounds_toArray, List.set_cons_zero, List.set_cons_succ, i64_w, i32_w]
            rfl
          refine take_ (i := 6) (N := (some 32)) (v := ?_) (a' := ?_) (bb 16 127) rfl rfl (take_ofW HT_.out HW_.out (by kernel_rfl)) (fun _ _ _ h => h) (Or.inl ⟨by rfl, ?_⟩) hHeld ?_ ?_
          rotate_left
          · intro w' s0
            (try dsimp only at s0)
            go_simp
            with_reducible rfl
          rotate_left
          · simp only [Act.put, List.setIfInBounds_toArray, List.set_cons_zero, List.set_cons_succ, i64_w, i32_w]
            rfl
          refine pure_ (i := 7) (N := (some 33)) (v := ?_) (a' := ?_) (bb 16 255) rfl rfl (any_of HT_.out (by kernel_rfl)) (fun _ _ _ h => h) (Or.inl ⟨by rfl, ?_⟩) ?_ ?_
          rotate_left
          · intro w'
            go_simp
            with_reducible rfl
          rotate_left
          · simp only [Act.put, List.setIfInBounds_toArray, List.set_cons_zero, List.set_cons_succ, i64_w, i32_w]
            rfl
          refine take_ (i := 8) (N := (some 34)) (v := ?_) (a' := ?_) (bb 16 511) rfl rfl (take_ofW HT_.out HW_.out (by kernel_rfl)) (fun _ _ _ h => h) (Or.inl ⟨by rfl, ?_⟩) hHeld ?_ ?_
          rotate_left
          · intro w' s0
            (try dsimp only at s0)
            go_simp
            with_reducible rfl
          rotate_left
          · simp only [Act.put, List.setIfInBounds_toArray, List.set_cons_zero, List.set_cons_succ, i64_w, i32_w]
            rfl
          refine pure_ (i := 9) (N := (some 35)) (v := ?_) (a' := ?_) (bb 16 1023) rfl rfl (any_of HT_.out (by kernel_rfl)) (fun _ _ _ h => h) (Or.inl ⟨by rfl, ?_⟩) ?_ ?_
          rotate_left
          · intro w'
            go_simp
            with_reducible rfl
          rotate_left
          · simp only [Act.put, List.setIfInBounds_toArray, List.set_cons_zero, List.set_cons_succ, i64_w, i32_w]
            rfl
          refine pure_ (i := 10) (N := (some 36)) (v := ?_) (a' := ?_) (bb 16 2047) rfl rfl (any_of HT_.out (by kernel_rfl)) (fun _ _ _ h => h) (Or.inl ⟨by rfl, ?_⟩) ?_ ?_
          rotate_left
          · intro w'
            go_simp
            with_reducible rfl
          rotate_left
          · simp only [Act.put, List.setIfInBounds_toArray, List.set_cons_zero, List.set_cons_succ, i64_w, i32_w]
            rfl
          refine pure_ (i := 11) (N := (some 37)) (v := ?_) (a' := ?_) (bb 16 4095) rfl rfl (any_of HT_.out (by kernel_rfl)) (fun _ _ _ h => h) (Or.inl ⟨by rfl, ?_⟩) ?_ ?_
          rotate_left
          · intro w'
            go_simp
            with_reducible rfl
          rotate_left
          · simp only [Act.put, List.setIfInBounds_toArray, List.set_cons_zero, List.set_cons_succ, i64_w, i32_w]
            rfl
          refine take_ (i := 12) (N := (some 38)) (v := ?_) (a' := ?_) (bb 16 8191) rfl rfl (take_ofW HT_.out HW_.out (by kernel_rfl)) (fun _ _ _ h => h) (Or.inl ⟨by rfl, ?_⟩) hHeld ?_ ?_
          rotate_left
          · intro w' s0
            (try dsimp only at s0)
            go_simp
            with_reducible rfl
          rotate_left
          · simp only [Act.put, List.setIfInBounds_toArray, List.set_cons_zero, List.set_cons_succ, i64_w, i32_w]
            rfl
          refine one_ (i := 13) (N := (some 39)) (bb 16 16383) rfl rfl (one_of HT_.out (by kernel_rfl)) (by decide) (fun K hK => ?_)
          refine goes_ Try.func55 (by kernel_rfl) rfl #[.slice A7 (rd_T106 l1 (j : Int)).f1.length c7] (by rfl) rfl rfl (by (try simp only [List.map_toArray, List.map_cons, List.map_nil]); first | done | rfl) ?_
          with_reducible refine (HCP.out _ HB.out).mono ?_
          rintro e w6 ⟨v6, rfl, hr, hb⟩
          obtain ⟨A6, c6, e6⟩ := Kd.R_slice hr
          subst e6
          have HB6 := Aside0.mk (show Below wr.heap.size wr w6 from below_step HB.out hb)
          have HS6 := Aside0.mk ((HS.out.step HB.out).push_own hr hb)
          obtain ⟨A_, c_, hsl, hfz, _⟩ := HS6.out.up1.slot i HI.out
          clear hr hb
          refine ⟨_, rfl, ?_⟩
          refine hK.out _ _ (HK.out _ HB6.out) (fun hHeld => ?_)
          clear hK K
          refine norm_ (a' := ?_) ?_ ?_
          rotate_left
          · show Act.put _ (some 39) _ = _
            simp only [Act.put, List.setIfInBounds_toArray, List.set_cons_zero, List.set_cons_succ, i64_w, i32_w]
            rfl
          refine pure_ (i := 14) (N := (some 40)) (v := ?_) (a' := ?_) (bb 16 32767) rfl rfl (any_of HT_.out (by kernel_rfl)) (fun _ _ _ h => h) (Or.inl ⟨by rfl, ?_⟩) ?_ ?_
          rotate_left
          · intro w'
            go_simp
            with_reducible rfl
          rotate_left
          · simp only [Act.put, List.setIfInBounds_toArray, List.set_cons_zero, List.set_cons_succ, i64_w, i32_w]
            rfl
          refine last_ (i := 15) (N := none) (bb 16 65535) rfl rfl (one_of HT_.out (by kernel_rfl)) (by decide) (fun K hK => ?_)
          refine skip_ (w1 := ?_) (by rfl) rfl ?_ ?_
          rotate_left
          · go_simp
            first | rfl | (constructor <;> rfl)
          refine hK.out _ _ ?_
          clear hK K
          refine done_ (done_of HT_.out (by kernel_rfl)) ?_
          have HSn := Aside0.mk (show Sep w _ [ownT KB 28 (.slice (some ⟨bw, 0, none⟩) n cw) (imL n l1 (j + 1)), cellsT gb #[.int .i64 (n : Int), .slice (some ad) l1.length c1, .slice A2 m2 c2, .int .i64 r, .int .i64 wr0, .int .i64 fl] 76] from by
            unfold imL
            rw [HF0.out]
            exact HS6.out.put_row i HI.out)
          clear hHeld HB HB6 HK HCP HS HS6 hsl hfz hb1
          go_wp2
          go_roundg (l1.length - j - 1)
          case measure => have := HJ0.out; have := HJ.out; omega
          case rel => exact ⟨j + 1, (by have hi_ := HJ.out; have hl_ := hl; first | rfl | (simp; done)), ⟨by have := HJ0.out; have := HJ.out; omega⟩, HSn⟩
        · have hjb : decide (j < l1.length) = false := decide_eq_false hj
          obtain rfl : j = l1.length := by have := HJ0.out; omega
          clear hj
          go_wp2
          go_ret
          exact ⟨bw, cw, rfl, HS.out.sel 2 [0] _ rfl (by decide) rfl⟩
end Go.Proofs.Ytddnhcnkjcdfgaa.M

namespace Go.Proofs.Ytddnhcnkjcdfgaa.M
open Go.RowKit Go.Maps Go.Proofs.YtddnhcnkjcdfgaaW.PrintWords Go.Proofs.YtddnhcnkjcdfgaaW.PrintLast Go.Proofs.YtddnhcnkjcdfgaaW.PrintMore
open Go.Proofs.Ytddnhcnkjcdfgaa.P
set_option linter.unusedVariables false
set_option linter.unusedSimpArgs false
def Byt (l : List Int) : Prop := ∀ b ∈ l, 0 ≤ b ∧ b < 256
theorem Byt.get {l : List Int} (h : Byt l) (q : Nat) : 0 ≤ l.getD q 0 ∧ l.getD q 0 < 256 := by
  rw [List.getD_eq_getElem?_getD]
  by_cases e : q < l.length
  · rw [List.getElem?_eq_getElem e]; exact h _ (List.getElem_mem e)
  · rw [List.getElem?_eq_none (by omega)]; decide
theorem Byt.set {l : List Int} (h : Byt l) (q : Nat) (v : Int) (hv : 0 ≤ v ∧ v < 256) : Byt (l.set q v) := by
  intro b hb
  rcases List.mem_or_eq_of_mem_set hb with e | e
  · exact h b e
  · rw [e]; exact hv
theorem byt_zeros : Byt zeros := fun b hb => by rw [List.eq_of_mem_replicate hb]; decide
def BytS (l : List S30) : Prop := ∀ x ∈ l, Byt x.f1
theorem BytS.get {l : List S30} (h : BytS l) (j : Nat) (hj : j < l.length) : Byt (rd_T30 l (j : Int)).f1 := by
  unfold rd_T30
  rw [Int.toNat_natCast, List.getD_eq_getElem?_getD, List.getElem?_eq_getElem hj]
  exact h _ (List.getElem_mem hj)
def Sec (l : List Int) : Prop := l.length = 512 ∧ Byt l
structure DOk (s : DS) : Prop where
  len : s.L.length = s.n
  L : ∀ x ∈ s.L, Sec x
  W : ∀ i, i < s.n → ∀ x ∈ s.W i, Sec x
theorem DOk.getL {s : DS} (h : DOk s) (i : Nat) (hi : i < s.n) : Sec (s.L.getD i []) := by
  rw [List.getD_eq_getElem?_getD, List.getElem?_eq_getElem (by rw [h.len]; exact hi)]
  exact h.L _ (List.getElem_mem _)
theorem DOk.cur {s : DS} (h : DOk s) (i : Nat) (hi : i < s.n) : Sec (s.cur i) := by
  by_cases e : s.W i = []
  · rw [cur_nil e]; exact h.getL i hi
  · rw [cur_last e, List.getD_eq_getElem?_getD, List.getElem?_eq_getElem (by have := List.length_pos_iff.2 e; omega)]
    exact h.W i hi _ (List.getElem_mem _)
theorem DOk.fresh (n : Nat) : DOk (DS.fresh n (List.replicate n zeros)) :=
  ⟨List.length_replicate, fun x hx => by rw [List.eq_of_mem_replicate hx]; exact ⟨zeros_len, byt_zeros⟩, fun i _ x hx => by cases hx⟩
theorem DOk.put {s : DS} (h : DOk s) (i : Nat) (b : List Int) (hb : Sec b) : DOk (s.put i b) :=
  ⟨h.len, h.L, fun j hj x hx => by
    have hx : x ∈ (if j = i then s.W i ++ [b] else s.W j) := hx
    split at hx
    · rename_i e
      rcases List.mem_append.1 hx with h1 | h1
      · rw [← e] at h1; exact h.W j hj x h1
      · rw [List.mem_singleton.1 h1]; exact hb
    · exact h.W j hj x hx⟩
theorem DOk.flush {s : DS} (h : DOk s) : DOk s.flush :=
  ⟨by show ((List.range s.n).map s.cur).length = s.n; rw [List.length_map, List.length_range], fun x hx => by
    obtain ⟨i, hi, rfl⟩ := List.mem_map.1 (show x ∈ (List.range s.n).map s.cur from hx)
    exact h.cur i (List.mem_range.1 hi), fun i _ x hx => by cases hx⟩
theorem DOk.crash {s : DS} (h : DOk s) (fs : List Int) : DOk (s.crash fs) :=
  ⟨by show (crashL s fs _).length = s.n; rw [crashL_len]; exact h.len, fun x hx => by
    obtain ⟨i, hi⟩ := List.getElem?_of_mem (show x ∈ crashL s fs (min s.keysN.length fs.length) from hx)
    have hil : i < s.n := by have := (List.getElem?_eq_some_iff.1 hi).1; rw [crashL_len, h.len] at this; exact this
    have hx : x = (crashL s fs (min s.keysN.length fs.length)).getD i [] := by rw [List.getD_eq_getElem?_getD, hi]; rfl
    rcases crashL_is s fs i (min s.keysN.length fs.length) (Nat.min_le_left _ _) with e | e
    · rw [hx, e]; exact h.getL i hil
    · rw [hx]; exact h.W i hil _ e, fun i _ x hx => by cases hx⟩
theorem shl_msk (r : Nat) (h : r < 8) : shl .u8 1 (r : Int) = mskB r := by
  rcases r with _ | _ | _ | _ | _ | _ | _ | _ | r <;> first | rfl | decide | omega
theorem getD_set_at (l : List (List Int)) (i : Nat) (v : List Int) (h : i < l.length) : (l.set i v).getD i [] = v := by rw [List.getD_eq_getElem?_getD, List.getElem?_set_self h, Option.getD_some]
theorem same_l0 (l : List (List Int)) (hl : l.length ≤ 1000000) : ∀ m j, j + m = l.length → R.kilnref3_SameImage.l0 (m + 1) l l (j : Int) = some true
  | 0, j, h => by
    unfold R.kilnref3_SameImage.l0
    rw [if_neg (by omega)]
  | m + 1, j, h => by
    unfold R.kilnref3_SameImage.l0
    rw [if_pos (by omega), if_pos (by omega), if_pos (by omega), if_pos rfl, w64 _ (by omega) (by omega)]
    exact same_l0 l hl m (j + 1) (by omega)
theorem same_ok (l : List (List Int)) (hl : l.length ≤ 1000000) : R.kilnref3_SameImage.f (l.length + 1) l l = some true := by
  unfold R.kilnref3_SameImage.f
  rw [if_pos rfl]
  exact same_l0 l hl l.length 0 (by omega)
def BytW (l : List S30) : Prop := ∀ x ∈ l, ∀ b ∈ x.f1, (Lit.int .u8 b).wf = true
theorem BytW.S {l : List S30} (h : BytW l) : BytS l := fun x hx b hb => by
  have h1 := (Lit.wf_int_iff .u8 b).1 (h x hx b hb)
  have h2 : IntKind.min .u8 = 0 := rfl
  have h3 : IntKind.max .u8 = 255 := rfl
  rw [h2, h3] at h1
  omega
end Go.Proofs.Ytddnhcnkjcdfgaa.M
namespace Go.Proofs.Ytddnhcnkjcdfgaa.Bulk
open Go.ChangeShapes Go.WideShapes Go.Proofs.YtddnhcnkjcdfgaaW.PrintWords Go.Proofs.Ytddnhcnkjcdfgaa.M
section
variable {H : Type} {enc : TypeId × Value → H} {W : World} {base : Nat} {spare : Nat → Bool} {held : Bool}
end
end Go.Proofs.Ytddnhcnkjcdfgaa.Bulk

namespace Go.Proofs.Ytddnhcnkjcdfgaa.M
open Go.RowKit Go.Maps Go.Proofs.YtddnhcnkjcdfgaaW.PrintWords Go.Proofs.YtddnhcnkjcdfgaaW.PrintLast Go.Proofs.YtddnhcnkjcdfgaaW.PrintMore
open Go.Proofs.Ytddnhcnkjcdfgaa.P hiding S106 k106 rd_T106 at_T106
open Go.Proofs.Ytddnhcnkjcdfgaa.R
set_option linter.unusedVariables false
set_option linter.unusedSimpArgs false
theorem rd106 (l : List S106) (j : Nat) (h : j < l.length) : rd_T106 l (j : Int) = l[j] := by
  unfold rd_T106
  rw [Int.toNat_natCast, List.getD_eq_getElem?_getD, List.getElem?_eq_getElem h]
  rfl
def wOf (l : List S106) (n : Int) : List (List Int) := (l.filter (fun x => decide (x.f0 = n))).map (·.f1)
theorem wOf_snoc (l : List S106) (x : S106) (n : Int) : wOf (l ++ [x]) n = if x.f0 = n then wOf l n ++ [x.f1] else wOf l n := by
  unfold wOf
  rw [List.filter_append, List.map_append, List.filter_cons]
  by_cases e : x.f0 = n
  · rw [if_pos (by simpa using e), if_pos e]; rfl
  · rw [if_neg (by simpa using e), if_neg e]; simp
def lastR (l : List S106) (n : Int) : List Int := match (wOf l n).getLast? with | some b => b | none => zeros
theorem lastR_snoc (l : List S106) (x : S106) (n : Int) : lastR (l ++ [x]) n = if x.f0 = n then x.f1 else lastR l n := by
  unfold lastR
  rw [wOf_snoc]
  by_cases e : x.f0 = n
  · rw [if_pos e, if_pos e, List.getLast?_concat]
  · rw [if_neg e, if_neg e]
theorem wOf_filter (l : List S106) (a n : Int) (h : n ≠ a) : wOf (l.filter (fun x => decide (x.f0 ≠ a))) n = wOf l n := by
  unfold wOf
  rw [List.filter_filter]
  congr 1
  apply List.filter_congr
  intro x _
  by_cases e : x.f0 = n
  · rw [decide_eq_true e, decide_eq_true (show x.f0 ≠ a from fun e2 => h (e.symm.trans e2))]
    rfl
  · rw [decide_eq_false e, Bool.false_and]
theorem lastR_filter (l : List S106) (a n : Int) (h : n ≠ a) : lastR (l.filter (fun x => decide (x.f0 ≠ a))) n = lastR l n := by
  unfold lastR
  rw [wOf_filter l a n h]
def putR (l : List S106) (n : Int) (b : List Int) : List S106 := l.filter (fun x => decide (x.f0 ≠ n)) ++ [⟨n, b⟩]
theorem lastR_put (l : List S106) (a : Int) (b : List Int) (n : Int) : lastR (putR l a b) n = if a = n then b else lastR l n := by
  unfold putR
  rw [lastR_snoc]
  by_cases e : a = n
  · rw [if_pos e, if_pos e]
  · rw [if_neg e, if_neg e, lastR_filter l a n (fun h => e h.symm)]
theorem putR_len (l : List S106) (n : Int) (b : List Int) : (putR l n b).length ≤ l.length + 1 := by
  unfold putR
  rw [List.length_append, List.length_singleton]
  have := List.length_filter_le (fun x => decide (x.f0 ≠ n)) l
  omega
theorem take_succ106 (l : List S106) (j : Nat) (h : j < l.length) : l.take (j + 1) = l.take j ++ [l[j]] := List.take_succ_eq_append_getElem h
theorem put_l0 (l : List S106) (n : Int) (b : List Int) (hl : l.length ≤ 1000000) : ∀ m j, j + m = l.length → ∀ d, kilnref3_put.l0 (m + 1 + d) l n b ((l.take j).filter (fun x => decide (x.f0 ≠ n))) (j : Int) = some (putR l n b)
  | 0, j, h, d => by
    have hf := List.length_filter_le (fun x : S106 => decide (x.f0 ≠ n)) (l.take j)
    have ht := List.length_take_le j l
    rw [show 0 + 1 + d = d + 1 by omega]
    unfold kilnref3_put.l0
    rw [if_neg (by omega), if_pos (by omega), List.take_of_length_le (by omega)]
    rfl
  | m + 1, j, h, d => by
    have ih := put_l0 l n b hl m (j + 1) (by omega) d
    have hf := List.length_filter_le (fun x : S106 => decide (x.f0 ≠ n)) (l.take j)
    have ht := List.length_take_le j l
    rw [take_succ106 l j (by omega), List.filter_append] at ih
    rw [show m + 1 + 1 + d = (m + 1 + d) + 1 by omega]
    unfold kilnref3_put.l0
    rw [if_pos (by omega), if_pos (by omega), rd106 l j (by omega), w64 _ (by omega) (by omega)]
    by_cases e : l[j].f0 = n
    · rw [if_pos e]
      rw [List.filter_cons, if_neg (by simpa using e), List.filter_nil, List.append_nil] at ih
      exact ih
    · rw [if_neg e, if_pos (by omega)]
      rw [List.filter_cons, if_pos (by simpa using e), List.filter_nil] at ih
      exact ih
theorem put_ev (l : List S106) (n : Int) (b : List Int) (hl : l.length ≤ 1000000) : ∀ k, l.length + 1 ≤ k → kilnref3_put.f k l n b = some (putR l n b) := fun k hk => by
  have h := put_l0 l n b hl l.length 0 (by omega) (k - (l.length + 1))
  rw [show l.length + 1 + (k - (l.length + 1)) = k by omega] at h
  exact h
theorem lasts_l0 (l l2 : List S106) (n a r wr fl : Int) (hl : l.length ≤ 1000000) : ∀ m, m ≤ l.length → ∀ d, kilnref3_lasts.l0 (m + 1 + d) n ((m : Int) - 1) a l l2 r wr fl = some (lastR (l.take m) n)
  | 0, h, d => by
    rw [show 0 + 1 + d = d + 1 by omega]
    unfold kilnref3_lasts.l0
    rw [if_neg (by omega)]
    show (kilnref3_Zeros.f).bind _ = _
    rw [show kilnref3_Zeros.f = some zeros from if_pos (by decide)]
    rfl
  | m + 1, h, d => by
    have ih := lasts_l0 l l2 n a r wr fl hl m (by omega) d
    rw [show m + 1 + 1 + d = (m + 1 + d) + 1 by omega, take_succ106 l m (by omega), lastR_snoc]
    unfold kilnref3_lasts.l0
    rw [show ((m + 1 : Nat) : Int) - 1 = (m : Int) by omega, if_pos (by omega), if_pos (by omega), if_pos (by omega), rd106 l m (by omega)]
    by_cases e : l[m].f0 = n
    · rw [if_pos e, if_pos e]
    · rw [if_neg e, if_neg e, w64 _ (by omega) (by omega)]
      exact ih
theorem lasts_ev (l l2 : List S106) (n a r wr fl : Int) (hl : l.length ≤ 1000000) : ∀ k, l.length + 1 ≤ k → kilnref3_lasts.f k a l l2 r wr fl n = some (lastR l n) := fun k hk => by
  have h := lasts_l0 l l2 n a r wr fl hl l.length (Nat.le_refl _) (k - (l.length + 1))
  rw [show l.length + 1 + (k - (l.length + 1)) = k by omega, List.take_length] at h
  unfold kilnref3_lasts.f
  rw [w64 _ (by omega) (by omega)]
  exact h
def nowR (l1 l2 : List S106) (n : Int) : List Int := match (wOf l2 n).getLast? with | some b => b | none => lastR l1 n
theorem nowR_snoc (l1 l : List S106) (x : S106) (n : Int) : nowR l1 (l ++ [x]) n = if x.f0 = n then x.f1 else nowR l1 l n := by
  unfold nowR
  rw [wOf_snoc]
  by_cases e : x.f0 = n
  · rw [if_pos e, if_pos e, List.getLast?_concat]
  · rw [if_neg e, if_neg e]
def Sho (l : List S106) : Prop := ∀ x ∈ l, x.f1.length ≤ 1000000
theorem copy_ok (b : List Int) (h : b.length ≤ 1000000) : kilnref3_Copy.f b = some b := if_pos (by omega)
theorem now_l0 (l1 l2 : List S106) (n a r wr fl : Int) (h1 : l1.length ≤ 1000000) (h2 : l2.length ≤ 1000000) (hs : Sho l2) (hz : (lastR l1 n).length ≤ 1000000) : ∀ m, m ≤ l2.length → ∀ d, l1.length ≤ d → kilnref3_Now.l0 (m + 1 + (d + 1)) n ((m : Int) - 1) a l1 l2 r wr fl = some (nowR l1 (l2.take m) n)
  | 0, h, d, hd => by
    rw [show 0 + 1 + (d + 1) = (d + 1) + 1 by omega]
    unfold kilnref3_Now.l0
    rw [if_neg (by omega), lasts_ev l1 l2 n a r wr fl h1 (d + 1) (by omega), Option.bind_some, copy_ok _ hz]
    rfl
  | m + 1, h, d, hd => by
    have ih := now_l0 l1 l2 n a r wr fl h1 h2 hs hz m (by omega) d hd
    rw [show m + 1 + 1 + (d + 1) = (m + 1 + (d + 1)) + 1 by omega, take_succ106 l2 m (by omega), nowR_snoc]
    unfold kilnref3_Now.l0
    rw [show ((m + 1 : Nat) : Int) - 1 = (m : Int) by omega, if_pos (by omega), if_pos (by omega), if_pos (by omega), rd106 l2 m (by omega)]
    by_cases e : l2[m].f0 = n
    · rw [if_pos e, if_pos e, copy_ok _ (hs _ (List.getElem_mem _))]
      rfl
    · rw [if_neg e, if_neg e, w64 _ (by omega) (by omega)]
      exact ih
theorem now_ev (l1 l2 : List S106) (n a r wr fl : Int) (h1 : l1.length ≤ 1000000) (h2 : l2.length ≤ 1000000) (hs : Sho l2) (hz : (lastR l1 n).length ≤ 1000000) : ∀ k, l1.length + l2.length + 2 ≤ k → kilnref3_Now.f k a l1 l2 r wr fl n = some (nowR l1 l2 n) := fun k hk => by
  have h := now_l0 l1 l2 n a r wr fl h1 h2 hs hz l2.length (Nat.le_refl _) (k - (l2.length + 2)) (by omega)
  rw [show l2.length + 1 + (k - (l2.length + 2) + 1) = k by omega, List.take_length] at h
  unfold kilnref3_Now.f
  rw [w64 _ (by omega) (by omega)]
  exact h
end Go.Proofs.Ytddnhcnkjcdfgaa.M

namespace Go.Proofs.Ytddnhcnkjcdfgaa.M
open Go.RowKit Go.Maps Go.Proofs.YtddnhcnkjcdfgaaW.PrintWords Go.Proofs.YtddnhcnkjcdfgaaW.PrintLast Go.Proofs.YtddnhcnkjcdfgaaW.PrintMore
open Go.Proofs.Ytddnhcnkjcdfgaa.P hiding S106 k106 rd_T106 at_T106
open Go.Proofs.Ytddnhcnkjcdfgaa.R
set_option linter.unusedVariables false
set_option linter.unusedSimpArgs false
theorem read_ev (l1 l2 : List S106) (n i : Nat) (hi : i < n) (r wr fl : Int) (h1 : l1.length ≤ 1000000) (h2 : l2.length ≤ 1000000) (hs : Sho l2) (hz : (lastR l1 (i : Int)).length ≤ 1000000) : ∀ k, l1.length + l2.length + 2 ≤ k → kilnref3_Read.f k (n : Int) l1 l2 r wr fl (i : Int) = some ((n : Int), l1, l2, wrap64 (r + 1), wr, fl, nowR l1 l2 (i : Int), 0) := fun k hk => by
  unfold kilnref3_Read.f
  rw [if_neg (by omega), if_neg (by omega), now_ev l1 l2 (i : Int) (n : Int) _ wr fl h1 h2 hs hz k hk]
  rfl
theorem read_no (l1 l2 : List S106) (n : Nat) (a r wr fl : Int) (ha : ¬ (0 ≤ a ∧ a < (n : Int))) (k : Nat) : kilnref3_Read.f k (n : Int) l1 l2 r wr fl a = some ((n : Int), l1, l2, r, wr, fl, [], 31) := by
  unfold kilnref3_Read.f
  by_cases h : a < 0
  · rw [if_pos h]
  · rw [if_neg h, if_pos (by omega)]
theorem write_l0 (l1 l2 : List S106) (n a r wr fl : Int) (b : List Int) (hb : b.length ≤ 1000000) (h2 : l2.length ≤ 1000000) : ∀ m j, j + m = l2.length → ∀ d, kilnref3_Write.l0 (m + 1 + d) n b (l2.take j) (j : Int) a l1 l2 r wr fl = some (a, l1, l2 ++ [⟨n, b⟩], r, wrap64 (wr + 1), fl, 0)
  | 0, j, h, d => by
    rw [show 0 + 1 + d = d + 1 by omega, List.take_of_length_le (by omega)]
    unfold kilnref3_Write.l0
    rw [if_neg (by omega), copy_ok b hb, Option.bind_some, if_pos (by omega)]
  | m + 1, j, h, d => by
    have ih := write_l0 l1 l2 n a r wr fl b hb h2 m (j + 1) (by omega) d
    have ht := List.length_take_le j l2
    rw [take_succ106 l2 j (by omega)] at ih
    rw [show m + 1 + 1 + d = (m + 1 + d) + 1 by omega]
    unfold kilnref3_Write.l0
    rw [if_pos (by omega), if_pos (by omega), if_pos (by omega), rd106 l2 j (by omega), w64 _ (by omega) (by omega)]
    exact ih
theorem write_ev (l1 l2 : List S106) (n i : Nat) (hi : i < n) (r wr fl : Int) (b : List Int) (hb : b.length = 512) (h2 : l2.length ≤ 1000000) : ∀ k, l2.length + 2 ≤ k → kilnref3_Write.f k (n : Int) l1 l2 r wr fl (i : Int) b = some ((n : Int), l1, l2 ++ [⟨(i : Int), b⟩], r, wrap64 (wr + 1), fl, 0) := fun k hk => by
  have h := write_l0 l1 l2 (i : Int) (n : Int) r wr fl b (by omega) h2 l2.length 0 (by omega) (k - (l2.length + 2))
  obtain ⟨q, rfl⟩ : ∃ q, k = q + 1 := ⟨k - 1, by omega⟩
  rw [show l2.length + 1 + (q + 1 - (l2.length + 2)) = q by omega] at h
  unfold kilnref3_Write.f
  rw [if_neg (by omega), decide_eq_false (by omega)]
  rw [kilnref3_Write.j0.eq_2]
  rw [if_neg (by decide), if_pos (by omega)]
  exact h
theorem write_no (l1 l2 : List S106) (n : Nat) (a r wr fl : Int) (b : List Int) (ha : ¬ (0 ≤ a ∧ a < (n : Int))) (k : Nat) : kilnref3_Write.f (k + 1) (n : Int) l1 l2 r wr fl a b = some ((n : Int), l1, l2, r, wr, fl, 31) := by
  unfold kilnref3_Write.f
  by_cases h : a < 0
  · rw [if_pos h]
    rw [kilnref3_Write.j0.eq_2]
    rw [if_pos rfl]
  · rw [if_neg h, decide_eq_true (by omega)]
    rw [kilnref3_Write.j0.eq_2]
    rw [if_pos rfl]
theorem write_sz (l1 l2 : List S106) (n : Nat) (a r wr fl : Int) (b : List Int) (ha : 0 ≤ a ∧ a < (n : Int)) (hb : b.length ≠ 512) (k : Nat) : kilnref3_Write.f (k + 1) (n : Int) l1 l2 r wr fl a b = some ((n : Int), l1, l2, r, wr, fl, 32) := by
  unfold kilnref3_Write.f
  rw [if_neg (by omega), decide_eq_false (by omega)]
  rw [kilnref3_Write.j0.eq_2]
  rw [if_neg (by decide), if_neg (by omega)]
def flushR (l1 : List S106) : List S106 → List S106 := fun l2 => l2.foldl (fun l x => putR l x.f0 x.f1) l1
theorem flushR_snoc (l1 l : List S106) (x : S106) : flushR l1 (l ++ [x]) = putR (flushR l1 l) x.f0 x.f1 := by unfold flushR; rw [List.foldl_append]; rfl
theorem flushR_len (l1 l : List S106) : (flushR l1 l).length ≤ l1.length + l.length := by
  induction l generalizing l1 with
  | nil => exact Nat.le_refl _
  | cons x l ih =>
    have h := ih (putR l1 x.f0 x.f1)
    have h2 := putR_len l1 x.f0 x.f1
    show (flushR (putR l1 x.f0 x.f1) l).length ≤ _
    rw [List.length_cons]
    omega
theorem lastR_flush (l1 : List S106) (n : Int) (l2 : List S106) : ∀ m, m ≤ l2.length → lastR (flushR l1 (l2.take m)) n = nowR l1 (l2.take m) n
  | 0, _ => rfl
  | m + 1, h => by
    rw [take_succ106 l2 m (by omega), flushR_snoc, lastR_put, nowR_snoc, lastR_flush l1 n l2 m (by omega)]
theorem flush_l0 (l1 l2 : List S106) (a r wr fl : Int) (hl : l1.length + l2.length ≤ 1000000) : ∀ m j, j + m = l2.length → ∀ d, l1.length + l2.length + 1 ≤ d → kilnref3_Flush.l0 (m + 1 + d) (j : Int) a (flushR l1 (l2.take j)) l2 r wr fl = some (a, flushR l1 l2, [], r, wr, wrap64 (fl + 1))
  | 0, j, h, d, hd => by
    rw [show 0 + 1 + d = d + 1 by omega, List.take_of_length_le (by omega)]
    unfold kilnref3_Flush.l0
    rw [if_neg (by omega)]
  | m + 1, j, h, d, hd => by
    have ih := flush_l0 l1 l2 a r wr fl hl m (j + 1) (by omega) d hd
    have hfl := flushR_len l1 (l2.take j)
    have ht := List.length_take_le j l2
    have ht2 : (l2.take j).length ≤ l2.length := by rw [List.length_take]; omega
    rw [take_succ106 l2 j (by omega), flushR_snoc] at ih
    rw [show m + 1 + 1 + d = (m + 1 + d) + 1 by omega]
    unfold kilnref3_Flush.l0
    rw [if_pos (by omega), if_pos (by omega), rd106 l2 j (by omega), put_ev _ _ _ (by omega) _ (by omega), Option.bind_some, w64 _ (by omega) (by omega)]
    exact ih
theorem flush_ev (l1 l2 : List S106) (a r wr fl : Int) (hl : l1.length + l2.length ≤ 1000000) : ∀ k, 2 * (l1.length + l2.length) + 2 ≤ k → kilnref3_Flush.f k a l1 l2 r wr fl = some (a, flushR l1 l2, [], r, wr, wrap64 (fl + 1)) := fun k hk => by
  have h := flush_l0 l1 l2 a r wr fl hl l2.length 0 (by omega) (k - (l2.length + 1)) (by omega)
  rw [show l2.length + 1 + (k - (l2.length + 1)) = k by omega] at h
  exact h
theorem turned_ok (b : List Int) (hb : b.length = 512) (bit : Nat) (hbit : bit < 4096) : kilnref3_turned.f b (bit : Int) = some (flipL (bit / 8) (mskB (bit % 8)) b) := by
  have hd : Int.tdiv (bit : Int) 8 = ((bit / 8 : Nat) : Int) := by rw [Int.tdiv_eq_ediv_of_nonneg (by omega)]; omega
  have hr : Int.tmod (bit : Int) 8 = ((bit % 8 : Nat) : Int) := by rw [Int.tmod_eq_emod_of_nonneg (by omega)]; omega
  unfold kilnref3_turned.f
  rw [copy_ok b (by omega), Option.bind_some, hd, hr, w64 _ (by omega) (by omega), if_pos (by omega), if_pos (by omega), if_pos (by omega), shl_msk _ (by omega)]
  show some (b.set ((bit / 8 : Nat) : Int).toNat (bits .xor .u8 (b.getD ((bit / 8 : Nat) : Int).toNat 0) (mskB (bit % 8)))) = _
  rw [Int.toNat_natCast]
  rfl
def turnR (l : List S106) (i : Int) (bit : Nat) : List S106 := l.map (fun x => if x.f0 = i then ⟨i, flipL (bit / 8) (mskB (bit % 8)) x.f1⟩ else x)
theorem turn_l0 (l1 l2 : List S106) (n a r wr fl : Int) (bit : Nat) (hbit : bit < 4096) (h2 : l2.length ≤ 1000000) (hs : ∀ x ∈ l2, x.f1.length = 512) : ∀ m j, j + m = l2.length → ∀ d, kilnref3_Turn.l0 (m + 1 + d) n (bit : Int) (turnR (l2.take j) n bit) (j : Int) a l1 l2 r wr fl = some (a, l1, turnR l2 n bit, r, wr, fl, 0)
  | 0, j, h, d => by
    rw [show 0 + 1 + d = d + 1 by omega, List.take_of_length_le (by omega)]
    unfold kilnref3_Turn.l0
    rw [if_neg (by omega)]
  | m + 1, j, h, d => by
    have ih := turn_l0 l1 l2 n a r wr fl bit hbit h2 hs m (j + 1) (by omega) d
    have ht : (turnR (l2.take j) n bit).length ≤ j := by unfold turnR; rw [List.length_map]; exact List.length_take_le j l2
    have e : turnR (l2.take (j + 1)) n bit = turnR (l2.take j) n bit ++ [if l2[j].f0 = n then ⟨n, flipL (bit / 8) (mskB (bit % 8)) l2[j].f1⟩ else l2[j]] := by
      rw [take_succ106 l2 j (by omega)]
      unfold turnR
      rw [List.map_append]
      rfl
    rw [e] at ih
    rw [show m + 1 + 1 + d = (m + 1 + d) + 1 by omega]
    unfold kilnref3_Turn.l0
    rw [if_pos (by omega), if_pos (by omega), rd106 l2 j (by omega), w64 _ (by omega) (by omega)]
    by_cases e2 : l2[j].f0 = n
    · rw [if_pos e2, turned_ok _ (hs _ (List.getElem_mem _)) bit hbit, Option.bind_some, if_pos (by omega)]
      rw [if_pos e2] at ih
      exact ih
    · rw [if_neg e2, if_pos (by omega)]
      rw [if_neg e2] at ih
      exact ih
theorem turn_ev (l1 l2 : List S106) (n i bit : Nat) (hi : i < n) (hbit : bit < 4096) (r wr fl : Int) (hl : l1.length + l2.length ≤ 900000) (hs : ∀ x ∈ l2, x.f1.length = 512) (hz : (lastR l1 (i : Int)).length = 512) : ∀ k, l1.length + l2.length + 5 ≤ k → kilnref3_Turn.f k (n : Int) l1 l2 r wr fl (i : Int) (bit : Int) = some ((n : Int), putR l1 (i : Int) (flipL (bit / 8) (mskB (bit % 8)) (lastR l1 (i : Int))), turnR l2 (i : Int) bit, r, wr, fl, 0) := fun k hk => by
  obtain ⟨q, rfl⟩ : ∃ q, k = q + 2 := ⟨k - 2, by omega⟩
  have h := turn_l0 (putR l1 (i : Int) (flipL (bit / 8) (mskB (bit % 8)) (lastR l1 (i : Int)))) l2 (i : Int) (n : Int) r wr fl bit hbit (by omega) hs l2.length 0 (by omega) (q - (l2.length + 1))
  rw [show l2.length + 1 + (q - (l2.length + 1)) = q by omega] at h
  unfold kilnref3_Turn.f
  rw [if_neg (by omega), decide_eq_false (by omega)]
  rw [kilnref3_Turn.j0.eq_2]
  rw [if_neg (by decide), if_neg (by omega), decide_eq_false (by omega)]
  rw [kilnref3_Turn.j1.eq_2]
  rw [if_neg (by decide), lasts_ev l1 l2 (i : Int) (n : Int) r wr fl (by omega) q (by omega), Option.bind_some, turned_ok _ hz bit hbit, Option.bind_some, put_ev _ _ _ (by omega) q (by omega), Option.bind_some]
  exact h
theorem turn_no (l1 l2 : List S106) (n : Nat) (a b r wr fl : Int) (ha : ¬ (0 ≤ a ∧ a < (n : Int))) (k : Nat) : kilnref3_Turn.f (k + 1) (n : Int) l1 l2 r wr fl a b = some ((n : Int), l1, l2, r, wr, fl, 31) := by
  unfold kilnref3_Turn.f
  by_cases h : a < 0
  · rw [if_pos h]
    rw [kilnref3_Turn.j0.eq_2]
    rw [if_pos rfl]
  · rw [if_neg h, decide_eq_true (by omega)]
    rw [kilnref3_Turn.j0.eq_2]
    rw [if_pos rfl]
theorem turn_bt (l1 l2 : List S106) (n : Nat) (a b r wr fl : Int) (ha : 0 ≤ a ∧ a < (n : Int)) (hb : b < 0 ∨ 4096 ≤ b) (k : Nat) : kilnref3_Turn.f (k + 2) (n : Int) l1 l2 r wr fl a b = some ((n : Int), l1, l2, r, wr, fl, 1) := by
  unfold kilnref3_Turn.f
  rw [if_neg (by omega), decide_eq_false (by omega)]
  rw [kilnref3_Turn.j0.eq_2]
  rw [if_neg (by decide)]
  by_cases h : b < 0
  · rw [if_pos h]
    rw [kilnref3_Turn.j1.eq_2]
    rw [if_pos rfl]
  · rw [if_neg h, decide_eq_true (by omega)]
    rw [kilnref3_Turn.j1.eq_2]
    rw [if_pos rfl]
end Go.Proofs.Ytddnhcnkjcdfgaa.M

namespace Go.Proofs.Ytddnhcnkjcdfgaa.M
open Go.RowKit Go.Maps Go.Proofs.YtddnhcnkjcdfgaaW.PrintWords Go.Proofs.YtddnhcnkjcdfgaaW.PrintLast Go.Proofs.YtddnhcnkjcdfgaaW.PrintMore
open Go.Proofs.Ytddnhcnkjcdfgaa.P hiding S106 k106 rd_T106 at_T106
open Go.Proofs.Ytddnhcnkjcdfgaa.R
set_option linter.unusedVariables false
set_option linter.unusedSimpArgs false
def twL (x : List Int) (N : Int) : List Int := x.takeWhile (fun a => decide (a ≤ N))
def dwL (x : List Int) (N : Int) : List Int := x.dropWhile (fun a => decide (a ≤ N))
theorem tw_dw (x : List Int) (N : Int) : twL x N ++ dwL x N = x := List.takeWhile_append_dropWhile
theorem tw_le (x : List Int) (N : Int) : ∀ a ∈ twL x N, a ≤ N := by
  induction x with
  | nil => intro a h; cases h
  | cons y x ih =>
    intro a h
    unfold twL at h
    rw [List.takeWhile_cons] at h
    split at h
    · rename_i e
      rcases List.mem_cons.1 h with rfl | h
      · simpa using e
      · exact ih a h
    · cases h
theorem dw_head (x : List Int) (N : Int) : ∀ a l, dwL x N = a :: l → N < a := by
  induction x with
  | nil => intro a l h; cases h
  | cons y x ih =>
    intro a l h
    unfold dwL at h
    rw [List.dropWhile_cons] at h
    split at h
    · exact ih a l h
    · rename_i e
      injection h with h _
      subst h
      have : ¬ y ≤ N := by simpa using e
      omega
theorem dw_gt {x : List Int} (hx : x.Pairwise (· < ·)) (N : Int) : ∀ a ∈ dwL x N, N < a := by
  intro a ha
  have h1 : (dwL x N).Pairwise (· < ·) := by
    have := hx
    rw [← tw_dw x N] at this
    exact (List.pairwise_append.1 this).2.1
  cases e : dwL x N with
  | nil => rw [e] at ha; cases ha
  | cons b l =>
    have h2 := dw_head x N b l e
    rw [e] at ha h1
    rcases List.mem_cons.1 ha with rfl | ha
    · exact h2
    · have := (List.pairwise_cons.1 h1).1 a ha
      omega
open Classical in
noncomputable def insL (x : List Int) (N : Int) : List Int := if N ∈ twL x N then x else twL x N ++ [N] ++ dwL x N
theorem ins_rising {x : List Int} (hx : x.Pairwise (· < ·)) (N : Int) : (insL x N).Pairwise (· < ·) := by
  unfold insL
  split
  · exact hx
  · rename_i hN
    have h0 := hx
    rw [← tw_dw x N, List.pairwise_append] at h0
    rw [List.append_assoc, List.pairwise_append]
    refine ⟨h0.1, ?_, ?_⟩
    · rw [List.singleton_append, List.pairwise_cons]
      exact ⟨dw_gt hx N, h0.2.1⟩
    · intro a ha b hb
      have h1 := tw_le x N a ha
      have h2 : a ≠ N := fun e => hN (e ▸ ha)
      rcases List.mem_append.1 hb with hb | hb
      · rw [List.mem_singleton.1 hb]; omega
      · have := dw_gt hx N b hb; omega
theorem mem_ins (x : List Int) (N a : Int) : a ∈ insL x N ↔ a ∈ x ∨ a = N := by
  have e : a ∈ x ↔ a ∈ twL x N ∨ a ∈ dwL x N := by rw [← List.mem_append, tw_dw]
  unfold insL
  split
  · rename_i h
    refine ⟨.inl, fun h2 => h2.elim id (fun h3 => ?_)⟩
    rw [h3, ← tw_dw x N]
    exact List.mem_append_left _ h
  · rw [List.mem_append, List.mem_append, List.mem_singleton, e]
    constructor
    · rintro ((h | h) | h)
      · exact .inl (.inl h)
      · exact .inr h
      · exact .inl (.inr h)
    · rintro ((h | h) | h)
      · exact .inl (.inl h)
      · exact .inr h
      · exact .inl (.inr h)
theorem ins_len (x : List Int) (N : Int) : (insL x N).length ≤ x.length + 1 := by
  have h : (twL x N).length + (dwL x N).length = x.length := by rw [← List.length_append, tw_dw]
  unfold insL
  split
  · omega
  · simp only [List.length_append, List.length_singleton]; omega
noncomputable def wrtL (l : List S106) : Nat → List Int
  | 0 => []
  | j + 1 => insL (wrtL l j) (rd_T106 l (j : Int)).f0
theorem wrt_rising (l : List S106) : ∀ j, (wrtL l j).Pairwise (· < ·)
  | 0 => List.Pairwise.nil
  | j + 1 => ins_rising (wrt_rising l j) _
theorem wrt_len (l : List S106) : ∀ j, (wrtL l j).length ≤ j
  | 0 => Nat.le_refl _
  | j + 1 => Nat.le_trans (ins_len _ _) (by have := wrt_len l j; omega)
theorem mem_wrt (l : List S106) (a : Int) : ∀ j, j ≤ l.length → (a ∈ wrtL l j ↔ ∃ y ∈ l.take j, y.f0 = a)
  | 0, _ => by simp [wrtL]
  | j + 1, h => by
    have ih := mem_wrt l a j (by omega)
    show a ∈ insL (wrtL l j) _ ↔ _
    rw [mem_ins, ih, take_succ106 l j (by omega), rd106 l j (by omega)]
    constructor
    · rintro (⟨y, hy, e⟩ | e)
      · exact ⟨y, List.mem_append_left _ hy, e⟩
      · exact ⟨l[j], List.mem_append_right _ List.mem_cons_self, e.symm⟩
    · rintro ⟨y, hy, e⟩
      rcases List.mem_append.1 hy with hy | hy
      · exact .inl ⟨y, hy, e⟩
      · rw [List.mem_singleton.1 hy] at e; exact .inr e.symm
theorem rising_eq : ∀ (a b : List Int), a.Pairwise (· < ·) → b.Pairwise (· < ·) → (∀ x, x ∈ a ↔ x ∈ b) → a = b
  | [], [], _, _, _ => rfl
  | [], y :: b, _, _, h => by have := (h y).2 List.mem_cons_self; cases this
  | x :: a, [], _, _, h => by have := (h x).1 List.mem_cons_self; cases this
  | x :: a, y :: b, ha, hb, h => by
    obtain ⟨ha1, ha2⟩ := List.pairwise_cons.1 ha
    obtain ⟨hb1, hb2⟩ := List.pairwise_cons.1 hb
    have e : x = y := by
      rcases List.mem_cons.1 ((h x).1 List.mem_cons_self) with e | e
      · exact e
      · rcases List.mem_cons.1 ((h y).2 List.mem_cons_self) with e2 | e2
        · exact e2.symm
        · have := ha1 y e2; have := hb1 x e; omega
    subst e
    rw [rising_eq a b ha2 hb2 (fun z => by
      constructor
      · intro hz
        rcases List.mem_cons.1 ((h z).1 (List.mem_cons_of_mem _ hz)) with e | e
        · have := ha1 z hz; omega
        · exact e
      · intro hz
        rcases List.mem_cons.1 ((h z).2 (List.mem_cons_of_mem _ hz)) with e | e
        · have := hb1 z hz; omega
        · exact e)]
theorem get_tw (x : List Int) (N : Int) (p : Nat) (hp : p < (twL x N).length) : rd x (p : Int) = (twL x N)[p] ∧ rd x (p : Int) ≤ N := by
  have e : rd x (p : Int) = (twL x N)[p] := by
    unfold rd
    rw [Int.toNat_natCast, List.getD_eq_getElem?_getD]
    conv => lhs; rw [← tw_dw x N]
    rw [List.getElem?_append_left hp, List.getElem?_eq_getElem hp]
    rfl
  exact ⟨e, e ▸ tw_le x N _ (List.getElem_mem hp)⟩
theorem get_dw (x : List Int) (N : Int) (p : Nat) (h0 : (twL x N).length ≤ p) (hp : p < x.length) : rd x (p : Int) = (dwL x N).getD (p - (twL x N).length) 0 := by
  unfold rd
  rw [Int.toNat_natCast, List.getD_eq_getElem?_getD]
  conv => lhs; rw [← tw_dw x N]
  rw [List.getElem?_append_right h0, List.getD_eq_getElem?_getD]
open Classical in
theorem wr_l1 (x : List Int) (l1 l2 : List S106) (c : Nat) (hc : c < l2.length) (hl : l2.length ≤ 1000000) (hx : x.length ≤ 1000000) (a r wr fl : Int) : ∀ m p, p + m = (twL x l2[c].f0).length → ∀ d,
    kilnref3_Written.l1 (m + 1 + d) x (c : Int) (p : Int) (decide (l2[c].f0 ∈ (twL x l2[c].f0).take p)) a l1 l2 r wr fl = kilnref3_Written.j2 d x (c : Int) (((twL x l2[c].f0).length : Nat) : Int) (decide (l2[c].f0 ∈ twL x l2[c].f0)) a l1 l2 r wr fl
  | 0, p, h, d => by
    have hlen : (twL x l2[c].f0).length + (dwL x l2[c].f0).length = x.length := by rw [← List.length_append, tw_dw]
    obtain rfl : p = (twL x l2[c].f0).length := by omega
    rw [show 0 + 1 + d = d + 1 by omega, List.take_length, kilnref3_Written.l1.eq_2]
    by_cases e : ((twL x l2[c].f0).length : Int) < (x.length : Int)
    · rw [if_pos e, if_pos (by omega), if_pos (by omega), if_pos (by omega), rd106 l2 c hc, if_neg]
      have hg := get_dw x l2[c].f0 (twL x l2[c].f0).length (Nat.le_refl _) (by omega)
      rw [Nat.sub_self] at hg
      cases e2 : dwL x l2[c].f0 with
      | nil => rw [e2] at hlen; simp at hlen; omega
      | cons b t =>
        have := dw_head x l2[c].f0 b t e2
        rw [e2] at hg
        rw [hg]
        show ¬ b ≤ _
        omega
    · rw [if_neg e]
  | m + 1, p, h, d => by
    have hlen : (twL x l2[c].f0).length + (dwL x l2[c].f0).length = x.length := by rw [← List.length_append, tw_dw]
    have ih := wr_l1 x l1 l2 c hc hl hx a r wr fl m (p + 1) (by omega) d
    obtain ⟨g1, g2⟩ := get_tw x l2[c].f0 p (by omega)
    rw [show m + 1 + 1 + d = (m + 1 + d) + 1 by omega, kilnref3_Written.l1.eq_2, if_pos (by omega), if_pos (by omega), if_pos (by omega), if_pos (by omega), rd106 l2 c hc, if_pos g2, w64 _ (by omega) (by omega)]
    rw [List.take_succ_eq_append_getElem (show p < (twL x l2[c].f0).length by omega)] at ih
    by_cases e : l2[c].f0 ∈ (twL x l2[c].f0).take p
    · rw [if_pos (by simpa using e)]
      rw [decide_eq_true (List.mem_append_left _ e)] at ih
      exact ih
    · rw [if_neg (by simpa using e), g1]
      have e2 : ((twL x l2[c].f0)[p] == l2[c].f0) = decide (l2[c].f0 ∈ (twL x l2[c].f0).take p ++ [(twL x l2[c].f0)[p]]) := by
        rw [Bool.eq_iff_iff]
        simp only [beq_iff_eq, decide_eq_true_eq, List.mem_append, List.mem_singleton]
        exact ⟨fun h => .inr h.symm, fun h => h.elim (fun h => absurd h e) (fun h => h.symm)⟩
      rw [e2]
      exact ih
theorem wr_l2 (x : List Int) (l1 l2 : List S106) (c q : Nat) (hc : c < l2.length) (hq : q ≤ x.length) (hl : l2.length ≤ 1000000) (hx : x.length ≤ 1000000) (a r wr fl : Int) : ∀ m p, p + m = q → ∀ d,
    kilnref3_Written.l2 (m + 1 + d) x (c : Int) (q : Int) (x.take p) (p : Int) a l1 l2 r wr fl = kilnref3_Written.l3 d x (c : Int) (x.take q ++ [l2[c].f0]) (q : Int) a l1 l2 r wr fl
  | 0, p, h, d => by
    obtain rfl : p = q := by omega
    have ht := List.length_take_le p x
    rw [show 0 + 1 + d = d + 1 by omega, kilnref3_Written.l2.eq_2, if_neg (by omega), if_pos (by omega), if_pos (by omega), if_pos (by omega), rd106 l2 c hc]
  | m + 1, p, h, d => by
    have ih := wr_l2 x l1 l2 c q hc hq hl hx a r wr fl m (p + 1) (by omega) d
    have ht := List.length_take_le p x
    rw [List.take_succ_eq_append_getElem (show p < x.length by omega)] at ih
    have hr : rd x (p : Int) = x[p] := by unfold rd; rw [Int.toNat_natCast, List.getD_eq_getElem?_getD, List.getElem?_eq_getElem (by omega)]; rfl
    rw [show m + 1 + 1 + d = (m + 1 + d) + 1 by omega, kilnref3_Written.l2.eq_2, if_pos (by omega), if_pos (by omega), if_pos (by omega), if_pos (by omega), hr, w64 _ (by omega) (by omega)]
    exact ih
theorem wr_l3 (x : List Int) (y : List Int) (l1 l2 : List S106) (c q : Nat) (hc : c < l2.length) (hq : q ≤ x.length) (hy : y.length ≤ 1000001) (hl : l2.length ≤ 1000000) (hx : x.length ≤ 1000000) (a r wr fl : Int) : ∀ m p, p + m = x.length → q ≤ p → ∀ d,
    kilnref3_Written.l3 (m + 1 + d) x (c : Int) (y ++ (x.take p).drop q) (p : Int) a l1 l2 r wr fl = kilnref3_Written.l0 d (y ++ x.drop q) ((c + 1 : Nat) : Int) a l1 l2 r wr fl
  | 0, p, h, hp, d => by
    obtain rfl : p = x.length := by omega
    rw [show 0 + 1 + d = d + 1 by omega, kilnref3_Written.l3.eq_2, if_neg (by omega), List.take_length, w64 _ (by omega) (by omega)]
    rfl
  | m + 1, p, h, hp, d => by
    have ih := wr_l3 x y l1 l2 c q hc hq hy hl hx a r wr fl m (p + 1) (by omega) (by omega) d
    have ht : ((x.take p).drop q).length ≤ x.length := by rw [List.length_drop, List.length_take]; omega
    have hr : rd x (p : Int) = x[p] := by unfold rd; rw [Int.toNat_natCast, List.getD_eq_getElem?_getD, List.getElem?_eq_getElem (by omega)]; rfl
    have e : (x.take (p + 1)).drop q = (x.take p).drop q ++ [x[p]] := by
      rw [List.take_succ_eq_append_getElem (show p < x.length by omega), List.drop_append_of_le_length (by rw [List.length_take]; omega)]
    rw [e, ← List.append_assoc] at ih
    rw [show m + 1 + 1 + d = (m + 1 + d) + 1 by omega, kilnref3_Written.l3.eq_2, if_pos (by omega), if_pos (by omega), if_pos (by rw [List.length_append]; omega), hr, w64 _ (by omega) (by omega)]
    exact ih
open Classical in
theorem wr_l0 (l1 l2 : List S106) (hl : l2.length ≤ 1000000) (a r wr fl : Int) : ∀ m c, c + m = l2.length → ∀ d, kilnref3_Written.l0 (m * (2 * l2.length + 6) + 1 + d) (wrtL l2 c) (c : Int) a l1 l2 r wr fl = some (wrtL l2 l2.length)
  | 0, c, h, d => by
    obtain rfl : c = l2.length := by omega
    rw [show 0 * (2 * l2.length + 6) + 1 + d = d + 1 by omega, kilnref3_Written.l0.eq_2, if_neg (by omega)]
  | m + 1, c, h, d => by
    have hx := wrt_len l2 c
    generalize hxx : wrtL l2 c = x at hx
    have hlen : (twL x l2[c].f0).length + (dwL x l2[c].f0).length = x.length := by rw [← List.length_append, tw_dw]
    have hnext : wrtL l2 (c + 1) = insL x l2[c].f0 := by
      show insL (wrtL l2 c) (rd_T106 l2 (c : Int)).f0 = _
      rw [hxx, rd106 l2 c (by omega)]
    have h1 := wr_l1 x l1 l2 c (by omega) hl (by omega) a r wr fl (twL x l2[c].f0).length 0 (by omega) (m * (2 * l2.length + 6) + 1 + d + (2 * l2.length + 6) - 1 - ((twL x l2[c].f0).length + 1))
    rw [show (twL x l2[c].f0).length + 1 + (m * (2 * l2.length + 6) + 1 + d + (2 * l2.length + 6) - 1 - ((twL x l2[c].f0).length + 1)) = m * (2 * l2.length + 6) + d + (2 * l2.length + 6) by omega] at h1
    rw [show (m + 1) * (2 * l2.length + 6) + 1 + d = (m * (2 * l2.length + 6) + d + (2 * l2.length + 6)) + 1 by rw [Nat.succ_mul]; omega, kilnref3_Written.l0.eq_2, if_pos (by omega)]
    have h0 : decide (l2[c].f0 ∈ (twL x l2[c].f0).take 0) = false := by rw [List.take_zero]; exact decide_eq_false (fun h => by cases h)
    rw [h0] at h1
    refine Eq.trans h1 ?_
    obtain ⟨e, he⟩ : ∃ e, m * (2 * l2.length + 6) + 1 + d + (2 * l2.length + 6) - 1 - ((twL x l2[c].f0).length + 1) = e + 1 := ⟨m * (2 * l2.length + 6) + 1 + d + (2 * l2.length + 6) - 1 - ((twL x l2[c].f0).length + 1) - 1, by omega⟩
    rw [he, kilnref3_Written.j2.eq_2]
    by_cases hm : l2[c].f0 ∈ twL x l2[c].f0
    · have ih := wr_l0 l1 l2 hl a r wr fl m (c + 1) (by omega) (e - (m * (2 * l2.length + 6) + 1))
      rw [show m * (2 * l2.length + 6) + 1 + (e - (m * (2 * l2.length + 6) + 1)) = e by omega, hnext] at ih
      unfold insL at ih
      rw [if_pos hm] at ih
      rw [if_pos (decide_eq_true hm), w64 _ (by omega) (by omega)]
      exact ih
    · rw [if_neg (by simpa using hm)]
      have h2 := wr_l2 x l1 l2 c (twL x l2[c].f0).length (by omega) (by omega) hl (by omega) a r wr fl (twL x l2[c].f0).length 0 (by omega) (e - ((twL x l2[c].f0).length + 1))
      rw [show (twL x l2[c].f0).length + 1 + (e - ((twL x l2[c].f0).length + 1)) = e by omega, List.take_zero] at h2
      refine Eq.trans h2 ?_
      have et : x.take (twL x l2[c].f0).length = twL x l2[c].f0 := by
        exact (congrArg (List.take _) (tw_dw x l2[c].f0).symm).trans List.take_left
      have ed : x.drop (twL x l2[c].f0).length = dwL x l2[c].f0 := by
        exact (congrArg (List.drop _) (tw_dw x l2[c].f0).symm).trans List.drop_left
      have h3 := wr_l3 x (twL x l2[c].f0 ++ [l2[c].f0]) l1 l2 c (twL x l2[c].f0).length (by omega) (by omega) (by simp; omega) hl (by omega) a r wr fl (dwL x l2[c].f0).length (twL x l2[c].f0).length (by omega) (Nat.le_refl _) (e - ((twL x l2[c].f0).length + 1) - ((dwL x l2[c].f0).length + 1))
      rw [show (dwL x l2[c].f0).length + 1 + (e - ((twL x l2[c].f0).length + 1) - ((dwL x l2[c].f0).length + 1)) = e - ((twL x l2[c].f0).length + 1) by omega, List.drop_of_length_le (by rw [List.length_take]; omega), List.append_nil, ed] at h3
      rw [et]
      refine Eq.trans h3 ?_
      have ih := wr_l0 l1 l2 hl a r wr fl m (c + 1) (by omega) (e - ((twL x l2[c].f0).length + 1) - ((dwL x l2[c].f0).length + 1) - (m * (2 * l2.length + 6) + 1))
      rw [show m * (2 * l2.length + 6) + 1 + (e - ((twL x l2[c].f0).length + 1) - ((dwL x l2[c].f0).length + 1) - (m * (2 * l2.length + 6) + 1)) = e - ((twL x l2[c].f0).length + 1) - ((dwL x l2[c].f0).length + 1) by omega, hnext] at ih
      unfold insL at ih
      rw [if_neg hm] at ih
      exact ih
theorem written_ev (l1 l2 : List S106) (hl : l2.length ≤ 1000000) (a r wr fl : Int) : ∀ k, l2.length * (2 * l2.length + 6) + 1 ≤ k → kilnref3_Written.f k a l1 l2 r wr fl = some (wrtL l2 l2.length) := fun k hk => by
  have h := wr_l0 l1 l2 hl a r wr fl l2.length 0 (by omega) (k - (l2.length * (2 * l2.length + 6) + 1))
  rw [show l2.length * (2 * l2.length + 6) + 1 + (k - (l2.length * (2 * l2.length + 6) + 1)) = k by omega] at h
  exact h
end Go.Proofs.Ytddnhcnkjcdfgaa.M

namespace Go.Proofs.Ytddnhcnkjcdfgaa.M
open Go.RowKit Go.Maps Go.Proofs.YtddnhcnkjcdfgaaW.PrintWords Go.Proofs.YtddnhcnkjcdfgaaW.PrintLast Go.Proofs.YtddnhcnkjcdfgaaW.PrintMore
open Go.Proofs.Ytddnhcnkjcdfgaa.P hiding S106 k106 rd_T106 at_T106
open Go.Proofs.Ytddnhcnkjcdfgaa.R
set_option linter.unusedVariables false
set_option linter.unusedSimpArgs false
def lastE (w : List (List Int)) : List Int := w.getLast?.getD []
theorem lastE_snoc (w : List (List Int)) (b : List Int) : lastE (w ++ [b]) = b := by unfold lastE; rw [List.getLast?_concat]; rfl
theorem wOf_append (a b : List S106) (n : Int) : wOf (a ++ b) n = wOf a n ++ wOf b n := by unfold wOf; rw [List.filter_append, List.map_append]
theorem wOf_len (l : List S106) (n : Int) : (wOf l n).length ≤ l.length := by unfold wOf; rw [List.length_map]; exact List.length_filter_le _ _
def finR (fs ks : List Int) (i : Int) (a : Int) (l1 l2 : List S106) (r wr fl : Int) (w : List (List Int)) (k : Nat) : Option (Int × (List (S106)) × (List (S106)) × Int × Int × Int) :=
  if (w.length : Int) > 0 then ((kilnref3_put.f k l1 (rd ks i) (lastE w)).bind fun t => kilnref3_Crash.l0 k fs ks (wrap64 (i + 1)) a t l2 r wr fl) else kilnref3_Crash.l0 k fs ks (wrap64 (i + 1)) a l1 l2 r wr fl
theorem cr_l1 (fs ks : List Int) (i : Nat) (hi : i < ks.length) (m : Int) (a : Int) (l1 l2 : List S106) (h2 : l2.length ≤ 1000000) (r wr fl : Int) (K : Nat) (res)
    (hK : ∀ k, K ≤ k → finR fs ks (i : Int) a l1 l2 r wr fl ((wOf l2 (rd ks (i : Int))).take m.toNat) k = some res) : ∀ q p, p + q = l2.length → (wOf (l2.take p) (rd ks (i : Int))).length ≤ m.toNat → ∀ k, K + 2 * q + 2 ≤ k →
    kilnref3_Crash.l1 k fs ks (i : Int) m (lastE (wOf (l2.take p) (rd ks (i : Int)))) ((wOf (l2.take p) (rd ks (i : Int))).length : Int) (p : Int) a l1 l2 r wr fl = some res
  | 0, p, h, hw, k, hk => by
    obtain ⟨k, rfl⟩ : ∃ e, k = e + 2 := ⟨k - 2, by omega⟩
    obtain rfl : p = l2.length := by omega
    rw [List.take_length] at hw ⊢
    have h1 := hK k (by omega)
    rw [List.take_of_length_le hw] at h1
    rw [kilnref3_Crash.l1.eq_2, if_neg (by omega), kilnref3_Crash.j3.eq_2, if_neg (by decide)]
    unfold finR at h1
    rw [if_pos (show 0 ≤ (i : Int) by omega), if_pos (show (i : Int) < (ks.length : Int) by omega)]
    exact h1
  | q + 1, p, h, hw, k, hk => by
    have ih := cr_l1 fs ks i hi m a l1 l2 h2 r wr fl K res hK q (p + 1) (by omega)
    obtain ⟨k, rfl⟩ : ∃ e, k = e + 2 := ⟨k - 2, by omega⟩
    have hwl := wOf_len (l2.take p) (rd ks (i : Int))
    have htl := List.length_take_le p l2
    rw [kilnref3_Crash.l1.eq_2, if_pos (by omega), kilnref3_Crash.j3.eq_2]
    by_cases e : ((wOf (l2.take p) (rd ks (i : Int))).length : Int) < m
    · rw [if_pos (decide_eq_true e), if_pos (by omega), if_pos (by omega), if_pos (by omega), if_pos (by omega), rd106 l2 p (by omega), w64 ((p : Int) + 1) (by omega) (by omega), w64 _ (by omega) (by omega)]
      rw [take_succ106 l2 p (by omega), wOf_snoc] at ih
      by_cases e2 : l2[p].f0 = rd ks (i : Int)
      · rw [if_pos e2] at ih ⊢
        rw [lastE_snoc, List.length_append, List.length_singleton] at ih
        exact ih (by omega) k (by omega)
      · rw [if_neg e2] at ih ⊢
        exact ih (by omega) k (by omega)
    · have h1 := hK k (by omega)
      have e3 : (wOf l2 (rd ks (i : Int))).take m.toNat = wOf (l2.take p) (rd ks (i : Int)) := by
        have e4 : m.toNat = (wOf (l2.take p) (rd ks (i : Int))).length := by omega
        have e5 : wOf l2 (rd ks (i : Int)) = wOf (l2.take p) (rd ks (i : Int)) ++ wOf (l2.drop p) (rd ks (i : Int)) := by rw [← wOf_append, List.take_append_drop]
        rw [e4]
        exact (congrArg (List.take _) e5).trans List.take_left
      rw [e3] at h1
      unfold finR at h1
      rw [if_neg (by simpa using e), if_pos (show 0 ≤ (i : Int) by omega), if_pos (show (i : Int) < (ks.length : Int) by omega)]
      exact h1
def crashR (l1 l2 : List S106) (fs ks : List Int) : Nat → List S106
  | 0 => l1
  | j + 1 => if 0 < ((wOf l2 (rd ks (j : Int))).take (fs.getD j 0).toNat).length then putR (crashR l1 l2 fs ks j) (rd ks (j : Int)) (lastE ((wOf l2 (rd ks (j : Int))).take (fs.getD j 0).toNat)) else crashR l1 l2 fs ks j
theorem crashR_len (l1 l2 : List S106) (fs ks : List Int) : ∀ j, (crashR l1 l2 fs ks j).length ≤ l1.length + j
  | 0 => Nat.le_refl _
  | j + 1 => by
    have ih := crashR_len l1 l2 fs ks j
    unfold crashR
    split
    · have := putR_len (crashR l1 l2 fs ks j) (rd ks (j : Int)) (lastE ((wOf l2 (rd ks (j : Int))).take (fs.getD j 0).toNat)); omega
    · omega
theorem cr_l0 (fs ks : List Int) (a : Int) (l1 l2 : List S106) (hs : l1.length + ks.length ≤ 1000000) (h2 : l2.length ≤ 1000000) (r wr fl : Int) : ∀ m j, j + m = ks.length → ∀ k, m * (2 * l2.length + 5) + l1.length + ks.length + 2 ≤ k →
    kilnref3_Crash.l0 k fs ks (j : Int) a (crashR l1 l2 fs ks j) l2 r wr fl = some (a, crashR l1 l2 fs ks ks.length, [], r, wr, fl)
  | 0, j, h, k, hk => by
    obtain ⟨k, rfl⟩ : ∃ e, k = e + 1 := ⟨k - 1, by omega⟩
    obtain rfl : j = ks.length := by omega
    rw [kilnref3_Crash.l0.eq_2, if_neg (by omega)]
  | m + 1, j, h, k, hk => by
    have ih := cr_l0 fs ks a l1 l2 hs h2 r wr fl m (j + 1) (by omega)
    have hl := crashR_len l1 l2 fs ks j
    rw [Nat.succ_mul] at hk
    obtain ⟨k, rfl⟩ : ∃ e, k = e + 2 := ⟨k - 2, by omega⟩
    have hfin : ∀ k, m * (2 * l2.length + 5) + l1.length + ks.length + 2 ≤ k → finR fs ks (j : Int) a (crashR l1 l2 fs ks j) l2 r wr fl ((wOf l2 (rd ks (j : Int))).take (fs.getD j 0).toNat) k = some (a, crashR l1 l2 fs ks ks.length, [], r, wr, fl) := fun k hk => by
      have ih := ih k hk
      rw [crashR.eq_2] at ih
      unfold finR
      rw [w64 ((j : Int) + 1) (by omega) (by omega)]
      by_cases e : 0 < ((wOf l2 (rd ks (j : Int))).take (fs.getD j 0).toNat).length
      · rw [if_pos e] at ih
        rw [if_pos (by omega), put_ev _ _ _ (by omega) k (by omega), Option.bind_some]
        exact ih
      · rw [if_neg e] at ih
        rw [if_neg (by omega)]
        exact ih
    have h1 := cr_l1 fs ks j (by omega) (fs.getD j 0) a (crashR l1 l2 fs ks j) l2 h2 r wr fl _ _ hfin l2.length 0 (by omega) (Nat.zero_le _) k (by omega)
    have hj1 : kilnref3_Crash.j1 (k + 1) fs ks (j : Int) (fs.getD j 0) a (crashR l1 l2 fs ks j) l2 r wr fl = some (a, crashR l1 l2 fs ks ks.length, [], r, wr, fl) := by
      rw [kilnref3_Crash.j1.eq_2]
      exact h1
    rw [kilnref3_Crash.l0.eq_2, if_pos (by omega)]
    by_cases e : (j : Int) < (fs.length : Int)
    · rw [if_pos e, if_pos (by omega), show rd fs (j : Int) = fs.getD j 0 from by unfold rd; rw [Int.toNat_natCast]]
      exact hj1
    · rw [if_neg e]
      rw [show fs.getD j 0 = 0 from by rw [List.getD_eq_getElem?_getD, List.getElem?_eq_none (by omega)]; rfl] at hj1
      exact hj1
theorem crash_ev (fs : List Int) (a : Int) (l1 l2 : List S106) (ks : List Int) (hks : wrtL l2 l2.length = ks) (hs : l1.length + l2.length ≤ 1000000) (r wr fl : Int) : ∃ k, kilnref3_Crash.f k a l1 l2 r wr fl fs = some (a, crashR l1 l2 fs ks ks.length, [], r, wr, fl) := by
  have hl := wrt_len l2 l2.length
  rw [hks] at hl
  refine ⟨l2.length * (2 * l2.length + 6) + 1 + (ks.length * (2 * l2.length + 5) + l1.length + ks.length + 2), ?_⟩
  unfold kilnref3_Crash.f
  rw [written_ev l1 l2 (by omega) a r wr fl _ (Nat.le_add_right _ _), Option.bind_some, hks]
  exact cr_l0 fs ks a l1 l2 (by omega) (by omega) r wr fl ks.length 0 (by omega) _ (Nat.le_add_left _ _)
end Go.Proofs.Ytddnhcnkjcdfgaa.M

namespace Go.Proofs.Ytddnhcnkjcdfgaa.M
open Go.RowKit Go.Maps Go.Proofs.YtddnhcnkjcdfgaaW.PrintWords Go.Proofs.YtddnhcnkjcdfgaaW.PrintLast Go.Proofs.YtddnhcnkjcdfgaaW.PrintMore
open Go.Proofs.Ytddnhcnkjcdfgaa.P hiding S106 k106 rd_T106 at_T106
open Go.Proofs.Ytddnhcnkjcdfgaa.R
set_option linter.unusedVariables false
set_option linter.unusedSimpArgs false
def Ent (n : Nat) (x : S106) : Prop := (∃ i : Nat, i < n ∧ x.f0 = (i : Int)) ∧ x.f1.length = 512
structure Rl (s : DS) (l1 l2 : List S106) : Prop where
  len : s.L.length = s.n
  e1 : ∀ x ∈ l1, Ent s.n x
  e2 : ∀ x ∈ l2, Ent s.n x
  hL : ∀ i, i < s.n → lastR l1 (i : Int) = s.L.getD i []
  hW : ∀ i, i < s.n → wOf l2 (i : Int) = s.W i
theorem mem_wOf {l : List S106} {n : Int} {b : List Int} (h : b ∈ wOf l n) : ∃ x ∈ l, x.f0 = n ∧ x.f1 = b := by
  unfold wOf at h
  obtain ⟨x, hx, rfl⟩ := List.mem_map.1 h
  obtain ⟨h1, h2⟩ := List.mem_filter.1 hx
  exact ⟨x, h1, by simpa using h2, rfl⟩
theorem lastR_len {l : List S106} {n : Nat} (h : ∀ x ∈ l, Ent n x) (a : Int) : (lastR l a).length = 512 := by
  unfold lastR
  cases e : (wOf l a).getLast? with
  | none => exact zeros_len
  | some b =>
    obtain ⟨x, hx, _, rfl⟩ := mem_wOf (List.mem_of_getLast? e)
    exact (h x hx).2
theorem putR_ent {l : List S106} {n : Nat} (h : ∀ x ∈ l, Ent n x) (i : Nat) (hi : i < n) (b : List Int) (hb : b.length = 512) : ∀ x ∈ putR l (i : Int) b, Ent n x := by
  intro x hx
  unfold putR at hx
  rcases List.mem_append.1 hx with hx | hx
  · exact h x (List.mem_filter.1 hx).1
  · rw [List.mem_singleton.1 hx]; exact ⟨⟨i, hi, rfl⟩, hb⟩
theorem putR_ent' {l : List S106} {n : Nat} (h : ∀ x ∈ l, Ent n x) (y : S106) (hy : Ent n y) : ∀ x ∈ putR l y.f0 y.f1, Ent n x := by
  intro x hx
  unfold putR at hx
  rcases List.mem_append.1 hx with hx | hx
  · exact h x (List.mem_filter.1 hx).1
  · rw [List.mem_singleton.1 hx]; exact hy
variable {s : DS} {l1 l2 : List S106}
theorem Rl.now (h : Rl s l1 l2) (i : Nat) (hi : i < s.n) : nowR l1 l2 (i : Int) = s.cur i := by
  unfold nowR DS.cur
  rw [h.hW i hi]
  cases (s.W i).getLast? with
  | none => exact h.hL i hi
  | some b => rfl
theorem Rl.sho (h : Rl s l1 l2) : Sho l2 := fun x hx => by rw [(h.e2 x hx).2]; decide
theorem Rl.reads (h : Rl s l1 l2) : Rl s.reads l1 l2 := ⟨h.len, h.e1, h.e2, h.hL, h.hW⟩
theorem Rl.put (h : Rl s l1 l2) (i : Nat) (hi : i < s.n) (b : List Int) (hb : b.length = 512) : Rl (s.put i b) l1 (l2 ++ [⟨(i : Int), b⟩]) :=
  ⟨h.len, h.e1, fun x hx => by
    rcases List.mem_append.1 hx with hx | hx
    · exact h.e2 x hx
    · rw [List.mem_singleton.1 hx]; exact ⟨⟨i, hi, rfl⟩, hb⟩, h.hL, fun j hj => by
    rw [wOf_snoc, h.hW j hj]
    show (if (i : Int) = (j : Int) then s.W j ++ [b] else s.W j) = (if j = i then s.W i ++ [b] else s.W j)
    by_cases e : j = i
    · subst e; rw [if_pos rfl, if_pos rfl]
    · rw [if_neg (by omega), if_neg e]⟩
theorem flushR_ent {n : Nat} : ∀ (l2 l1 : List S106), (∀ x ∈ l1, Ent n x) → (∀ x ∈ l2, Ent n x) → ∀ x ∈ flushR l1 l2, Ent n x
  | [], l1, h1, _ => h1
  | y :: l2, l1, h1, h2 => flushR_ent l2 (putR l1 y.f0 y.f1) (putR_ent' h1 y (h2 y List.mem_cons_self)) (fun x hx => h2 x (List.mem_cons_of_mem _ hx))
theorem Rl.flush (h : Rl s l1 l2) : Rl s.flush (flushR l1 l2) [] :=
  ⟨by show ((List.range s.n).map s.cur).length = s.n; rw [List.length_map, List.length_range], flushR_ent l2 l1 h.e1 h.e2, fun x hx => (by cases hx), fun i hi => by
    have h1 := lastR_flush l1 (i : Int) l2 l2.length (Nat.le_refl _)
    rw [List.take_length, h.now i hi] at h1
    rw [h1]
    show _ = ((List.range s.n).map s.cur).getD i []
    rw [List.getD_eq_getElem?_getD, List.getElem?_map, List.getElem?_range (show i < s.n from hi)]
    rfl, fun i hi => rfl⟩
theorem Rl.keys (h : Rl s l1 l2) : wrtL l2 l2.length = s.keysI := by
  refine rising_eq _ _ (wrt_rising l2 _) ?_ (fun a => ?_)
  · unfold DS.keysI
    rw [List.pairwise_map]
    exact s.keysN_rising.imp (fun h => by omega)
  · rw [mem_wrt l2 a l2.length (Nat.le_refl _), List.take_length]
    unfold DS.keysI
    rw [List.mem_map]
    constructor
    · rintro ⟨y, hy, rfl⟩
      obtain ⟨⟨i, hi, e⟩, _⟩ := h.e2 y hy
      refine ⟨i, (s.mem_keysN i).2 ⟨hi, ?_⟩, e.symm⟩
      rw [← h.hW i hi]
      intro e2
      have : y.f1 ∈ wOf l2 (i : Int) := by
        unfold wOf
        exact List.mem_map.2 ⟨y, List.mem_filter.2 ⟨hy, by simpa using e⟩, rfl⟩
      rw [e2] at this
      cases this
    · rintro ⟨i, hi, rfl⟩
      obtain ⟨hi, hW⟩ := (s.mem_keysN i).1 hi
      rw [← h.hW i hi] at hW
      obtain ⟨b, hb⟩ := List.exists_mem_of_ne_nil _ hW
      obtain ⟨x, hx, e, _⟩ := mem_wOf hb
      exact ⟨x, hx, e⟩
theorem take_last (w : List (List Int)) (m : Nat) (hm : 0 < m) (hw : w ≠ []) : lastE (w.take m) = w.getD (min m w.length - 1) [] := by
  have hl : 0 < w.length := List.length_pos_iff.2 hw
  unfold lastE
  rw [List.getLast?_eq_getElem?, List.length_take, List.getD_eq_getElem?_getD, List.getElem?_take_of_lt (by omega)]
theorem crash_ent (h : Rl s l1 l2) (fs : List Int) : ∀ j, j ≤ s.keysN.length → (∀ x ∈ crashR l1 l2 fs s.keysI j, Ent s.n x) ∧ ∀ i, i < s.n → lastR (crashR l1 l2 fs s.keysI j) (i : Int) = (crashL s fs j).getD i []
  | 0, _ => ⟨h.e1, h.hL⟩
  | j + 1, hj => by
    obtain ⟨ih1, ih2⟩ := crash_ent h fs j (by omega)
    obtain ⟨k1, k2, k3⟩ := key_at s j (by omega)
    generalize hq : s.keysN.getD j 0 = q at k1 k2 k3
    rw [crashR.eq_2, crashL.eq_2, k3, h.hW q k1, hq]
    have hl : 0 < (s.W q).length := List.length_pos_iff.2 k2
    by_cases e : 1 ≤ fs.getD j 0
    · rw [if_pos e, if_pos (by rw [List.length_take]; omega), take_last _ _ (by omega) k2]
      have em : min (fs.getD j 0).toNat (s.W q).length - 1 = (min (fs.getD j 0) ((s.W q).length : Int)).toNat - 1 := by omega
      rw [em]
      refine ⟨putR_ent ih1 q k1 _ ?_, fun i hi => ?_⟩
      · rw [List.getD_eq_getElem?_getD, List.getElem?_eq_getElem (by omega)]
        obtain ⟨x, hx, _, e⟩ := mem_wOf (show (s.W q)[(min (fs.getD j 0) ((s.W q).length : Int)).toNat - 1]'(by omega) ∈ wOf l2 (q : Int) from by rw [h.hW q k1]; exact List.getElem_mem _)
        rw [Option.getD_some, ← e]
        exact (h.e2 x hx).2
      · rw [lastR_put, ih2 i hi]
        by_cases e2 : q = i
        · subst e2
          rw [if_pos rfl, getD_set_at _ _ _ (by rw [crashL_len, h.len]; exact hi)]
        · rw [if_neg (by omega), List.getD_eq_getElem?_getD (l := (crashL s fs j).set _ _), List.getElem?_set_ne e2, ← List.getD_eq_getElem?_getD]
    · rw [if_neg e, if_neg (by rw [List.length_take]; omega)]
      exact ⟨ih1, ih2⟩
theorem crashL_more (s : DS) (fs : List Int) : ∀ d, crashL s fs (fs.length + d) = crashL s fs fs.length
  | 0 => rfl
  | d + 1 => by
    rw [show fs.length + (d + 1) = (fs.length + d) + 1 by omega, crashL.eq_2, if_neg, crashL_more s fs d]
    rw [List.getD_eq_getElem?_getD, List.getElem?_eq_none (by omega)]
    decide
theorem crashL_min (s : DS) (fs : List Int) : crashL s fs (min s.keysN.length fs.length) = crashL s fs s.keysN.length := by
  by_cases e : s.keysN.length ≤ fs.length
  · rw [Nat.min_eq_left e]
  · rw [Nat.min_eq_right (by omega)]
    have := crashL_more s fs (s.keysN.length - fs.length)
    rw [show fs.length + (s.keysN.length - fs.length) = s.keysN.length by omega] at this
    exact this.symm
theorem Rl.crash (h : Rl s l1 l2) (fs : List Int) : Rl (s.crash fs) (crashR l1 l2 fs s.keysI s.keysI.length) [] := by
  have hk : s.keysI.length = s.keysN.length := List.length_map _
  obtain ⟨h1, h2⟩ := crash_ent h fs s.keysN.length (Nat.le_refl _)
  rw [hk]
  refine ⟨?_, h1, fun x hx => (by cases hx), fun i hi => ?_, fun i hi => rfl⟩
  · show (crashL s fs _).length = s.n
    rw [crashL_len, h.len]
  · show _ = (crashL s fs (min s.keysN.length fs.length)).getD i []
    rw [crashL_min]
    exact h2 i hi
theorem wOf_turn (l : List S106) (i : Int) (bit : Nat) (n : Int) : wOf (turnR l i bit) n = if n = i then (wOf l n).map (flipL (bit / 8) (mskB (bit % 8))) else wOf l n := by
  unfold turnR wOf
  rw [List.filter_map, List.map_map]
  have e : ((fun x : S106 => decide (x.f0 = n)) ∘ fun x : S106 => if x.f0 = i then (⟨i, flipL (bit / 8) (mskB (bit % 8)) x.f1⟩ : S106) else x) = fun x : S106 => decide (x.f0 = n) := by
    funext x
    show decide ((if x.f0 = i then (⟨i, flipL (bit / 8) (mskB (bit % 8)) x.f1⟩ : S106) else x).f0 = n) = _
    by_cases e : x.f0 = i
    · rw [if_pos e, e]
    · rw [if_neg e]
  rw [e]
  by_cases e2 : n = i
  · rw [if_pos e2, List.map_map]
    apply List.map_congr_left
    intro x hx
    have hx := (List.mem_filter.1 hx).2
    show (if x.f0 = i then (⟨i, flipL (bit / 8) (mskB (bit % 8)) x.f1⟩ : S106) else x).f1 = _
    rw [if_pos (by rw [← e2]; simpa using hx)]
    rfl
  · rw [if_neg e2]
    apply List.map_congr_left
    intro x hx
    have hx := (List.mem_filter.1 hx).2
    show (if x.f0 = i then (⟨i, flipL (bit / 8) (mskB (bit % 8)) x.f1⟩ : S106) else x).f1 = _
    rw [if_neg (fun e3 => e2 (by rw [← e3]; simpa using Eq.symm (by simpa using hx)))]
theorem Rl.turn (h : Rl s l1 l2) (i : Nat) (hi : i < s.n) (bit : Nat) : Rl (s.turn i bit) (putR l1 (i : Int) (flipL (bit / 8) (mskB (bit % 8)) (lastR l1 (i : Int)))) (turnR l2 (i : Int) bit) := by
  refine ⟨?_, putR_ent h.e1 i hi _ (by rw [flipL_len]; exact lastR_len h.e1 _), fun x hx => ?_, fun j hj => ?_, fun j hj => ?_⟩
  · show (s.L.set i _).length = s.n
    rw [List.length_set, h.len]
  · unfold turnR at hx
    obtain ⟨y, hy, rfl⟩ := List.mem_map.1 hx
    split
    · exact ⟨⟨i, hi, rfl⟩, by rw [flipL_len]; exact (h.e2 y hy).2⟩
    · exact h.e2 y hy
  · rw [lastR_put, h.hL j hj, h.hL i hi]
    show _ = (s.L.set i (flipL (bit / 8) (mskB (bit % 8)) (s.L.getD i []))).getD j []
    by_cases e : i = j
    · subst e
      rw [if_pos rfl, getD_set_at _ _ _ (by rw [h.len]; exact hi)]
    · rw [if_neg (by omega), List.getD_eq_getElem?_getD (l := s.L.set _ _), List.getElem?_set_ne e, ← List.getD_eq_getElem?_getD]
  · rw [wOf_turn, h.hW j hj]
    show _ = (if j = i then (s.W i).map (flipL (bit / 8) (mskB (bit % 8))) else s.W j)
    by_cases e : j = i
    · subst e; rw [if_pos rfl, if_pos rfl]
    · rw [if_neg (by omega), if_neg e]
theorem zl_get (n : Nat) : ∀ m, m ≤ n → (zl n m).length = n ∧ ∀ i, i < m → (zl n m).getD i [] = zeros
  | 0, _ => ⟨List.length_replicate, fun i hi => absurd hi (Nat.not_lt_zero _)⟩
  | m + 1, hm => by
    obtain ⟨h1, h2⟩ := zl_get n m (by omega)
    unfold zl
    refine ⟨by rw [List.length_set, h1], fun i hi => ?_⟩
    by_cases e : m = i
    · subst e
      exact getD_set_at _ _ _ (by rw [h1]; omega)
    · rw [List.getD_eq_getElem?_getD, List.getElem?_set_ne e, ← List.getD_eq_getElem?_getD]
      exact h2 i (by omega)
theorem imL_get (n : Nat) (l : List S106) (hl : ∀ x ∈ l, Ent n x) : ∀ j, j ≤ l.length → (imL n l j).length = n ∧ ∀ i, i < n → (imL n l j).getD i [] = lastR (l.take j) (i : Int)
  | 0, _ => ⟨(zl_get n n (Nat.le_refl _)).1, (zl_get n n (Nat.le_refl _)).2⟩
  | j + 1, hj => by
    obtain ⟨h1, h2⟩ := imL_get n l hl j (by omega)
    obtain ⟨⟨q, hq, e⟩, _⟩ := hl l[j] (List.getElem_mem _)
    rw [imL.eq_2, rd106 l j (by omega), take_succ106 l j (by omega), e, Int.toNat_natCast]
    refine ⟨by rw [List.length_set, h1], fun i hi => ?_⟩
    rw [lastR_snoc, e]
    by_cases e2 : q = i
    · subst e2
      rw [if_pos rfl, getD_set_at _ _ _ (by rw [h1]; exact hi)]
    · rw [if_neg (by omega), List.getD_eq_getElem?_getD, List.getElem?_set_ne e2, ← List.getD_eq_getElem?_getD]
      exact h2 i hi
theorem ext_getD (a b : List (List Int)) (h : a.length = b.length) (h2 : ∀ i, i < b.length → a.getD i [] = b.getD i []) : a = b := by
  refine List.ext_getElem h (fun i h3 h4 => ?_)
  have := h2 i h4
  rw [List.getD_eq_getElem?_getD, List.getD_eq_getElem?_getD, List.getElem?_eq_getElem h3, List.getElem?_eq_getElem h4] at this
  exact this
theorem Rl.image (h : Rl s l1 l2) : imL s.n l1 l1.length = s.L := by
  obtain ⟨h1, h2⟩ := imL_get s.n l1 h.e1 l1.length (Nat.le_refl _)
  refine ext_getD _ _ (by rw [h1, h.len]) (fun i hi => ?_)
  rw [h.len] at hi
  rw [h2 i hi, List.take_length, h.hL i hi]
theorem Rl.fresh (n : Nat) : Rl (DS.fresh n (List.replicate n zeros)) [] [] :=
  ⟨List.length_replicate, fun x hx => (by cases hx), fun x hx => (by cases hx), fun i hi => by
    show zeros = (List.replicate n zeros).getD i []
    rw [List.getD_eq_getElem?_getD, List.getElem?_replicate, if_pos (show i < n from hi)]
    rfl, fun i hi => rfl⟩
def ldR (b : List (List Int)) : Nat → List S106
  | 0 => []
  | j + 1 => ldR b j ++ [⟨(j : Int), b.getD j []⟩]
theorem ldR_len (b : List (List Int)) : ∀ j, (ldR b j).length = j
  | 0 => rfl
  | j + 1 => by unfold ldR; rw [List.length_append, ldR_len b j]; rfl
theorem rd_L2_at (b : List (List Int)) (j : Nat) : R.rd_L2 b (j : Int) = b.getD j [] := by unfold R.rd_L2; rw [Int.toNat_natCast]
theorem load_l0 (b : List (List Int)) (a r wr fl : Int) (hb : b.length ≤ 65536) (hg : ∀ i, i < b.length → (b.getD i []).length = 512) : ∀ m j, j + m = b.length → ∀ d, kilnref3_Load.l0 (m + 1 + d) b (j : Int) a (ldR b j) r wr fl = some (a, ldR b b.length, [], r, wr, fl, 0)
  | 0, j, h, d => by
    obtain rfl : j = b.length := by omega
    rw [show 0 + 1 + d = d + 1 by omega, kilnref3_Load.l0.eq_2, if_neg (by omega)]
  | m + 1, j, h, d => by
    have ih := load_l0 b a r wr fl hb hg m (j + 1) (by omega) d
    have hl := hg j (by omega)
    rw [show m + 1 + 1 + d = (m + 1 + d) + 1 by omega, kilnref3_Load.l0.eq_2, if_pos (by omega), if_pos (by omega), rd_L2_at, if_pos (by omega), copy_ok _ (by omega), Option.bind_some, if_pos (by rw [ldR_len]; omega), w64 _ (by omega) (by omega)]
    exact ih
theorem load_ev (b : List (List Int)) (h2 : 2 ≤ b.length) (hb : b.length ≤ 65536) (hg : ∀ i, i < b.length → (b.getD i []).length = 512) : ∃ k, kilnref3_Load.f k b = some ((b.length : Int), ldR b b.length, [], 0, 0, 0, 0) := by
  refine ⟨b.length + 1 + 1, ?_⟩
  unfold kilnref3_Load.f
  rw [if_neg (by omega), decide_eq_false (by omega), kilnref3_Load.j0.eq_2, if_neg (by decide)]
  exact load_l0 b _ 0 0 0 hb hg b.length 0 (by omega) 0
theorem ldR_ent (b : List (List Int)) (hg : ∀ i, i < b.length → (b.getD i []).length = 512) : ∀ j, j ≤ b.length → (∀ x ∈ ldR b j, Ent b.length x) ∧ ∀ i : Nat, lastR (ldR b j) (i : Int) = if i < j then b.getD i [] else zeros
  | 0, _ => ⟨fun x hx => (by cases hx), fun i => by rw [if_neg (Nat.not_lt_zero _)]; rfl⟩
  | j + 1, hj => by
    obtain ⟨h1, h2⟩ := ldR_ent b hg j (by omega)
    unfold ldR
    refine ⟨fun x hx => ?_, fun i => ?_⟩
    · rcases List.mem_append.1 hx with hx | hx
      · exact h1 x hx
      · rw [List.mem_singleton.1 hx]; exact ⟨⟨j, by omega, rfl⟩, hg j (by omega)⟩
    · rw [lastR_snoc, h2 i]
      show (if (j : Int) = (i : Int) then b.getD j [] else _) = _
      by_cases e : j = i
      · subst e; rw [if_pos rfl, if_pos (by omega)]
      · rw [if_neg (by omega)]
        by_cases e2 : i < j
        · rw [if_pos e2, if_pos (by omega)]
        · rw [if_neg e2, if_neg (by omega)]
theorem Rl.load (b : List (List Int)) (hg : ∀ i, i < b.length → (b.getD i []).length = 512) : Rl (DS.fresh b.length b) (ldR b b.length) [] := by
  obtain ⟨h1, h2⟩ := ldR_ent b hg b.length (Nat.le_refl _)
  refine ⟨rfl, h1, fun x hx => (by cases hx), fun i hi => ?_, fun i hi => rfl⟩
  rw [h2 i, if_pos (show i < b.length from hi)]
  rfl
end Go.Proofs.Ytddnhcnkjcdfgaa.M

namespace Go.Proofs.Ytddnhcnkjcdfgaa.M
open Go.RowKit Go.Maps Go.Proofs.YtddnhcnkjcdfgaaW.PrintWords Go.Proofs.YtddnhcnkjcdfgaaW.PrintLast Go.Proofs.YtddnhcnkjcdfgaaW.PrintMore
open Go.Proofs.Ytddnhcnkjcdfgaa.P hiding S106 k106 rd_T106 at_T106
open Go.Proofs.Ytddnhcnkjcdfgaa.R
set_option linter.unusedVariables false
set_option linter.unusedSimpArgs false
def prC (g : Nat) (s : DS) (v1 v2 : Value) : Array Value := #[.pointer (some ⟨g, 0, none⟩), .int .i64 (s.n : Int), v1, v2, .int .i64 s.r, .int .i64 s.wr, .int .i64 s.fl]
def prL (gp g : Nat) (s : DS) (v1 v2 : Value) (l1 l2 : List S106) : List Th := [cellsT gp (prC g s v1 v2) 78, dkT g s, refT v1 v2 l1 l2]
theorem ref_new_f (n : Nat) (h2 : 2 ≤ n) (hm : n ≤ 65536) : kilnref3_New.f (n : Int) = some ((n : Int), [], [], 0, 0, 0, 0) := by
  unfold kilnref3_New.f
  rw [if_neg (by omega), if_neg (by omega)]
set_option maxHeartbeats 8000000 in
set_option maxRecDepth 100000 in
theorem started_yes (n : Nat) (h2 : 2 ≤ n) (hm : n ≤ 65536) (w : World) :
    Calls Try.prog 37 #[.int .i64 (n : Int)] w fun e w' => ∃ gp g A1 c1 A2 c2, e = .returned (.tuple #[.pointer (some ⟨gp, 0, none⟩), .bool true]) ∧ Sep w w' (prL gp g (DS.fresh n (List.replicate n zeros)) (.slice A1 0 c1) (.slice A2 0 c2) [] []) := by
  have HN := Aside0.mk (Sep.new (Sep.refl w) n h2 hm)
  have HR := Aside0.mk (fun W (L : List Th) (h : Sep w W L) => Sep.rNew h (n : Int) (n : Int) [] [] 0 0 0 0 (ref_new_f n h2 hm))
  clear h2 hm
  go_enter Try.func37, Try.ntmps37
  go_upto_region 3 with (first
    | (go_at_call 21; (with_reducible refine HN.out.mono ?_); rintro e w1 ⟨g, rfl, h⟩; have HS1 := Aside0.mk h; clear h)
    | (go_at_call 47; (with_reducible refine (HR.out _ _ HS1.out).mono ?_); rintro e w2 ⟨A1, c1, A2, c2, rfl, h⟩; have HS2 := Aside0.mk h; clear h))
  have HS3 := Aside0.mk (HS2.out.push_alloc #[.int .i64 (n : Int), .slice A1 0 c1, .slice A2 0 c2, .int .i64 0, .int .i64 0, .int .i64 0] 76)
  clear HN HR HS1 HS2
  have hd := blk_cell HS3.out.cells.1
  generalize w2.alloc (.cells #[.int .i64 (n : Int), .slice A1 0 c1, .slice A2 0 c2, .int .i64 0, .int .i64 0, .int .i64 0] 76) = w3 at HS3 hd ⊢
  generalize w2.heap.size = gd at HS3 hd ⊢
  have hd0 : w3.cell? ⟨gd, 0, none⟩ = some (.int .i64 (n : Int)) := hd 0
  have hd1 : w3.cell? ⟨gd, 1, none⟩ = some (.slice A1 0 c1) := hd 1
  have hd2 : w3.cell? ⟨gd, 2, none⟩ = some (.slice A2 0 c2) := hd 2
  have hd3 : w3.cell? ⟨gd, 3, none⟩ = some (.int .i64 0) := hd 3
  have hd4 : w3.cell? ⟨gd, 4, none⟩ = some (.int .i64 0) := hd 4
  have hd5 : w3.cell? ⟨gd, 5, none⟩ = some (.int .i64 0) := hd 5
  clear hd
  go_wp2
  go_ret2
  exact ⟨_, g, A1, c1, A2, c2, rfl, (HS3.out.push_alloc (prC g (DS.fresh n (List.replicate n zeros)) (.slice A1 0 c1) (.slice A2 0 c2)) 78).sel 4 [0, 3, 2] _ rfl (by decide) rfl⟩
end Go.Proofs.Ytddnhcnkjcdfgaa.M

namespace Go.Proofs.Ytddnhcnkjcdfgaa.M
open Go.RowKit Go.Maps Go.Proofs.YtddnhcnkjcdfgaaW.PrintWords Go.Proofs.YtddnhcnkjcdfgaaW.PrintLast Go.Proofs.YtddnhcnkjcdfgaaW.PrintMore
open Go.Proofs.Ytddnhcnkjcdfgaa.P hiding S106 k106 rd_T106 at_T106
open Go.Proofs.Ytddnhcnkjcdfgaa.R
set_option linter.unusedVariables false
set_option linter.unusedSimpArgs false
variable {w0 : World} {L : List Th}
theorem Sep.cset {w : World} {g e : Nat} {cs : Array Value} (h : Sep w0 w (cellsT g cs e :: L)) (i : Nat) (v : Value) : Sep w0 (w.setCell ⟨g, i, none⟩ v) (cellsT g (cs.setIfInBounds i v) e :: L) := by
  obtain ⟨F, ⟨h1, h2⟩, h3, h4⟩ := h.open1
  exact h4 (cellsT g _ e) _ F ⟨blk_set h1 i v, h2⟩ (fun b hb => .inl hb) ((Chg.refl F w).setCell ((h2 g).2 rfl) i v)
theorem Sep.cset6 {w : World} {g e : Nat} {a0 a1 a2 a3 a4 a5 a6 : Value} (h : Sep w0 w (cellsT g #[a0, a1, a2, a3, a4, a5, a6] e :: L)) (b1 b2 b3 b4 b5 b6 : Value) :
    Sep w0 ((((((w.setCell ⟨g, 1, none⟩ b1).setCell ⟨g, 2, none⟩ b2).setCell ⟨g, 3, none⟩ b3).setCell ⟨g, 4, none⟩ b4).setCell ⟨g, 5, none⟩ b5).setCell ⟨g, 6, none⟩ b6) (cellsT g #[a0, b1, b2, b3, b4, b5, b6] e :: L) :=
  (((((h.cset 1 b1).cset 2 b2).cset 3 b3).cset 4 b4).cset 5 b5).cset 6 b6
set_option maxHeartbeats 8000000 in
set_option maxRecDepth 100000 in
theorem does_flush (gp g : Nat) (s : DS) (A1 : Option Addr) (c1 : Nat) (A2 : Option Addr) (c2 : Nat) (l1 l2 : List S106) (w : World)
    (h : Sep w0 w (cellsT gp (prC g s (.slice A1 l1.length c1) (.slice A2 l2.length c2)) 78 :: dkT g s :: refT (.slice A1 l1.length c1) (.slice A2 l2.length c2) l1 l2 :: L)) (hl : l1.length + l2.length ≤ 1000000) (hc : s.c < 1073741824) (b t fl : Int) (dv fv : Value) :
    Calls Try.prog 38 #[.pointer (some ⟨gp, 0, none⟩), .agg #[.int .i64 2, .int .i64 b, .int .i64 t, dv, .int .i64 fl, fv]] w fun e w' => e = .returned (.bool true) ∧ ∃ A1' c1' A2' c2',
      Sep w0 w' (cellsT gp (prC g s.flush (.slice A1' (flushR l1 l2).length c1') (.slice A2' 0 c2')) 78 :: dkT g s.flush :: refT (.slice A1' (flushR l1 l2).length c1') (.slice A2' 0 c2') (flushR l1 l2) [] :: L) := by
  have HS0 := Aside0.mk (h.push_alloc #[.int .i64 2, .int .i64 b, .int .i64 t, dv, .int .i64 fl, fv] 73)
  have HRF := Aside0.mk (flush_ev l1 l2 (s.n : Int) s.r s.wr s.fl hl)
  clear h hl
  go_enter Try.func38, Try.ntmps38
  go_upto_region 1 with (fail)
  generalize w.alloc (.cells #[.int .i64 2, .int .i64 b, .int .i64 t, dv, .int .i64 fl, fv] 73) = w1 at HS0 ⊢
  generalize w.heap.size = gb at HS0 ⊢
  have hk : w1.cell? ⟨gb, 0, none⟩ = some (.int .i64 2) := blk_cell HS0.out.cells.1 0
  have hp := blk_cell HS0.out.up1.cells.1
  have hp0 : w1.cell? ⟨gp, 0, none⟩ = some (.pointer (some ⟨g, 0, none⟩)) := hp 0
  have hp1 : w1.cell? ⟨gp, 1, none⟩ = some (.int .i64 (s.n : Int)) := hp 1
  have hp2 : w1.cell? ⟨gp, 2, none⟩ = some (.slice A1 l1.length c1) := hp 2
  have hp3 : w1.cell? ⟨gp, 3, none⟩ = some (.slice A2 l2.length c2) := hp 3
  have hp4 : w1.cell? ⟨gp, 4, none⟩ = some (.int .i64 s.r) := hp 4
  have hp5 : w1.cell? ⟨gp, 5, none⟩ = some (.int .i64 s.wr) := hp 5
  have hp6 : w1.cell? ⟨gp, 6, none⟩ = some (.int .i64 s.fl) := hp 6
  clear hp
  go_upto_region 14 with (first
    | (go_at_call 51; (with_reducible refine (Sep.rFlush HS0.out.up3 _ _ _ _ _ _ _ _ _ _ _ (HRF.out _ (Nat.le_refl _))).mono ?_); rintro e w2 ⟨A1', c1', A2', c2', rfl, h⟩; have HS2 := Aside0.mk h; clear h hp0 hp1 hp2 hp3 hp4 hp5 hp6; have hp := blk_cell HS2.out.up2.cells.1; have hp0 : w2.cell? ⟨gp, 0, none⟩ = some (.pointer (some ⟨g, 0, none⟩)) := hp 0; have hp1 : w2.cell? ⟨gp, 1, none⟩ = some (.int .i64 (s.n : Int)) := hp 1; have hp2 : w2.cell? ⟨gp, 2, none⟩ = some (.slice A1 l1.length c1) := hp 2; have hp3 : w2.cell? ⟨gp, 3, none⟩ = some (.slice A2 l2.length c2) := hp 3; have hp4 : w2.cell? ⟨gp, 4, none⟩ = some (.int .i64 s.r) := hp 4; have hp5 : w2.cell? ⟨gp, 5, none⟩ = some (.int .i64 s.wr) := hp 5; have hp6 : w2.cell? ⟨gp, 6, none⟩ = some (.int .i64 s.fl) := hp 6; have hf := blk_frozen HS2.out.up2.cells.1; have hf1 := hf 1; have hf2 := hf 2; have hf3 := hf 3; have hf4 := hf 4; have hf5 := hf 5; have hf6 := hf 6; clear hp hf))
  clear hp0 hp1 hp2 hp3 hp4 hp5 hp6 hf1 hf2 hf3 hf4 hf5 hf6
  have HS3 := Aside0.mk (HS2.out.up2.cset6 (.int .i64 (s.n : Int)) (.slice A1' (flushR l1 l2).length c1') (.slice A2' 0 c2') (.int .i64 s.r) (.int .i64 s.wr) (.int .i64 (wrap64 (s.fl + 1))))
  generalize ((((((w2.setCell ⟨gp, 1, none⟩ (.int .i64 (s.n : Int))).setCell ⟨gp, 2, none⟩ (.slice A1' (flushR l1 l2).length c1')).setCell ⟨gp, 3, none⟩ (.slice A2' 0 c2')).setCell ⟨gp, 4, none⟩ (.int .i64 s.r)).setCell ⟨gp, 5, none⟩ (.int .i64 s.wr)).setCell ⟨gp, 6, none⟩ (.int .i64 (wrap64 (s.fl + 1)))) = w3 at HS3 ⊢
  clear HS0 HS2 HRF
  have hp0 : w3.cell? ⟨gp, 0, none⟩ = some (.pointer (some ⟨g, 0, none⟩)) := blk_cell HS3.out.cells.1 0
  go_wp2_with (first
    | (go_at_call 17; (with_reducible refine (Sep.flush HS3.out.up3).mono ?_); rintro e w4 ⟨⟨v, rfl⟩, h⟩; have HS4 := Aside0.mk h; clear h hp0))
  go_ret
  exact ⟨rfl, A1', c1', A2', c2', HS4.out.up3.drop.up1⟩
set_option maxHeartbeats 8000000 in
set_option maxRecDepth 100000 in
theorem does_other (x : Value) (kd : Int) (hk : kd < 0 ∨ 7 < kd) (w : World) (b t fl : Int) (dv fv : Value) :
    Calls Try.prog 38 #[x, .agg #[.int .i64 kd, .int .i64 b, .int .i64 t, dv, .int .i64 fl, fv]] w fun e w' => e = .returned (.bool true) ∧ Below w.heap.size w w' := by
  have HS0 := Aside0.mk ((Sep.refl w).push_alloc #[.int .i64 kd, .int .i64 b, .int .i64 t, dv, .int .i64 fl, fv] 73)
  have e0 : (kd == 0) = false := beq_eq_false_iff_ne.2 (by omega)
  have e1 : (kd == 1) = false := beq_eq_false_iff_ne.2 (by omega)
  have e2 : (kd == 2) = false := beq_eq_false_iff_ne.2 (by omega)
  have e3 : (kd == 3) = false := beq_eq_false_iff_ne.2 (by omega)
  have e4 : (kd == 4) = false := beq_eq_false_iff_ne.2 (by omega)
  have e5 : (kd == 5) = false := beq_eq_false_iff_ne.2 (by omega)
  have e6 : (kd == 6) = false := beq_eq_false_iff_ne.2 (by omega)
  have e7 : (kd == 7) = false := beq_eq_false_iff_ne.2 (by omega)
  clear hk
  go_enter Try.func38, Try.ntmps38
  go_upto_region 1 with (fail)
  generalize w.alloc (.cells #[.int .i64 kd, .int .i64 b, .int .i64 t, dv, .int .i64 fl, fv] 73) = w1 at HS0 ⊢
  generalize w.heap.size = gb at HS0 ⊢
  have hk : w1.cell? ⟨gb, 0, none⟩ = some (.int .i64 kd) := blk_cell HS0.out.cells.1 0
  go_wp2
  go_ret
  exact ⟨rfl, HS0.out.below⟩
def does26_T : Bool × List (List Nat × List Nat) := (true, [([], []), ([0], [0]), ([1], [1]), ([2], [2]), ([3], [3]), ([], []), ([5], [5]), ([6], [6]), ([7], [7]), ([8], [8]), ([4, 9], [4, 9]), ([10, 4, 0, 1, 2, 3, 4, 5, 6, 7, 8, 9, 10], [10])])
def does26_B : List Nat := [0, 1, 3, 7, 15, 0, 32, 96, 224, 480, 1023, 2047]
theorem does26_tab : rtab .any (opsOf Try.f38 26) = does26_T := by kernel_rfl
theorem does26_bits : waitsOk does26_T.2 does26_B = true := by kernel_rfl
set_option maxHeartbeats 8000000 in
set_option maxRecDepth 100000 in
theorem does_sectors (gp g : Nat) (s : DS) (v1 v2 : Value) (w : World)
    (h : Sep w0 w (cellsT gp (prC g s v1 v2) 78 :: dkT g s :: L)) (b t fl : Int) (dv fv : Value) :
    Calls Try.prog 38 #[.pointer (some ⟨gp, 0, none⟩), .agg #[.int .i64 6, .int .i64 b, .int .i64 t, dv, .int .i64 fl, fv]] w fun e w' => e = .returned (.bool true) ∧ Below w.heap.size w w' := by
  have HS0 := Aside0.mk (h.push_alloc #[.int .i64 6, .int .i64 b, .int .i64 t, dv, .int .i64 fl, fv] 73)
  have HB0 := Aside0.mk (below_alloc (Below.refl w.heap.size w) (.cells #[.int .i64 6, .int .i64 b, .int .i64 t, dv, .int .i64 fl, fv] 73))
  clear h
  go_enter Try.func38, Try.ntmps38
  go_upto_region 1 with (fail)
  generalize hw1 : w.alloc (.cells #[.int .i64 6, .int .i64 b, .int .i64 t, dv, .int .i64 fl, fv] 73) = w1 at HS0 HB0 ⊢
  clear hw1
  generalize hgb : w.heap.size = gb at HS0 ⊢
  have hk : w1.cell? ⟨gb, 0, none⟩ = some (.int .i64 6) := blk_cell HS0.out.cells.1 0
  go_upto_region 26 with (fail)
  have hp := blk_cell HS0.out.up1.cells.1
  have hp0 : w1.cell? ⟨gp, 0, none⟩ = some (.pointer (some ⟨g, 0, none⟩)) := hp 0
  have hp1 : w1.cell? ⟨gp, 1, none⟩ = some (.int .i64 (s.n : Int)) := hp 1
  clear hp hk
  have HS1 := Aside0.mk (HS0.out.step (below_drew1 (Below.refl w1.heap.size w1)))
  have HB1 := Aside0.mk (below_drew1 HB0.out)
  clear HS0 HB0
  refine start_ (n := 12) (S := fun W => W.cell? ⟨gp, 0, none⟩ = some (.pointer (some ⟨g, 0, none⟩)) ∧ W.cell? ⟨gp, 1, none⟩ = some (.int .i64 (s.n : Int))) (ds := [11]) (bb 12 0) (by kernel_rfl) rfl rfl (⟨hp0, hp1⟩) (fun hHeld => ?_); refine with_tabW does26_tab does26_bits (fun HT_ HW_ => ?_)
  generalize w1.drew = wd at hHeld HS1 HB1 ⊢
  refine pure_ (i := 0) (N := (some 168)) (v := ?_) (a' := ?_) (bb 12 1) rfl rfl (any_of HT_.out (by kernel_rfl)) (fun _ _ _ h => h) (Or.inl ⟨by rfl, ?_⟩) ?_ ?_
  rotate_left
  · intro w'
    go_simp
    with_reducible rfl
  rotate_left
  · simp only [Act.put, List.setIfInBounds_toArray, List.set_cons_zero, List.set_cons_succ, i64_w, i32_w]
    rfl
  refine pure_ (i := 1) (N := (some 169)) (v := ?_) (a' := ?_) (bb 12 3) rfl rfl (any_of HT_.out (by kernel_rfl)) (fun _ _ _ h => h) (Or.inl ⟨by rfl, ?_⟩) ?_ ?_
  rotate_left
  · intro w'
    go_simp
    with_reducible rfl
  rotate_left
  · simp only [Act.put, List.setIfInBounds_toArray, List.set_cons_zero, List.set_cons_succ, i64_w, i32_w]
    rfl
  refine pure_ (i := 2) (N := (some 170)) (v := ?_) (a' := ?_) (bb 12 7) rfl rfl (any_of HT_.out (by kernel_rfl)) (fun _ _ _ h => h) (Or.inl ⟨by rfl, ?_⟩) ?_ ?_
  rotate_left
  · intro w'
    go_simp
    with_reducible rfl
  rotate_left
  · simp only [Act.put, List.setIfInBounds_toArray, List.set_cons_zero, List.set_cons_succ, i64_w, i32_w]
    rfl
  refine take_ (i := 3) (N := (some 171)) (v := ?_) (a' := ?_) (bb 12 15) rfl rfl (take_ofW HT_.out HW_.out (by kernel_rfl)) (fun _ _ _ h => h) (Or.inl ⟨by rfl, ?_⟩) hHeld ?_ ?_
  rotate_left
  · intro w' s0
    (try dsimp only at s0)
    go_simp
    with_reducible rfl
  rotate_left
  · simp only [Act.put, List.setIfInBounds_toArray, List.set_cons_zero, List.set_cons_succ, i64_w, i32_w]
    rfl
  refine pure_ (i := 5) (N := (some 173)) (v := ?_) (a' := ?_) (bb 12 47) rfl rfl (any_of HT_.out (by kernel_rfl)) (fun _ _ _ h => h) (Or.inl ⟨by rfl, ?_⟩) ?_ ?_
  rotate_left
  · intro w'
    go_simp
    with_reducible rfl
  rotate_left
  · simp only [Act.put, List.setIfInBounds_toArray, List.set_cons_zero, List.set_cons_succ, i64_w, i32_w]
    rfl
  refine pure_ (i := 6) (N := (some 174)) (v := ?_) (a' := ?_) (bb 12 111) rfl rfl (any_of HT_.out (by kernel_rfl)) (fun _ _ _ h => h) (Or.inl ⟨by rfl, ?_⟩) ?_ ?_
  rotate_left
  · intro w'
    go_simp
    with_reducible rfl
  rotate_left
  · simp only [Act.put, List.setIfInBounds_toArray, List.set_cons_zero, List.set_cons_succ, i64_w, i32_w]
    rfl
  refine pure_ (i := 7) (N := (some 175)) (v := ?_) (a' := ?_) (bb 12 239) rfl rfl (any_of HT_.out (by kernel_rfl)) (fun _ _ _ h => h) (Or.inl ⟨by rfl, ?_⟩) ?_ ?_
  rotate_left
  · intro w'
    go_simp
    with_reducible rfl
  rotate_left
  · simp only [Act.put, List.setIfInBounds_toArray, List.set_cons_zero, List.set_cons_succ, i64_w, i32_w]
    rfl
  refine pure_ (i := 8) (N := (some 176)) (v := ?_) (a' := ?_) (bb 12 495) rfl rfl (any_of HT_.out (by kernel_rfl)) (fun _ _ _ h => h) (Or.inl ⟨by rfl, ?_⟩) ?_ ?_
  rotate_left
  · intro w'
    go_simp
    with_reducible rfl
  rotate_left
  · simp only [Act.put, List.setIfInBounds_toArray, List.set_cons_zero, List.set_cons_succ, i64_w, i32_w]
    rfl
  refine take_ (i := 9) (N := (some 177)) (v := ?_) (a' := ?_) (bb 12 1007) rfl rfl (take_ofW HT_.out HW_.out (by kernel_rfl)) (fun _ _ _ h => h) (Or.inl ⟨by rfl, ?_⟩) hHeld ?_ ?_
  rotate_left
  · intro w' s0
    (try dsimp only at s0)
    go_simp
    with_reducible rfl
  rotate_left
  · simp only [Act.put, List.setIfInBounds_toArray, List.set_cons_zero, List.set_cons_succ, i64_w, i32_w]
    rfl
  refine one_ (i := 4) (N := (some 172)) (bb 12 1023) rfl rfl (one_of HT_.out (by kernel_rfl)) (by decide) (fun K hK => ?_)
  refine goes_ Try.func29 (by kernel_rfl) rfl #[.pointer (some ⟨g, 0, none⟩)] (by rfl) rfl rfl (by (try simp only [List.map_toArray, List.map_cons, List.map_nil]); first | done | rfl) ?_
  with_reducible refine (Sep.sectors HS1.out.up2).mono ?_
  rintro e w5 ⟨rfl, rfl⟩
  refine ⟨_, rfl, ?_⟩
  refine hK.out _ _ (hHeld) (fun hHeld => ?_)
  clear hK K
  refine norm_ (a' := ?_) ?_ ?_
  rotate_left
  · show Act.put _ (some 172) _ = _
    simp only [Act.put, List.setIfInBounds_toArray, List.set_cons_zero, List.set_cons_succ, i64_w, i32_w]
    rfl
  refine pure_ (i := 10) (N := (some 178)) (v := ?_) (a' := ?_) (bb 12 2047) rfl rfl (any_of HT_.out (by kernel_rfl)) (fun _ _ _ h => h) (Or.inl ⟨by rfl, ?_⟩) ?_ ?_
  rotate_left
  · intro w'
    go_simp
    with_reducible rfl
  rotate_left
  · simp only [Act.put, List.setIfInBounds_toArray, List.set_cons_zero, List.set_cons_succ, i64_w, i32_w]
    rfl
  refine pure_ (i := 11) (N := (some 4)) (v := ?_) (a' := ?_) (bb 12 4095) rfl rfl (any_of HT_.out (by kernel_rfl)) (fun _ _ _ h => h) (Or.inl ⟨by rfl, ?_⟩) ?_ ?_
  rotate_left
  · intro w'
    go_simp
    with_reducible rfl
  rotate_left
  · simp only [Act.put, List.setIfInBounds_toArray, List.set_cons_zero, List.set_cons_succ, i64_w, i32_w]
    rfl
  refine done_ (done_of HT_.out (by kernel_rfl)) ?_
  go_wp2
  go_ret
  exact ⟨by simp, HB1.out⟩
end Go.Proofs.Ytddnhcnkjcdfgaa.M

namespace Go.Proofs.Ytddnhcnkjcdfgaa.M
open Go.RowKit Go.Maps Go.Proofs.YtddnhcnkjcdfgaaW.PrintWords Go.Proofs.YtddnhcnkjcdfgaaW.PrintLast Go.Proofs.YtddnhcnkjcdfgaaW.PrintMore
open Go.Proofs.Ytddnhcnkjcdfgaa.P hiding S106 k106 rd_T106 at_T106
open Go.Proofs.Ytddnhcnkjcdfgaa.R
set_option linter.unusedVariables false
set_option linter.unusedSimpArgs false
variable {w0 : World} {L : List Th}
def does16_T : Bool × List (List Nat × List Nat) := (true, [([], []), ([], []), ([1], [1]), ([2], [2]), ([3], [3]), ([], []), ([5], [5]), ([4, 6], [4, 6]), ([0, 0, 1, 2, 3, 4, 5, 6, 7], [0]), ([8, 0, 1, 2, 3, 4, 5, 6, 7], [8]), ([9, 7, 7, 0, 1, 2, 3, 4, 5, 6, 7], [7, 9])])
def does16_B : List Nat := [0, 0, 2, 6, 14, 0, 32, 126, 255, 511, 1023]
theorem does16_tab : rtab .any (opsOf Try.f38 16) = does16_T := by kernel_rfl
theorem does16_bits : waitsOk does16_T.2 does16_B = true := by kernel_rfl
def does17_T : Bool × List (List Nat × List Nat) := (true, [([], []), ([0], [0]), ([1], [1]), ([2], [2]), ([], []), ([4], [4]), ([3, 5], [3, 5])])
def does17_B : List Nat := [0, 1, 3, 7, 0, 16, 63]
theorem does17_tab : rtab .any (opsOf Try.f38 17) = does17_T := by kernel_rfl
theorem does17_bits : waitsOk does17_T.2 does17_B = true := by kernel_rfl
set_option maxHeartbeats 8000000 in
set_option maxRecDepth 100000 in
theorem does_crash (gp g : Nat) (s : DS) (A1 : Option Addr) (c1 : Nat) (A2 : Option Addr) (c2 : Nat) (l1 l2 : List S106) (w : World)
    (h : Sep w0 w (cellsT gp (prC g s (.slice A1 l1.length c1) (.slice A2 l2.length c2)) 78 :: dkT g s :: refT (.slice A1 l1.length c1) (.slice A2 l2.length c2) l1 l2 :: L)) (hl : l1.length + l2.length ≤ 1000000) (hc : s.c < 1073741824) (hR : Rl s l1 l2)
    (b t fl : Int) (dv : Value) (A5 : Option Addr) (c5 : Nat) (fs : List Int) (hC5 : Kd.C (Kd.int .i64) w0 A5 fs.length fs) (hc5 : fs.length ≤ c5) :
    Calls Try.prog 38 #[.pointer (some ⟨gp, 0, none⟩), .agg #[.int .i64 3, .int .i64 b, .int .i64 t, dv, .int .i64 fl, .slice A5 fs.length c5]] w fun e w' => e = .returned (.bool true) ∧ ∃ A1' c1' A2' c2',
      Sep w0 w' (cellsT gp (prC g (s.crash fs) (.slice A1' (crashR l1 l2 fs s.keysI s.keysI.length).length c1') (.slice A2' 0 c2')) 78 :: dkT g (s.crash fs) :: refT (.slice A1' (crashR l1 l2 fs s.keysI s.keysI.length).length c1') (.slice A2' 0 c2') (crashR l1 l2 fs s.keysI s.keysI.length) [] :: L) := by
  have HS0 := Aside0.mk (h.push_alloc #[.int .i64 3, .int .i64 b, .int .i64 t, dv, .int .i64 fl, .slice A5 fs.length c5] 73)
  obtain ⟨k0, hk0⟩ := crash_ev fs (s.n : Int) l1 l2 s.keysI hR.keys hl s.r s.wr s.fl
  have HRF := Aside0.mk hk0
  have HC5 := Aside0.mk hC5
  clear h hl hk0 hR hC5
  generalize crashR l1 l2 fs s.keysI s.keysI.length = cr at HRF ⊢
  go_enter Try.func38, Try.ntmps38
  go_upto_region 1 with (fail)
  generalize w.alloc (.cells #[.int .i64 3, .int .i64 b, .int .i64 t, dv, .int .i64 fl, .slice A5 fs.length c5] 73) = w1 at HS0 ⊢
  generalize w.heap.size = gb at HS0 ⊢
  have hk : w1.cell? ⟨gb, 0, none⟩ = some (.int .i64 3) := blk_cell HS0.out.cells.1 0
  go_upto_region 16 with (fail)
  have hb5 : w1.cell? ⟨gb, 5, none⟩ = some (.slice A5 fs.length c5) := blk_cell HS0.out.cells.1 5
  have hp := blk_cell HS0.out.up1.cells.1
  have hp1 : w1.cell? ⟨gp, 1, none⟩ = some (.int .i64 (s.n : Int)) := hp 1
  have hp2 : w1.cell? ⟨gp, 2, none⟩ = some (.slice A1 l1.length c1) := hp 2
  have hp3 : w1.cell? ⟨gp, 3, none⟩ = some (.slice A2 l2.length c2) := hp 3
  have hp4 : w1.cell? ⟨gp, 4, none⟩ = some (.int .i64 s.r) := hp 4
  have hp5 : w1.cell? ⟨gp, 5, none⟩ = some (.int .i64 s.wr) := hp 5
  have hp6 : w1.cell? ⟨gp, 6, none⟩ = some (.int .i64 s.fl) := hp 6
  have HS1 := Aside0.mk (HS0.out.step (below_drew1 (Below.refl w1.heap.size w1)))
  clear hp hk HS0
  refine start_ (n := 11) (S := fun W => W.cell? ⟨gp, 1, none⟩ = some (.int .i64 (s.n : Int)) ∧ W.cell? ⟨gp, 2, none⟩ = some (.slice A1 l1.length c1) ∧ W.cell? ⟨gp, 3, none⟩ = some (.slice A2 l2.length c2) ∧ W.cell? ⟨gp, 4, none⟩ = some (.int .i64 s.r) ∧ W.cell? ⟨gp, 5, none⟩ = some (.int .i64 s.wr) ∧ W.cell? ⟨gp, 6, none⟩ = some (.int .i64 s.fl) ∧ W.cell? ⟨gb, 5, none⟩ = some (.slice A5 fs.length c5)) (ds := [10]) (bb 11 0) (by kernel_rfl) rfl rfl (⟨hp1, hp2, hp3, hp4, hp5, hp6, hb5⟩) (fun hHeld => ?_); refine with_tabW does16_tab does16_bits (fun HT_ HW_ => ?_)
  generalize w1.drew = wd at hHeld HS1 ⊢
  refine pure_ (i := 0) (N := (some 106)) (v := ?_) (a' := ?_) (bb 11 1) rfl rfl (any_of HT_.out (by kernel_rfl)) (fun _ _ _ h => h) (Or.inl ⟨by rfl, ?_⟩) ?_ ?_
  rotate_left
  · intro w'
    go_simp
    with_reducible rfl
  rotate_left
  · simp only [Act.put, List.setIfInBounds_toArray, List.set_cons_zero, List.set_cons_succ, i64_w, i32_w]
    rfl
  refine pure_ (i := 1) (N := (some 107)) (v := ?_) (a' := ?_) (bb 11 3) rfl rfl (any_of HT_.out (by kernel_rfl)) (fun _ _ _ h => h) (Or.inl ⟨by rfl, ?_⟩) ?_ ?_
  rotate_left
  · intro w'
    go_simp
    with_reducible rfl
  rotate_left
  · simp only [Act.put, List.setIfInBounds_toArray, List.set_cons_zero, List.set_cons_succ, i64_w, i32_w]
    rfl
  refine pure_ (i := 2) (N := (some 108)) (v := ?_) (a' := ?_) (bb 11 7) rfl rfl (any_of HT_.out (by kernel_rfl)) (fun _ _ _ h => h) (Or.inl ⟨by rfl, ?_⟩) ?_ ?_
  rotate_left
  · intro w'
    go_simp
    with_reducible rfl
  rotate_left
  · simp only [Act.put, List.setIfInBounds_toArray, List.set_cons_zero, List.set_cons_succ, i64_w, i32_w]
    rfl
  refine pure_ (i := 3) (N := (some 109)) (v := ?_) (a' := ?_) (bb 11 15) rfl rfl (any_of HT_.out (by kernel_rfl)) (fun _ _ _ h => h) (Or.inl ⟨by rfl, ?_⟩) ?_ ?_
  rotate_left
  · intro w'
    go_simp
    with_reducible rfl
  rotate_left
  · simp only [Act.put, List.setIfInBounds_toArray, List.set_cons_zero, List.set_cons_succ, i64_w, i32_w]
    rfl
  refine take_ (i := 4) (N := (some 110)) (v := ?_) (a' := ?_) (bb 11 31) rfl rfl (take_ofW HT_.out HW_.out (by kernel_rfl)) (fun _ _ _ h => h) (Or.inl ⟨by rfl, ?_⟩) hHeld ?_ ?_
  rotate_left
  · intro w' s0
    (try dsimp only at s0)
    go_simp
    with_reducible rfl
  rotate_left
  · simp only [Act.put, List.setIfInBounds_toArray, List.set_cons_zero, List.set_cons_succ, i64_w, i32_w]
    rfl
  refine pure_ (i := 5) (N := (some 111)) (v := ?_) (a' := ?_) (bb 11 63) rfl rfl (any_of HT_.out (by kernel_rfl)) (fun _ _ _ h => h) (Or.inl ⟨by rfl, ?_⟩) ?_ ?_
  rotate_left
  · intro w'
    go_simp
    with_reducible rfl
  rotate_left
  · simp only [Act.put, List.setIfInBounds_toArray, List.set_cons_zero, List.set_cons_succ, i64_w, i32_w]
    rfl
  refine take_ (i := 6) (N := (some 112)) (v := ?_) (a' := ?_) (bb 11 127) rfl rfl (take_ofW HT_.out HW_.out (by kernel_rfl)) (fun _ _ _ h => h) (Or.inl ⟨by rfl, ?_⟩) hHeld ?_ ?_
  rotate_left
  · intro w' s0
    (try dsimp only at s0)
    go_simp
    with_reducible rfl
  rotate_left
  · simp only [Act.put, List.setIfInBounds_toArray, List.set_cons_zero, List.set_cons_succ, i64_w, i32_w]
    rfl
  refine one_ (i := 7) (N := (some 113)) (bb 11 255) rfl rfl (one_of HT_.out (by kernel_rfl)) (by decide) (fun K hK => ?_)
  refine goes_ Try.func52 (by kernel_rfl) rfl #[.agg #[.int .i64 (s.n : Int), .slice A1 l1.length c1, .slice A2 l2.length c2, .int .i64 s.r, .int .i64 s.wr, .int .i64 s.fl], .slice A5 fs.length c5] (by rfl) rfl rfl (by (try simp only [List.map_toArray, List.map_cons, List.map_nil]); first | done | rfl) ?_
  with_reducible refine (Sep.rCrash HS1.out.up3 k0 _ _ _ _ A5 c5 fs _ _ _ _ _ _ (Kd.C_below HC5.out HS1.out.below) hc5 HRF.out).mono ?_
  rintro e w2 ⟨A1', c1', A2', c2', rfl, h⟩
  have HS2 := Aside0.mk h
  clear h
  have hp := blk_cell HS2.out.up2.cells.1
  have hq1 : w2.cell? ⟨gp, 1, none⟩ = some (.int .i64 (s.n : Int)) := hp 1
  have hq2 : w2.cell? ⟨gp, 2, none⟩ = some (.slice A1 l1.length c1) := hp 2
  have hq3 : w2.cell? ⟨gp, 3, none⟩ = some (.slice A2 l2.length c2) := hp 3
  have hq4 : w2.cell? ⟨gp, 4, none⟩ = some (.int .i64 s.r) := hp 4
  have hq5 : w2.cell? ⟨gp, 5, none⟩ = some (.int .i64 s.wr) := hp 5
  have hq6 : w2.cell? ⟨gp, 6, none⟩ = some (.int .i64 s.fl) := hp 6
  have hf := blk_frozen HS2.out.up2.cells.1
  have hf1 := hf 1
  have hf2 := hf 2
  have hf3 := hf 3
  have hf4 := hf 4
  have hf5 := hf 5
  have hf6 := hf 6
  have hqb : w2.cell? ⟨gb, 5, none⟩ = some (.slice A5 fs.length c5) := blk_cell HS2.out.up1.cells.1 5
  clear hp hf
  refine ⟨_, rfl, ?_⟩
  refine hK.out _ _ (⟨hq1, hq2, hq3, hq4, hq5, hq6, hqb⟩) (fun hHeld => ?_)
  clear hK K
  refine norm_ (a' := ?_) ?_ ?_
  rotate_left
  · show Act.put _ (some 113) _ = _
    simp only [Act.put, List.setIfInBounds_toArray, List.set_cons_zero, List.set_cons_succ, i64_w, i32_w]
    rfl
  refine pure_ (i := 8) (N := (some 114)) (v := ?_) (a' := ?_) (bb 11 511) rfl rfl (any_of HT_.out (by kernel_rfl)) (fun _ _ _ h => h) (Or.inl ⟨by rfl, ?_⟩) ?_ ?_
  rotate_left
  · intro w'
    go_simp
    with_reducible rfl
  rotate_left
  · simp only [Act.put, List.setIfInBounds_toArray, List.set_cons_zero, List.set_cons_succ, i64_w, i32_w]
    rfl
  refine pure_ (i := 9) (N := (some 115)) (v := ?_) (a' := ?_) (bb 11 1023) rfl rfl (any_of HT_.out (by kernel_rfl)) (fun _ _ _ h => h) (Or.inl ⟨by rfl, ?_⟩) ?_ ?_
  rotate_left
  · intro w'
    go_simp
    with_reducible rfl
  rotate_left
  · simp only [Act.put, List.setIfInBounds_toArray, List.set_cons_zero, List.set_cons_succ, i64_w, i32_w]
    rfl
  refine last_ (i := 10) (N := none) (bb 11 2047) rfl rfl (one_of HT_.out (by kernel_rfl)) (by decide) (fun K hK => ?_)
  refine skip_ (w1 := ?_) (by rfl) rfl ?_ ?_
  rotate_left
  · go_simp
    first | rfl | (constructor <;> rfl)
  refine hK.out _ _ ?_
  clear hK K
  refine done_ (done_of HT_.out (by kernel_rfl)) ?_
  clear hHeld hq1 hq2 hq3 hq4 hq5 hq6 hf1 hf2 hf3 hf4 hf5 hf6 hqb hb5 hp1 hp2 hp3 hp4 hp5 hp6
  have HS3 := Aside0.mk (HS2.out.up2.cset6 (.int .i64 (s.n : Int)) (.slice A1' cr.length c1') (.slice A2' 0 c2') (.int .i64 s.r) (.int .i64 s.wr) (.int .i64 s.fl))
  clear HS1 HS2 HRF
  have hp0 := blk_cell HS3.out.cells.1 0
  have hb5 := blk_cell HS3.out.up2.cells.1 5
  generalize ((((((w2.setCell ⟨gp, 1, none⟩ (.int .i64 (s.n : Int))).setCell ⟨gp, 2, none⟩ (.slice A1' cr.length c1')).setCell ⟨gp, 3, none⟩ (.slice A2' 0 c2')).setCell ⟨gp, 4, none⟩ (.int .i64 s.r)).setCell ⟨gp, 5, none⟩ (.int .i64 s.wr)).setCell ⟨gp, 6, none⟩ (.int .i64 s.fl)) = w3 at HS3 hp0 hb5 ⊢
  replace hp0 : w3.cell? ⟨gp, 0, none⟩ = some (.pointer (some ⟨g, 0, none⟩)) := hp0
  replace hb5 : w3.cell? ⟨gb, 5, none⟩ = some (.slice A5 fs.length c5) := hb5
  have HS4 := Aside0.mk (HS3.out.step (below_drew1 (Below.refl w3.heap.size w3)))
  clear HS3
  go_upto_region 17 with (fail)
  refine start_ (n := 7) (S := fun W => W.cell? ⟨gp, 0, none⟩ = some (.pointer (some ⟨g, 0, none⟩)) ∧ W.cell? ⟨gb, 5, none⟩ = some (.slice A5 fs.length c5)) (ds := [6]) (bb 7 0) (by kernel_rfl) rfl rfl (⟨hp0, hb5⟩) (fun hHeld => ?_); refine with_tabW does17_tab does17_bits (fun HT_ HW_ => ?_)
  generalize w3.drew = wd at hHeld HS4 ⊢
  refine pure_ (i := 0) (N := (some 116)) (v := ?_) (a' := ?_) (bb 7 1) rfl rfl (any_of HT_.out (by kernel_rfl)) (fun _ _ _ h => h) (Or.inl ⟨by rfl, ?_⟩) ?_ ?_
  rotate_left
  · intro w'
    go_simp
    with_reducible rfl
  rotate_left
  · simp only [Act.put, List.setIfInBounds_toArray, List.set_cons_zero, List.set_cons_succ, i64_w, i32_w]
    rfl
  refine pure_ (i := 1) (N := (some 117)) (v := ?_) (a' := ?_) (bb 7 3) rfl rfl (any_of HT_.out (by kernel_rfl)) (fun _ _ _ h => h) (Or.inl ⟨by rfl, ?_⟩) ?_ ?_
  rotate_left
  · intro w'
    go_simp
    with_reducible rfl
  rotate_left
  · simp only [Act.put, List.setIfInBounds_toArray, List.set_cons_zero, List.set_cons_succ, i64_w, i32_w]
    rfl
  refine pure_ (i := 2) (N := (some 118)) (v := ?_) (a' := ?_) (bb 7 7) rfl rfl (any_of HT_.out (by kernel_rfl)) (fun _ _ _ h => h) (Or.inl ⟨by rfl, ?_⟩) ?_ ?_
  rotate_left
  · intro w'
    go_simp
    with_reducible rfl
  rotate_left
  · simp only [Act.put, List.setIfInBounds_toArray, List.set_cons_zero, List.set_cons_succ, i64_w, i32_w]
    rfl
  refine take_ (i := 3) (N := (some 119)) (v := ?_) (a' := ?_) (bb 7 15) rfl rfl (take_ofW HT_.out HW_.out (by kernel_rfl)) (fun _ _ _ h => h) (Or.inl ⟨by rfl, ?_⟩) hHeld ?_ ?_
  rotate_left
  · intro w' s0
    (try dsimp only at s0)
    go_simp
    with_reducible rfl
  rotate_left
  · simp only [Act.put, List.setIfInBounds_toArray, List.set_cons_zero, List.set_cons_succ, i64_w, i32_w]
    rfl
  refine pure_ (i := 4) (N := (some 120)) (v := ?_) (a' := ?_) (bb 7 31) rfl rfl (any_of HT_.out (by kernel_rfl)) (fun _ _ _ h => h) (Or.inl ⟨by rfl, ?_⟩) ?_ ?_
  rotate_left
  · intro w'
    go_simp
    with_reducible rfl
  rotate_left
  · simp only [Act.put, List.setIfInBounds_toArray, List.set_cons_zero, List.set_cons_succ, i64_w, i32_w]
    rfl
  refine take_ (i := 5) (N := (some 121)) (v := ?_) (a' := ?_) (bb 7 63) rfl rfl (take_ofW HT_.out HW_.out (by kernel_rfl)) (fun _ _ _ h => h) (Or.inl ⟨by rfl, ?_⟩) hHeld ?_ ?_
  rotate_left
  · intro w' s0
    (try dsimp only at s0)
    go_simp
    with_reducible rfl
  rotate_left
  · simp only [Act.put, List.setIfInBounds_toArray, List.set_cons_zero, List.set_cons_succ, i64_w, i32_w]
    rfl
  refine last_ (i := 6) (N := (some 122)) (bb 7 127) rfl rfl (one_of HT_.out (by kernel_rfl)) (by decide) (fun K hK => ?_)
  refine goes_ Try.func30 (by kernel_rfl) rfl #[.pointer (some ⟨g, 0, none⟩), .slice A5 fs.length c5] (by rfl) rfl rfl (by (try simp only [List.map_toArray, List.map_cons, List.map_nil]); first | done | rfl) ?_
  with_reducible refine (Sep.crash_arg HS4.out.up3 hc A5 c5 fs HC5.out).mono ?_
  rintro e w5 ⟨⟨v, rfl⟩, h⟩
  have HS5 := Aside0.mk h
  clear h
  refine ⟨_, rfl, ?_⟩
  refine hK.out _ _ ?_
  clear hK K
  refine norm_ (a' := ?_) ?_ ?_
  rotate_left
  · show Act.put _ (some 122) _ = _
    simp only [Act.put, List.setIfInBounds_toArray, List.set_cons_zero, List.set_cons_succ, i64_w, i32_w]
    rfl
  refine done_ (done_of HT_.out (by kernel_rfl)) ?_
  clear hHeld hp0 hb5 HS4
  go_wp2
  go_ret
  exact ⟨rfl, A1', c1', A2', c2', HS5.out.up3.drop.up1⟩
end Go.Proofs.Ytddnhcnkjcdfgaa.M

namespace Go.Proofs.Ytddnhcnkjcdfgaa.M
open Go.RowKit Go.Maps Go.Proofs.YtddnhcnkjcdfgaaW.PrintWords Go.Proofs.YtddnhcnkjcdfgaaW.PrintLast Go.Proofs.YtddnhcnkjcdfgaaW.PrintMore
open Go.Proofs.Ytddnhcnkjcdfgaa.P hiding S106 k106 rd_T106 at_T106
open Go.Proofs.Ytddnhcnkjcdfgaa.R
set_option linter.unusedVariables false
set_option linter.unusedSimpArgs false
variable {w0 : World} {L : List Th}
theorem pr_held {W : World} {gp gb : Nat} {a0 a1 a2 a3 a4 a5 a6 b0 b1 b2 b3 b4 b5 : Value} (h : Sep w0 W (cellsT gb #[b0, b1, b2, b3, b4, b5] 73 :: cellsT gp #[a0, a1, a2, a3, a4, a5, a6] 78 :: L)) :
    W.cell? ⟨gp, 1, none⟩ = some a1 ∧ W.cell? ⟨gp, 2, none⟩ = some a2 ∧ W.cell? ⟨gp, 3, none⟩ = some a3 ∧ W.cell? ⟨gp, 4, none⟩ = some a4 ∧ W.cell? ⟨gp, 5, none⟩ = some a5 ∧ W.cell? ⟨gp, 6, none⟩ = some a6 ∧ W.cell? ⟨gb, 1, none⟩ = some b1 :=
  ⟨blk_cell h.up1.cells.1 1, blk_cell h.up1.cells.1 2, blk_cell h.up1.cells.1 3, blk_cell h.up1.cells.1 4, blk_cell h.up1.cells.1 5, blk_cell h.up1.cells.1 6, blk_cell h.cells.1 1⟩
theorem Sep.up5 {w : World} {a b c d e f : Th} (h : Sep w0 w (a :: b :: c :: d :: e :: f :: L)) : Sep w0 w (f :: a :: b :: c :: d :: e :: L) := h.perm (List.perm_middle (l₁ := [a, b, c, d, e]))
theorem Sep.up6 {w : World} {a b c d e f g : Th} (h : Sep w0 w (a :: b :: c :: d :: e :: f :: g :: L)) : Sep w0 w (g :: a :: b :: c :: d :: e :: f :: L) := h.perm (List.perm_middle (l₁ := [a, b, c, d, e, f]))
theorem Sep.cset60 {w : World} {g e : Nat} {a1 a2 a3 a4 a5 a6 : Value} (h : Sep w0 w (cellsT g #[a1, a2, a3, a4, a5, a6] e :: L)) (b1 b2 b3 b4 b5 b6 : Value) :
    Sep w0 ((((((w.setCell ⟨g, 0, none⟩ b1).setCell ⟨g, 1, none⟩ b2).setCell ⟨g, 2, none⟩ b3).setCell ⟨g, 3, none⟩ b4).setCell ⟨g, 4, none⟩ b5).setCell ⟨g, 5, none⟩ b6) (cellsT g #[b1, b2, b3, b4, b5, b6] e :: L) :=
  (((((h.cset 0 b1).cset 1 b2).cset 2 b3).cset 3 b4).cset 4 b5).cset 5 b6
def does3_T : Bool × List (List Nat × List Nat) := (true, [([], []), ([0], [0]), ([1], [1]), ([2], [2]), ([], []), ([4], [4]), ([3, 5], [3, 5]), ([6], [6]), ([7], [7]), ([7], [7]), ([7], [7]), ([], []), ([11, 8, 6, 0, 1, 2, 3, 4, 5, 6, 7, 8, 11], [8, 11]), ([9, 12, 0, 1, 2, 3, 4, 5, 6, 7, 8, 9, 11, 12], [9]), ([10, 13, 0, 1, 2, 3, 4, 5, 6, 7, 8, 9, 10, 11, 12, 13], [10])])
def does3_B : List Nat := [0, 1, 3, 7, 0, 16, 63, 127, 255, 255, 255, 0, 2559, 7167, 16383]
theorem does3_tab : rtab .any (opsOf Try.f38 3) = does3_T := by kernel_rfl
theorem does3_bits : waitsOk does3_T.2 does3_B = true := by kernel_rfl
def does4_T : Bool × List (List Nat × List Nat) := (true, [([], []), ([0], [0]), ([1], [1]), ([2], [2]), ([], []), ([4], [4]), ([3, 5], [3, 5]), ([6], [6]), ([7], [7]), ([7], [7]), ([8, 6, 0, 1, 2, 3, 4, 5, 6, 7, 8], [8]), ([9, 10, 0, 1, 2, 3, 4, 5, 6, 7, 8, 9, 10], [9])])
def does4_B : List Nat := [0, 1, 3, 7, 0, 16, 63, 127, 255, 255, 511, 2047]
theorem does4_tab : rtab .any (opsOf Try.f38 4) = does4_T := by kernel_rfl
theorem does4_bits : waitsOk does4_T.2 does4_B = true := by kernel_rfl
set_option maxHeartbeats 8000000 in
set_option maxRecDepth 100000 in
theorem does_read (gp g : Nat) (s : DS) (A1 : Option Addr) (c1 : Nat) (A2 : Option Addr) (c2 : Nat) (l1 l2 : List S106) (w : World)
    (h : Sep w0 w (cellsT gp (prC g s (.slice A1 l1.length c1) (.slice A2 l2.length c2)) 78 :: dkT g s :: refT (.slice A1 l1.length c1) (.slice A2 l2.length c2) l1 l2 :: L)) (hl : l1.length + l2.length ≤ 1000000) (hR : Rl s l1 l2) (i : Nat) (hi : i < s.n)
    (t fl : Int) (dv fv : Value) :
    Calls Try.prog 38 #[.pointer (some ⟨gp, 0, none⟩), .agg #[.int .i64 0, .int .i64 (i : Int), .int .i64 t, dv, .int .i64 fl, fv]] w fun e w' => e = .returned (.bool true) ∧ ∃ A1' c1' A2' c2',
      Sep w0 w' (cellsT gp (prC g s.reads (.slice A1' l1.length c1') (.slice A2' l2.length c2')) 78 :: dkT g s.reads :: refT (.slice A1' l1.length c1') (.slice A2' l2.length c2') l1 l2 :: L) := by
  have HS0 := Aside0.mk (h.push_alloc #[.int .i64 0, .int .i64 (i : Int), .int .i64 t, dv, .int .i64 fl, fv] 73)
  have hk0 := read_ev l1 l2 s.n i hi s.r s.wr s.fl (by omega) (by omega) hR.sho (by rw [lastR_len hR.e1]; decide) (l1.length + l2.length + 2) (Nat.le_refl _)
  rw [hR.now i hi] at hk0
  generalize hk00 : l1.length + l2.length + 2 = k0 at hk0
  have HRF := Aside0.mk hk0
  have HI := Aside0.mk hi
  clear h hl hk0 hk00 hR
  go_enter Try.func38, Try.ntmps38
  go_upto_region 1 with (fail)
  generalize w.alloc (.cells #[.int .i64 0, .int .i64 (i : Int), .int .i64 t, dv, .int .i64 fl, fv] 73) = w1 at HS0 ⊢
  generalize w.heap.size = gb at HS0 ⊢
  have hk : w1.cell? ⟨gb, 0, none⟩ = some (.int .i64 0) := blk_cell HS0.out.cells.1 0
  go_upto_region 3 with (fail)
  have HS1 := Aside0.mk (HS0.out.step (below_drew1 (Below.refl w1.heap.size w1)))
  clear hk
  refine start_ (n := 15) (S := fun W => W.cell? ⟨gp, 1, none⟩ = some (.int .i64 (s.n : Int)) ∧ W.cell? ⟨gp, 2, none⟩ = some (.slice A1 l1.length c1) ∧ W.cell? ⟨gp, 3, none⟩ = some (.slice A2 l2.length c2) ∧ W.cell? ⟨gp, 4, none⟩ = some (.int .i64 s.r) ∧ W.cell? ⟨gp, 5, none⟩ = some (.int .i64 s.wr) ∧ W.cell? ⟨gp, 6, none⟩ = some (.int .i64 s.fl) ∧ W.cell? ⟨gb, 1, none⟩ = some (.int .i64 (i : Int))) (ds := [12]) (bb 15 0) (by kernel_rfl) rfl rfl ((pr_held HS1.out)) (fun hHeld => ?_); refine with_tabW does3_tab does3_bits (fun HT_ HW_ => ?_)
  generalize w1.drew = wd at hHeld HS1 ⊢
  refine pure_ (i := 0) (N := (some 25)) (v := ?_) (a' := ?_) (bb 15 1) rfl rfl (any_of HT_.out (by kernel_rfl)) (fun _ _ _ h => h) (Or.inl ⟨by rfl, ?_⟩) ?_ ?_
  rotate_left
  · intro w'
    go_simp
    with_reducible rfl
  rotate_left
  · simp only [Act.put, List.setIfInBounds_toArray, List.set_cons_zero, List.set_cons_succ, i64_w, i32_w]
    rfl
  refine pure_ (i := 1) (N := (some 26)) (v := ?_) (a' := ?_) (bb 15 3) rfl rfl (any_of HT_.out (by kernel_rfl)) (fun _ _ _ h => h) (Or.inl ⟨by rfl, ?_⟩) ?_ ?_
  rotate_left
  · intro w'
    go_simp
    with_reducible rfl
  rotate_left
  · simp only [Act.put, List.setIfInBounds_toArray, List.set_cons_zero, List.set_cons_succ, i64_w, i32_w]
    rfl
  refine pure_ (i := 2) (N := (some 27)) (v := ?_) (a' := ?_) (bb 15 7) rfl rfl (any_of HT_.out (by kernel_rfl)) (fun _ _ _ h => h) (Or.inl ⟨by rfl, ?_⟩) ?_ ?_
  rotate_left
  · intro w'
    go_simp
    with_reducible rfl
  rotate_left
  · simp only [Act.put, List.setIfInBounds_toArray, List.set_cons_zero, List.set_cons_succ, i64_w, i32_w]
    rfl
  refine take_ (i := 3) (N := (some 28)) (v := ?_) (a' := ?_) (bb 15 15) rfl rfl (take_ofW HT_.out HW_.out (by kernel_rfl)) (fun _ _ _ h => h) (Or.inl ⟨by rfl, ?_⟩) hHeld ?_ ?_
  rotate_left
  · intro w' s0
    (try dsimp only at s0)
    go_simp
    with_reducible rfl
  rotate_left
  · simp only [Act.put, List.setIfInBounds_toArray, List.set_cons_zero, List.set_cons_succ, i64_w, i32_w]
    rfl
  refine pure_ (i := 4) (N := (some 29)) (v := ?_) (a' := ?_) (bb 15 31) rfl rfl (any_of HT_.out (by kernel_rfl)) (fun _ _ _ h => h) (Or.inl ⟨by rfl, ?_⟩) ?_ ?_
  rotate_left
  · intro w'
    go_simp
    with_reducible rfl
  rotate_left
  · simp only [Act.put, List.setIfInBounds_toArray, List.set_cons_zero, List.set_cons_succ, i64_w, i32_w]
    rfl
  refine take_ (i := 5) (N := (some 30)) (v := ?_) (a' := ?_) (bb 15 63) rfl rfl (take_ofW HT_.out HW_.out (by kernel_rfl)) (fun _ _ _ h => h) (Or.inl ⟨by rfl, ?_⟩) hHeld ?_ ?_
  rotate_left
  · intro w' s0
    (try dsimp only at s0)
    go_simp
    with_reducible rfl
  rotate_left
  · simp only [Act.put, List.setIfInBounds_toArray, List.set_cons_zero, List.set_cons_succ, i64_w, i32_w]
    rfl
  clear HS0
  refine two_ (i := 6) (j := 11) (Ni := some 31) (Nj := some 5) (bb 15 127) (bb 15 2111) rfl rfl rfl rfl (two_of HT_.out (by kernel_rfl)) (by decide) (by decide) (fun K hK => ?_) (fun K hK => ?_)
  case refine_1 =>
    refine goes_ Try.func48 (by kernel_rfl) rfl #[.agg #[.int .i64 (s.n : Int), .slice A1 l1.length c1, .slice A2 l2.length c2, .int .i64 s.r, .int .i64 s.wr, .int .i64 s.fl], .int .i64 (i : Int)] (by rfl) rfl rfl (by (try simp only [List.map_toArray, List.map_cons, List.map_nil]); first | done | rfl) ?_
    with_reducible refine (Sep.rRead HS1.out.up3 k0 _ _ _ _ _ _ _ _ _ _ _ _ _ HRF.out).mono ?_
    rintro e w2 ⟨A1', c1', A2', c2', A7, c7, rfl, h⟩
    have HS2 := Aside0.mk h
    clear h
    refine ⟨_, rfl, ?_⟩
    refine hK.out _ _ (pr_held HS2.out.up3.up3) (fun hHeld => ?_)
    clear hK K
    refine norm_ (a' := ?_) ?_ ?_
    rotate_left
    · show Act.put _ (some 31) _ = _
      simp only [Act.put, List.setIfInBounds_toArray, List.set_cons_zero, List.set_cons_succ, i64_w, i32_w]
      rfl
    refine pure_ (i := 7) (N := (some 24)) (v := ?_) (a' := ?_) (bb 15 255) rfl rfl (any_of HT_.out (by kernel_rfl)) (fun _ _ _ h => h) (Or.inl ⟨by rfl, ?_⟩) ?_ ?_
    rotate_left
    · intro w'
      go_simp
      with_reducible rfl
    rotate_left
    · simp only [Act.put, List.setIfInBounds_toArray, List.set_cons_zero, List.set_cons_succ, i64_w, i32_w]
      rfl
    refine pure_ (i := 8) (N := (some 32)) (v := ?_) (a' := ?_) (bb 15 511) rfl rfl (any_of HT_.out (by kernel_rfl)) (fun _ _ _ h => h) (Or.inl ⟨by rfl, ?_⟩) ?_ ?_
    rotate_left
    · intro w'
      go_simp
      with_reducible rfl
    rotate_left
    · simp only [Act.put, List.setIfInBounds_toArray, List.set_cons_zero, List.set_cons_succ, i64_w, i32_w]
      rfl
    refine pure_ (i := 9) (N := (some 33)) (v := ?_) (a' := ?_) (bb 15 1023) rfl rfl (any_of HT_.out (by kernel_rfl)) (fun _ _ _ h => h) (Or.inl ⟨by rfl, ?_⟩) ?_ ?_
    rotate_left
    · intro w'
      go_simp
      with_reducible rfl
    rotate_left
    · simp only [Act.put, List.setIfInBounds_toArray, List.set_cons_zero, List.set_cons_succ, i64_w, i32_w]
      rfl
    refine pure_ (i := 10) (N := (some 34)) (v := ?_) (a' := ?_) (bb 15 2047) rfl rfl (any_of HT_.out (by kernel_rfl)) (fun _ _ _ h => h) (Or.inl ⟨by rfl, ?_⟩) ?_ ?_
    rotate_left
    · intro w'
      go_simp
      with_reducible rfl
    rotate_left
    · simp only [Act.put, List.setIfInBounds_toArray, List.set_cons_zero, List.set_cons_succ, i64_w, i32_w]
      rfl
    refine one_ (i := 11) (N := (some 5)) (bb 15 4095) rfl rfl (one_of HT_.out (by kernel_rfl)) (by decide) (fun K hK => ?_)
    refine value_ (w1 := ?_) (v := ?_) (by rfl) rfl ?_ ?_
    rotate_left 2
    · go_simp
      constructor
      · rfl
      · rfl
    have HS3 := Aside0.mk (HS2.out.push_alloc #[.int .i64 0, .slice none 0 0, .slice none 0 0, .int .i64 0, .int .i64 0, .int .i64 0] 76)
    generalize w2.alloc (.cells #[.int .i64 0, .slice none 0 0, .slice none 0 0, .int .i64 0, .int .i64 0, .int .i64 0] 76) = w3 at HS3 ⊢
    generalize w2.heap.size = gd at HS3 ⊢
    have hz := blk_cell HS3.out.cells.1
    have hz0 : w3.cell? ⟨gd, 0, none⟩ = some (.int .i64 0) := hz 0
    have hz1 : w3.cell? ⟨gd, 1, none⟩ = some (.slice none 0 0) := hz 1
    have hz2 : w3.cell? ⟨gd, 2, none⟩ = some (.slice none 0 0) := hz 2
    have hz3 : w3.cell? ⟨gd, 3, none⟩ = some (.int .i64 0) := hz 3
    have hz4 : w3.cell? ⟨gd, 4, none⟩ = some (.int .i64 0) := hz 4
    have hz5 : w3.cell? ⟨gd, 5, none⟩ = some (.int .i64 0) := hz 5
    have hf := blk_frozen HS3.out.cells.1
    have hf0 := hf 0
    have hf1 := hf 1
    have hf2 := hf 2
    have hf3 := hf 3
    have hf4 := hf 4
    have hf5 := hf 5
    clear hz hf
    refine hK.out _ _ (pr_held HS3.out.up4.up4) (fun hHeld => ?_)
    clear hK K
    refine norm_ (a' := ?_) ?_ ?_
    rotate_left
    · show Act.put _ (some 5) _ = _
      simp only [Act.put, List.setIfInBounds_toArray, List.set_cons_zero, List.set_cons_succ, i64_w, i32_w]
      rfl
    refine last_ (i := 12) (N := none) (bb 15 8191) rfl rfl (one_of HT_.out (by kernel_rfl)) (by decide) (fun K hK => ?_)
    refine skip_ (w1 := ?_) (by rfl) rfl ?_ ?_
    rotate_left
    · go_simp
      first | rfl | (constructor <;> rfl)
    refine hK.out _ _ ?_
    clear hK K
    refine pure_ (i := 13) (N := (some 6)) (v := ?_) (a' := ?_) (bb 15 16383) rfl rfl (any_of HT_.out (by kernel_rfl)) (fun _ _ _ h => h) (Or.inl ⟨by rfl, ?_⟩) ?_ ?_
    rotate_left
    · intro w'
      go_simp
      with_reducible rfl
    rotate_left
    · simp only [Act.put, List.setIfInBounds_toArray, List.set_cons_zero, List.set_cons_succ, i64_w, i32_w]
      rfl
    refine pure_ (i := 14) (N := (some 7)) (v := ?_) (a' := ?_) (bb 15 32767) rfl rfl (any_of HT_.out (by kernel_rfl)) (fun _ _ _ h => h) (Or.inl ⟨by rfl, ?_⟩) ?_ ?_
    rotate_left
    · intro w'
      go_simp
      with_reducible rfl
    rotate_left
    · simp only [Act.put, List.setIfInBounds_toArray, List.set_cons_zero, List.set_cons_succ, i64_w, i32_w]
      rfl
    refine done_ (done_of HT_.out (by kernel_rfl)) ?_
    have HS4 := Aside0.mk (HS3.out.cset60 (.int .i64 (s.n : Int)) (.slice A1' l1.length c1') (.slice A2' l2.length c2') (.int .i64 (wrap64 (s.r + 1))) (.int .i64 s.wr) (.int .i64 s.fl))
    clear HS1 HS2 HS3 HRF hHeld hz0 hz1 hz2 hz3 hz4 hz5 hf0 hf1 hf2 hf3 hf4 hf5
    generalize ((((((w3.setCell ⟨gd, 0, none⟩ (.int .i64 (s.n : Int))).setCell ⟨gd, 1, none⟩ (.slice A1' l1.length c1')).setCell ⟨gd, 2, none⟩ (.slice A2' l2.length c2')).setCell ⟨gd, 3, none⟩ (.int .i64 (wrap64 (s.r + 1)))).setCell ⟨gd, 4, none⟩ (.int .i64 s.wr)).setCell ⟨gd, 5, none⟩ (.int .i64 s.fl)) = w4 at HS4 ⊢
    go_upto_region 4 with (fail)
    have HS5 := Aside0.mk (HS4.out.step (below_drew1 (Below.refl w4.heap.size w4)))
    clear HS4
    refine start_ (n := 12) (S := fun W => W.cell? ⟨gp, 0, none⟩ = some (.pointer (some ⟨g, 0, none⟩)) ∧ W.cell? ⟨gb, 1, none⟩ = some (.int .i64 (i : Int))) (ds := [6]) (bb 12 0) (by kernel_rfl) rfl rfl (⟨blk_cell HS5.out.up4.cells.1 0, blk_cell HS5.out.up3.cells.1 1⟩) (fun hHeld => ?_); refine with_tabW does4_tab does4_bits (fun HT_ HW_ => ?_)
    generalize w4.drew = wd4 at hHeld HS5 ⊢
    refine pure_ (i := 0) (N := (some 36)) (v := ?_) (a' := ?_) (bb 12 1) rfl rfl (any_of HT_.out (by kernel_rfl)) (fun _ _ _ h => h) (Or.inl ⟨by rfl, ?_⟩) ?_ ?_
    rotate_left
    · intro w'
      go_simp
      with_reducible rfl
    rotate_left
    · simp only [Act.put, List.setIfInBounds_toArray, List.set_cons_zero, List.set_cons_succ, i64_w, i32_w]
      rfl
    refine pure_ (i := 1) (N := (some 37)) (v := ?_) (a' := ?_) (bb 12 3) rfl rfl (any_of HT_.out (by kernel_rfl)) (fun _ _ _ h => h) (Or.inl ⟨by rfl, ?_⟩) ?_ ?_
    rotate_left
    · intro w'
      go_simp
      with_reducible rfl
    rotate_left
    · simp only [Act.put, List.setIfInBounds_toArray, List.set_cons_zero, List.set_cons_succ, i64_w, i32_w]
      rfl
    refine pure_ (i := 2) (N := (some 38)) (v := ?_) (a' := ?_) (bb 12 7) rfl rfl (any_of HT_.out (by kernel_rfl)) (fun _ _ _ h => h) (Or.inl ⟨by rfl, ?_⟩) ?_ ?_
    rotate_left
    · intro w'
      go_simp
      with_reducible rfl
    rotate_left
    · simp only [Act.put, List.setIfInBounds_toArray, List.set_cons_zero, List.set_cons_succ, i64_w, i32_w]
      rfl
    refine take_ (i := 3) (N := (some 39)) (v := ?_) (a' := ?_) (bb 12 15) rfl rfl (take_ofW HT_.out HW_.out (by kernel_rfl)) (fun _ _ _ h => h) (Or.inl ⟨by rfl, ?_⟩) hHeld ?_ ?_
    rotate_left
    · intro w' s0
      (try dsimp only at s0)
      go_simp
      with_reducible rfl
    rotate_left
    · simp only [Act.put, List.setIfInBounds_toArray, List.set_cons_zero, List.set_cons_succ, i64_w, i32_w]
      rfl
    refine pure_ (i := 4) (N := (some 40)) (v := ?_) (a' := ?_) (bb 12 31) rfl rfl (any_of HT_.out (by kernel_rfl)) (fun _ _ _ h => h) (Or.inl ⟨by rfl, ?_⟩) ?_ ?_
    rotate_left
    · intro w'
      go_simp
      with_reducible rfl
    rotate_left
    · simp only [Act.put, List.setIfInBounds_toArray, List.set_cons_zero, List.set_cons_succ, i64_w, i32_w]
      rfl
    refine take_ (i := 5) (N := (some 41)) (v := ?_) (a' := ?_) (bb 12 63) rfl rfl (take_ofW HT_.out HW_.out (by kernel_rfl)) (fun _ _ _ h => h) (Or.inl ⟨by rfl, ?_⟩) hHeld ?_ ?_
    rotate_left
    · intro w' s0
      (try dsimp only at s0)
      go_simp
      with_reducible rfl
    rotate_left
    · simp only [Act.put, List.setIfInBounds_toArray, List.set_cons_zero, List.set_cons_succ, i64_w, i32_w]
      rfl
    refine last_ (i := 6) (N := (some 42)) (bb 12 127) rfl rfl (one_of HT_.out (by kernel_rfl)) (by decide) (fun K hK => ?_)
    refine goes_ Try.func25 (by kernel_rfl) rfl #[.pointer (some ⟨g, 0, none⟩), .int .i64 (i : Int)] (by rfl) rfl rfl (by (try simp only [List.map_toArray, List.map_cons, List.map_nil]); first | done | rfl) ?_
    with_reducible refine (Sep.read HS5.out.up5 i HI.out).mono ?_
    rintro e w5 ⟨v8, rfl, h⟩
    obtain ⟨A8, c8, e8⟩ := h.own_slice
    subst e8
    have HS6 := Aside0.mk h
    clear h
    refine ⟨_, rfl, ?_⟩
    refine hK.out _ _ ?_
    clear hK K
    refine norm_ (a' := ?_) ?_ ?_
    rotate_left
    · show Act.put _ (some 42) _ = _
      simp only [Act.put, List.setIfInBounds_toArray, List.set_cons_zero, List.set_cons_succ, i64_w, i32_w]
      rfl
    refine pure_ (i := 7) (N := (some 35)) (v := ?_) (a' := ?_) (bb 12 255) rfl rfl (any_of HT_.out (by kernel_rfl)) (fun _ _ _ h => h) (Or.inl ⟨by rfl, ?_⟩) ?_ ?_
    rotate_left
    · intro w'
      go_simp
      with_reducible rfl
    rotate_left
    · simp only [Act.put, List.setIfInBounds_toArray, List.set_cons_zero, List.set_cons_succ, i64_w, i32_w]
      rfl
    refine pure_ (i := 8) (N := (some 43)) (v := ?_) (a' := ?_) (bb 12 511) rfl rfl (any_of HT_.out (by kernel_rfl)) (fun _ _ _ h => h) (Or.inl ⟨by rfl, ?_⟩) ?_ ?_
    rotate_left
    · intro w'
      go_simp
      with_reducible rfl
    rotate_left
    · simp only [Act.put, List.setIfInBounds_toArray, List.set_cons_zero, List.set_cons_succ, i64_w, i32_w]
      rfl
    refine pure_ (i := 9) (N := (some 44)) (v := ?_) (a' := ?_) (bb 12 1023) rfl rfl (any_of HT_.out (by kernel_rfl)) (fun _ _ _ h => h) (Or.inl ⟨by rfl, ?_⟩) ?_ ?_
    rotate_left
    · intro w'
      go_simp
      with_reducible rfl
    rotate_left
    · simp only [Act.put, List.setIfInBounds_toArray, List.set_cons_zero, List.set_cons_succ, i64_w, i32_w]
      rfl
    refine pure_ (i := 10) (N := (some 8)) (v := ?_) (a' := ?_) (bb 12 2047) rfl rfl (any_of HT_.out (by kernel_rfl)) (fun _ _ _ h => h) (Or.inl ⟨by rfl, ?_⟩) ?_ ?_
    rotate_left
    · intro w'
      go_simp
      with_reducible rfl
    rotate_left
    · simp only [Act.put, List.setIfInBounds_toArray, List.set_cons_zero, List.set_cons_succ, i64_w, i32_w]
      rfl
    refine pure_ (i := 11) (N := (some 9)) (v := ?_) (a' := ?_) (bb 12 4095) rfl rfl (any_of HT_.out (by kernel_rfl)) (fun _ _ _ h => h) (Or.inl ⟨by rfl, ?_⟩) ?_ ?_
    rotate_left
    · intro w'
      go_simp
      with_reducible rfl
    rotate_left
    · simp only [Act.put, List.setIfInBounds_toArray, List.set_cons_zero, List.set_cons_succ, i64_w, i32_w]
      rfl
    refine done_ (done_of HT_.out (by kernel_rfl)) ?_
    clear HS5
    have hd := blk_cell HS6.out.up2.cells.1
    have hd0 : w5.cell? ⟨gd, 0, none⟩ = some (.int .i64 (s.n : Int)) := hd 0
    have hd1 : w5.cell? ⟨gd, 1, none⟩ = some (.slice A1' l1.length c1') := hd 1
    have hd2 : w5.cell? ⟨gd, 2, none⟩ = some (.slice A2' l2.length c2') := hd 2
    have hd3 : w5.cell? ⟨gd, 3, none⟩ = some (.int .i64 (wrap64 (s.r + 1))) := hd 3
    have hd4 : w5.cell? ⟨gd, 4, none⟩ = some (.int .i64 s.wr) := hd 4
    have hd5 : w5.cell? ⟨gd, 5, none⟩ = some (.int .i64 s.fl) := hd 5
    have hp := blk_cell HS6.out.up6.cells.1
    have hp1 : w5.cell? ⟨gp, 1, none⟩ = some (.int .i64 (s.n : Int)) := hp 1
    have hp2 : w5.cell? ⟨gp, 2, none⟩ = some (.slice A1 l1.length c1) := hp 2
    have hp3 : w5.cell? ⟨gp, 3, none⟩ = some (.slice A2 l2.length c2) := hp 3
    have hp4 : w5.cell? ⟨gp, 4, none⟩ = some (.int .i64 s.r) := hp 4
    have hp5 : w5.cell? ⟨gp, 5, none⟩ = some (.int .i64 s.wr) := hp 5
    have hp6 : w5.cell? ⟨gp, 6, none⟩ = some (.int .i64 s.fl) := hp 6
    have hf := blk_frozen HS6.out.up6.cells.1
    have hf1 := hf 1
    have hf2 := hf 2
    have hf3 := hf 3
    have hf4 := hf 4
    have hf5 := hf 5
    have hf6 := hf 6
    clear hd hp hf
    go_upto_region 6 with (fail)
    clear hd0 hd1 hd2 hd3 hd4 hd5 hp1 hp2 hp3 hp4 hp5 hp6 hf1 hf2 hf3 hf4 hf5 hf6
    have HS7 := Aside0.mk (HS6.out.up6.cset6 (.int .i64 (s.n : Int)) (.slice A1' l1.length c1') (.slice A2' l2.length c2') (.int .i64 (wrap64 (s.r + 1))) (.int .i64 s.wr) (.int .i64 s.fl))
    clear HS6
    generalize ((((((w5.setCell ⟨gp, 1, none⟩ (.int .i64 (s.n : Int))).setCell ⟨gp, 2, none⟩ (.slice A1' l1.length c1')).setCell ⟨gp, 3, none⟩ (.slice A2' l2.length c2')).setCell ⟨gp, 4, none⟩ (.int .i64 (wrap64 (s.r + 1)))).setCell ⟨gp, 5, none⟩ (.int .i64 s.wr)).setCell ⟨gp, 6, none⟩ (.int .i64 s.fl)) = w6 at HS7 ⊢
    have hcv1 := (show (convert 28 9 (.slice A8 (s.cur i).length c8)).run Try.prog w6 = .ok (.string (strOfNums (s.cur i))) w6 from Kd.C_string (P := Try.prog) Try.underlying28 Try.underlying5 Try.underlying9 HS7.out.up1.own_C.1)
    have hcv2 := (show (convert 28 9 (.slice A7 (s.cur i).length c7)).run Try.prog w6 = .ok (.string (strOfNums (s.cur i))) w6 from Kd.C_string (P := Try.prog) Try.underlying28 Try.underlying5 Try.underlying9 HS7.out.up4.own_C.1)
    have c9b0 : ((strOfNums (s.cur i)).toList == (strOfNums (s.cur i)).toList) = true := beq_iff_eq.mpr rfl
    go_wp2
    go_ret
    exact ⟨rfl, A1', c1', A2', c2', HS7.out.up1.drop.up2.drop.up2.drop.up3.drop⟩
  case refine_2 =>
    refine value_ (w1 := ?_) (v := ?_) (by rfl) rfl ?_ ?_
    rotate_left 2
    · go_simp
      constructor
      · rfl
      · rfl
    have HS2 := Aside0.mk (HS1.out.push_alloc #[.int .i64 0, .slice none 0 0, .slice none 0 0, .int .i64 0, .int .i64 0, .int .i64 0] 76)
    generalize wd.alloc (.cells #[.int .i64 0, .slice none 0 0, .slice none 0 0, .int .i64 0, .int .i64 0, .int .i64 0] 76) = w2 at HS2 ⊢
    generalize wd.heap.size = gd at HS2 ⊢
    refine hK.out _ _ (pr_held HS2.out.up2.up2) (fun hHeld => ?_)
    clear hK K
    refine norm_ (a' := ?_) ?_ ?_
    rotate_left
    · show Act.put _ (some 5) _ = _
      simp only [Act.put, List.setIfInBounds_toArray, List.set_cons_zero, List.set_cons_succ, i64_w, i32_w]
      rfl
    refine one_ (i := 6) (N := (some 31)) (bb 15 2175) rfl rfl (one_of HT_.out (by kernel_rfl)) (by decide) (fun K hK => ?_)
    refine goes_ Try.func48 (by kernel_rfl) rfl #[.agg #[.int .i64 (s.n : Int), .slice A1 l1.length c1, .slice A2 l2.length c2, .int .i64 s.r, .int .i64 s.wr, .int .i64 s.fl], .int .i64 (i : Int)] (by rfl) rfl rfl (by (try simp only [List.map_toArray, List.map_cons, List.map_nil]); first | done | rfl) ?_
    with_reducible refine (Sep.rRead HS2.out.up4 k0 _ _ _ _ _ _ _ _ _ _ _ _ _ HRF.out).mono ?_
    rintro e w3 ⟨A1', c1', A2', c2', A7, c7, rfl, h⟩
    have HS3 := Aside0.mk h.up2
    clear h
    have hz := blk_cell HS3.out.cells.1
    have hz0 : w3.cell? ⟨gd, 0, none⟩ = some (.int .i64 0) := hz 0
    have hz1 : w3.cell? ⟨gd, 1, none⟩ = some (.slice none 0 0) := hz 1
    have hz2 : w3.cell? ⟨gd, 2, none⟩ = some (.slice none 0 0) := hz 2
    have hz3 : w3.cell? ⟨gd, 3, none⟩ = some (.int .i64 0) := hz 3
    have hz4 : w3.cell? ⟨gd, 4, none⟩ = some (.int .i64 0) := hz 4
    have hz5 : w3.cell? ⟨gd, 5, none⟩ = some (.int .i64 0) := hz 5
    have hf := blk_frozen HS3.out.cells.1
    have hf0 := hf 0
    have hf1 := hf 1
    have hf2 := hf 2
    have hf3 := hf 3
    have hf4 := hf 4
    have hf5 := hf 5
    clear hz hf
    refine ⟨_, rfl, ?_⟩
    refine hK.out _ _ (pr_held HS3.out.up4.up4) (fun hHeld => ?_)
    clear hK K
    refine norm_ (a' := ?_) ?_ ?_
    rotate_left
    · show Act.put _ (some 31) _ = _
      simp only [Act.put, List.setIfInBounds_toArray, List.set_cons_zero, List.set_cons_succ, i64_w, i32_w]
      rfl
    refine pure_ (i := 7) (N := (some 24)) (v := ?_) (a' := ?_) (bb 15 2303) rfl rfl (any_of HT_.out (by kernel_rfl)) (fun _ _ _ h => h) (Or.inl ⟨by rfl, ?_⟩) ?_ ?_
    rotate_left
    · intro w'
      go_simp
      with_reducible rfl
    rotate_left
    · simp only [Act.put, List.setIfInBounds_toArray, List.set_cons_zero, List.set_cons_succ, i64_w, i32_w]
      rfl
    refine pure_ (i := 8) (N := (some 32)) (v := ?_) (a' := ?_) (bb 15 2559) rfl rfl (any_of HT_.out (by kernel_rfl)) (fun _ _ _ h => h) (Or.inl ⟨by rfl, ?_⟩) ?_ ?_
    rotate_left
    · intro w'
      go_simp
      with_reducible rfl
    rotate_left
    · simp only [Act.put, List.setIfInBounds_toArray, List.set_cons_zero, List.set_cons_succ, i64_w, i32_w]
      rfl
    refine pure_ (i := 9) (N := (some 33)) (v := ?_) (a' := ?_) (bb 15 3071) rfl rfl (any_of HT_.out (by kernel_rfl)) (fun _ _ _ h => h) (Or.inl ⟨by rfl, ?_⟩) ?_ ?_
    rotate_left
    · intro w'
      go_simp
      with_reducible rfl
    rotate_left
    · simp only [Act.put, List.setIfInBounds_toArray, List.set_cons_zero, List.set_cons_succ, i64_w, i32_w]
      rfl
    refine pure_ (i := 10) (N := (some 34)) (v := ?_) (a' := ?_) (bb 15 4095) rfl rfl (any_of HT_.out (by kernel_rfl)) (fun _ _ _ h => h) (Or.inl ⟨by rfl, ?_⟩) ?_ ?_
    rotate_left
    · intro w'
      go_simp
      with_reducible rfl
    rotate_left
    · simp only [Act.put, List.setIfInBounds_toArray, List.set_cons_zero, List.set_cons_succ, i64_w, i32_w]
      rfl
    refine last_ (i := 12) (N := none) (bb 15 8191) rfl rfl (one_of HT_.out (by kernel_rfl)) (by decide) (fun K hK => ?_)
    refine skip_ (w1 := ?_) (by rfl) rfl ?_ ?_
    rotate_left
    · go_simp
      first | rfl | (constructor <;> rfl)
    refine hK.out _ _ ?_
    clear hK K
    refine pure_ (i := 13) (N := (some 6)) (v := ?_) (a' := ?_) (bb 15 16383) rfl rfl (any_of HT_.out (by kernel_rfl)) (fun _ _ _ h => h) (Or.inl ⟨by rfl, ?_⟩) ?_ ?_
    rotate_left
    · intro w'
      go_simp
      with_reducible rfl
    rotate_left
    · simp only [Act.put, List.setIfInBounds_toArray, List.set_cons_zero, List.set_cons_succ, i64_w, i32_w]
      rfl
    refine pure_ (i := 14) (N := (some 7)) (v := ?_) (a' := ?_) (bb 15 32767) rfl rfl (any_of HT_.out (by kernel_rfl)) (fun _ _ _ h => h) (Or.inl ⟨by rfl, ?_⟩) ?_ ?_
    rotate_left
    · intro w'
      go_simp
      with_reducible rfl
    rotate_left
    · simp only [Act.put, List.setIfInBounds_toArray, List.set_cons_zero, List.set_cons_succ, i64_w, i32_w]
      rfl
    refine done_ (done_of HT_.out (by kernel_rfl)) ?_
    have HS4 := Aside0.mk (HS3.out.cset60 (.int .i64 (s.n : Int)) (.slice A1' l1.length c1') (.slice A2' l2.length c2') (.int .i64 (wrap64 (s.r + 1))) (.int .i64 s.wr) (.int .i64 s.fl))
    clear HS1 HS2 HS3 HRF hHeld hz0 hz1 hz2 hz3 hz4 hz5 hf0 hf1 hf2 hf3 hf4 hf5
    generalize ((((((w3.setCell ⟨gd, 0, none⟩ (.int .i64 (s.n : Int))).setCell ⟨gd, 1, none⟩ (.slice A1' l1.length c1')).setCell ⟨gd, 2, none⟩ (.slice A2' l2.length c2')).setCell ⟨gd, 3, none⟩ (.int .i64 (wrap64 (s.r + 1)))).setCell ⟨gd, 4, none⟩ (.int .i64 s.wr)).setCell ⟨gd, 5, none⟩ (.int .i64 s.fl)) = w4 at HS4 ⊢
    go_upto_region 4 with (fail)
    have HS5 := Aside0.mk (HS4.out.step (below_drew1 (Below.refl w4.heap.size w4)))
    clear HS4
    refine start_ (n := 12) (S := fun W => W.cell? ⟨gp, 0, none⟩ = some (.pointer (some ⟨g, 0, none⟩)) ∧ W.cell? ⟨gb, 1, none⟩ = some (.int .i64 (i : Int))) (ds := [6]) (bb 12 0) (by kernel_rfl) rfl rfl (⟨blk_cell HS5.out.up4.cells.1 0, blk_cell HS5.out.up3.cells.1 1⟩) (fun hHeld => ?_); refine with_tabW does4_tab does4_bits (fun HT_ HW_ => ?_)
    generalize w4.drew = wd4 at hHeld HS5 ⊢
    refine pure_ (i := 0) (N := (some 36)) (v := ?_) (a' := ?_) (bb 12 1) rfl rfl (any_of HT_.out (by kernel_rfl)) (fun _ _ _ h => h) (Or.inl ⟨by rfl, ?_⟩) ?_ ?_
    rotate_left
    · intro w'
      go_simp
      with_reducible rfl
    rotate_left
    · simp only [Act.put, List.setIfInBounds_toArray, List.set_cons_zero, List.set_cons_succ, i64_w, i32_w]
      rfl
    refine pure_ (i := 1) (N := (some 37)) (v := ?_) (a' := ?_) (bb 12 3) rfl rfl (any_of HT_.out (by kernel_rfl)) (fun _ _ _ h => h) (Or.inl ⟨by rfl, ?_⟩) ?_ ?_
    rotate_left
    · intro w'
      go_simp
      with_reducible rfl
    rotate_left
    · simp only [Act.put, List.setIfInBounds_toArray, List.set_cons_zero, List.set_cons_succ, i64_w, i32_w]
      rfl
    refine pure_ (i := 2) (N := (some 38)) (v := ?_) (a' := ?_) (bb 12 7) rfl rfl (any_of HT_.out (by kernel_rfl)) (fun _ _ _ h => h) (Or.inl ⟨by rfl, ?_⟩) ?_ ?_
    rotate_left
    · intro w'
      go_simp
      with_reducible rfl
    rotate_left
    · simp only [Act.put, List.setIfInBounds_toArray, List.set_cons_zero, List.set_cons_succ, i64_w, i32_w]
      rfl
    refine take_ (i := 3) (N := (some 39)) (v := ?_) (a' := ?_) (bb 12 15) rfl rfl (take_ofW HT_.out HW_.out (by kernel_rfl)) (fun _ _ _ h => h) (Or.inl ⟨by rfl, ?_⟩) hHeld ?_ ?_
    rotate_left
    · intro w' s0
      (try dsimp only at s0)
      go_simp
      with_reducible rfl
    rotate_left
    · simp only [Act.put, List.setIfInBounds_toArray, List.set_cons_zero, List.set_cons_succ, i64_w, i32_w]
      rfl
    refine pure_ (i := 4) (N := (some 40)) (v := ?_) (a' := ?_) (bb 12 31) rfl rfl (any_of HT_.out (by kernel_rfl)) (fun _ _ _ h => h) (Or.inl ⟨by rfl, ?_⟩) ?_ ?_
    rotate_left
    · intro w'
      go_simp
      with_reducible rfl
    rotate_left
    · simp only [Act.put, List.setIfInBounds_toArray, List.set_cons_zero, List.set_cons_succ, i64_w, i32_w]
      rfl
    refine take_ (i := 5) (N := (some 41)) (v := ?_) (a' := ?_) (bb 12 63) rfl rfl (take_ofW HT_.out HW_.out (by kernel_rfl)) (fun _ _ _ h => h) (Or.inl ⟨by rfl, ?_⟩) hHeld ?_ ?_
    rotate_left
    · intro w' s0
      (try dsimp only at s0)
      go_simp
      with_reducible rfl
    rotate_left
    · simp only [Act.put, List.setIfInBounds_toArray, List.set_cons_zero, List.set_cons_succ, i64_w, i32_w]
      rfl
    refine last_ (i := 6) (N := (some 42)) (bb 12 127) rfl rfl (one_of HT_.out (by kernel_rfl)) (by decide) (fun K hK => ?_)
    refine goes_ Try.func25 (by kernel_rfl) rfl #[.pointer (some ⟨g, 0, none⟩), .int .i64 (i : Int)] (by rfl) rfl rfl (by (try simp only [List.map_toArray, List.map_cons, List.map_nil]); first | done | rfl) ?_
    with_reducible refine (Sep.read HS5.out.up5 i HI.out).mono ?_
    rintro e w5 ⟨v8, rfl, h⟩
    obtain ⟨A8, c8, e8⟩ := h.own_slice
    subst e8
    have HS6 := Aside0.mk h
    clear h
    refine ⟨_, rfl, ?_⟩
    refine hK.out _ _ ?_
    clear hK K
    refine norm_ (a' := ?_) ?_ ?_
    rotate_left
    · show Act.put _ (some 42) _ = _
      simp only [Act.put, List.setIfInBounds_toArray, List.set_cons_zero, List.set_cons_succ, i64_w, i32_w]
      rfl
    refine pure_ (i := 7) (N := (some 35)) (v := ?_) (a' := ?_) (bb 12 255) rfl rfl (any_of HT_.out (by kernel_rfl)) (fun _ _ _ h => h) (Or.inl ⟨by rfl, ?_⟩) ?_ ?_
    rotate_left
    · intro w'
      go_simp
      with_reducible rfl
    rotate_left
    · simp only [Act.put, List.setIfInBounds_toArray, List.set_cons_zero, List.set_cons_succ, i64_w, i32_w]
      rfl
    refine pure_ (i := 8) (N := (some 43)) (v := ?_) (a' := ?_) (bb 12 511) rfl rfl (any_of HT_.out (by kernel_rfl)) (fun _ _ _ h => h) (Or.inl ⟨by rfl, ?_⟩) ?_ ?_
    rotate_left
    · intro w'
      go_simp
      with_reducible rfl
    rotate_left
    · simp only [Act.put, List.setIfInBounds_toArray, List.set_cons_zero, List.set_cons_succ, i64_w, i32_w]
      rfl
    refine pure_ (i := 9) (N := (some 44)) (v := ?_) (a' := ?_) (bb 12 1023) rfl rfl (any_of HT_.out (by kernel_rfl)) (fun _ _ _ h => h) (Or.inl ⟨by rfl, ?_⟩) ?_ ?_
    rotate_left
    · intro w'
      go_simp
      with_reducible rfl
    rotate_left
    · simp only [Act.put, List.setIfInBounds_toArray, List.set_cons_zero, List.set_cons_succ, i64_w, i32_w]
      rfl
    refine pure_ (i := 10) (N := (some 8)) (v := ?_) (a' := ?_) (bb 12 2047) rfl rfl (any_of HT_.out (by kernel_rfl)) (fun _ _ _ h => h) (Or.inl ⟨by rfl, ?_⟩) ?_ ?_
    rotate_left
    · intro w'
      go_simp
      with_reducible rfl
    rotate_left
    · simp only [Act.put, List.setIfInBounds_toArray, List.set_cons_zero, List.set_cons_succ, i64_w, i32_w]
      rfl
    refine pure_ (i := 11) (N := (some 9)) (v := ?_) (a' := ?_) (bb 12 4095) rfl rfl (any_of HT_.out (by kernel_rfl)) (fun _ _ _ h => h) (Or.inl ⟨by rfl, ?_⟩) ?_ ?_
    rotate_left
    · intro w'
      go_simp
      with_reducible rfl
    rotate_left
    · simp only [Act.put, List.setIfInBounds_toArray, List.set_cons_zero, List.set_cons_succ, i64_w, i32_w]
      rfl
    refine done_ (done_of HT_.out (by kernel_rfl)) ?_
    clear HS5
    have hd := blk_cell HS6.out.up2.cells.1
    have hd0 : w5.cell? ⟨gd, 0, none⟩ = some (.int .i64 (s.n : Int)) := hd 0
    have hd1 : w5.cell? ⟨gd, 1, none⟩ = some (.slice A1' l1.length c1') := hd 1
    have hd2 : w5.cell? ⟨gd, 2, none⟩ = some (.slice A2' l2.length c2') := hd 2
    have hd3 : w5.cell? ⟨gd, 3, none⟩ = some (.int .i64 (wrap64 (s.r + 1))) := hd 3
    have hd4 : w5.cell? ⟨gd, 4, none⟩ = some (.int .i64 s.wr) := hd 4
    have hd5 : w5.cell? ⟨gd, 5, none⟩ = some (.int .i64 s.fl) := hd 5
    have hp := blk_cell HS6.out.up6.cells.1
    have hp1 : w5.cell? ⟨gp, 1, none⟩ = some (.int .i64 (s.n : Int)) := hp 1
    have hp2 : w5.cell? ⟨gp, 2, none⟩ = some (.slice A1 l1.length c1) := hp 2
    have hp3 : w5.cell? ⟨gp, 3, none⟩ = some (.slice A2 l2.length c2) := hp 3
    have hp4 : w5.cell? ⟨gp, 4, none⟩ = some (.int .i64 s.r) := hp 4
    have hp5 : w5.cell? ⟨gp, 5, none⟩ = some (.int .i64 s.wr) := hp 5
    have hp6 : w5.cell? ⟨gp, 6, none⟩ = some (.int .i64 s.fl) := hp 6
    have hf := blk_frozen HS6.out.up6.cells.1
    have hf1 := hf 1
    have hf2 := hf 2
    have hf3 := hf 3
    have hf4 := hf 4
    have hf5 := hf 5
    have hf6 := hf 6
    clear hd hp hf
    go_upto_region 6 with (fail)
    clear hd0 hd1 hd2 hd3 hd4 hd5 hp1 hp2 hp3 hp4 hp5 hp6 hf1 hf2 hf3 hf4 hf5 hf6
    have HS7 := Aside0.mk (HS6.out.up6.cset6 (.int .i64 (s.n : Int)) (.slice A1' l1.length c1') (.slice A2' l2.length c2') (.int .i64 (wrap64 (s.r + 1))) (.int .i64 s.wr) (.int .i64 s.fl))
    clear HS6
    generalize ((((((w5.setCell ⟨gp, 1, none⟩ (.int .i64 (s.n : Int))).setCell ⟨gp, 2, none⟩ (.slice A1' l1.length c1')).setCell ⟨gp, 3, none⟩ (.slice A2' l2.length c2')).setCell ⟨gp, 4, none⟩ (.int .i64 (wrap64 (s.r + 1)))).setCell ⟨gp, 5, none⟩ (.int .i64 s.wr)).setCell ⟨gp, 6, none⟩ (.int .i64 s.fl)) = w6 at HS7 ⊢
    have hcv1 := (show (convert 28 9 (.slice A8 (s.cur i).length c8)).run Try.prog w6 = .ok (.string (strOfNums (s.cur i))) w6 from Kd.C_string (P := Try.prog) Try.underlying28 Try.underlying5 Try.underlying9 HS7.out.up1.own_C.1)
    have hcv2 := (show (convert 28 9 (.slice A7 (s.cur i).length c7)).run Try.prog w6 = .ok (.string (strOfNums (s.cur i))) w6 from Kd.C_string (P := Try.prog) Try.underlying28 Try.underlying5 Try.underlying9 HS7.out.up4.own_C.1)
    have c9b0 : ((strOfNums (s.cur i)).toList == (strOfNums (s.cur i)).toList) = true := beq_iff_eq.mpr rfl
    go_wp2
    go_ret
    exact ⟨rfl, A1', c1', A2', c2', HS7.out.up1.drop.up2.drop.up2.drop.up3.drop⟩
end Go.Proofs.Ytddnhcnkjcdfgaa.M
