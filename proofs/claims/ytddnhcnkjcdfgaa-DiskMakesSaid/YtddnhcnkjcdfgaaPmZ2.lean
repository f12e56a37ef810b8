-- written by programs of this session; what nothing here names is left out
import Derived.Test.YtddnhcnkjcdfgaaPmZ1
import Derived.DataShut
namespace Go.Proofs.Ytddnhcnkjcdfgaa.R
open Go.Proofs.Ytddnhcnkjcdfgaa.M Go.Proofs.Ytddnhcnkjcdfgaa.P
open Go.RowKit Go.Proofs.YtddnhcnkjcdfgaaW.PrintWords Go.Proofs.YtddnhcnkjcdfgaaW.PrintLast Go.Proofs.YtddnhcnkjcdfgaaW.PrintMore
attribute [local go_sem] max2_int min2_int max_two min_two max_three min_three max_four min_four   -- for this text's walks alone
set_option linter.unusedVariables false
set_option linter.unusedSimpArgs false
def kilnref3_New.f (a0 : Int) : Option (Int × (List (S106)) × (List (S106)) × Int × Int × Int × Int) := if a0 < 2 then (some (0, ([] : List (S106)), ([] : List (S106)), 0, 0, 0, 30)) else (if a0 > 65536 then (some (0, ([] : List (S106)), ([] : List (S106)), 0, 0, 0, 30)) else (some (a0, ([] : List (S106)), ([] : List (S106)), 0, 0, 0, 0)))
set_option maxHeartbeats 8000000 in
set_option maxRecDepth 100000 in
theorem kilnref3_New.calls (a0 : Int) (r1 : Int) (r2 : List (S106)) (r3 : List (S106)) (r4 : Int) (r5 : Int) (r6 : Int) (r7 : Int) (w : World) (h : kilnref3_New.f a0 = some (r1, r2, r3, r4, r5, r6, r7)) :
    Calls Try.prog 47 #[.int .i64 a0] w fun e w' => ∃ v1_ v2_ : Value, e = .returned (.tuple #[.agg #[.int .i64 r1, v1_, v2_, .int .i64 r4, .int .i64 r5, .int .i64 r6], .int .i64 r7]) ∧ Kd.S k106 106 w' w.heap.size (fun k_ => some k_ ≠ (v2_ : Value).ownBlock) v1_ r2 ∧ Kd.S k106 106 w' w.heap.size (fun k_ => some k_ ≠ (v1_ : Value).ownBlock) v2_ r3 ∧ Below w.heap.size w w' := by
  have hu76 := Try.underlying76
  have HB := Aside0.mk (Below.refl w.heap.size w)
  have H : (if a0 < 2 then (some (0, ([] : List (S106)), ([] : List (S106)), 0, 0, 0, 30)) else (if a0 > 65536 then (some (0, ([] : List (S106)), ([] : List (S106)), 0, 0, 0, 30)) else (some (a0, ([] : List (S106)), ([] : List (S106)), 0, 0, 0, 0)))) = some (r1, r2, r3, r4, r5, r6, r7) := h
  clear h
  by_cases c2 : a0 < 2
  · rw [if_pos c2] at H
    have c2b0 : decide (a0 < 2) = true := decide_eq_true c2
    clear c2
    simp only [Option.some.injEq, Prod.mk.injEq] at H
    obtain ⟨rfl, rfl, rfl, rfl, rfl, rfl, rfl⟩ := H
    go_enter Try.func47, Try.ntmps47
    go_wp2_with (first | ((with_reducible refine gate_dst (N := 2) rfl ?_); refine box_event ?hg (N := 2) ?hd (cs := #[.int .i64 0, .slice none 0 0, .slice none 0 0, .int .i64 0, .int .i64 0, .int .i64 0]) (t := 76) ?hr ?_; (case hd => rfl); (case hg => rfl); (case hr => first | (go_simp; done) | (go_simp; rfl)); intro gb101 hg w3 hbox hb; have n0_ := Aside0.mk (below_step (by repeat (first | (with_reducible first | exact HB.out | apply below_alloc | apply pw_below_drewN | apply below_drew1) | exact HB.out)) hb); have n1_ := Aside0.mk (hbox); have n2_ := Aside0.mk ((by rw [hg]; exact (below_size (by repeat (first | (with_reducible first | exact HB.out | apply below_alloc | apply pw_below_drewN | apply below_drew1) | exact HB.out))) : w.heap.size ≤ gb101)); have n3_ := Aside0.mk ((by rw [hg]; exact (below_size (by repeat (first | (with_reducible first | exact HB.out | apply below_alloc | apply pw_below_drewN | apply below_drew1) | exact HB.out))) : w.heap.size ≤ gb101)); clear HB; have HB := n0_; have BK101 := n1_; have GW101 := n2_; have GE101 := n3_; clear n0_ n1_ n2_ n3_; clear hb hbox hg; have hcz4_0 : w3.cell? ⟨gb101, 0, none⟩ = some (.int .i64 0) := (blk_cell BK101.out 0).trans rfl; have hcz4_1 : w3.cell? ⟨gb101, 1, none⟩ = some (.slice none 0 0) := (blk_cell BK101.out 1).trans rfl; have hcz4_2 : w3.cell? ⟨gb101, 2, none⟩ = some (.slice none 0 0) := (blk_cell BK101.out 2).trans rfl; have hcz4_3 : w3.cell? ⟨gb101, 3, none⟩ = some (.int .i64 0) := (blk_cell BK101.out 3).trans rfl; have hcz4_4 : w3.cell? ⟨gb101, 4, none⟩ = some (.int .i64 0) := (blk_cell BK101.out 4).trans rfl; have hcz4_5 : w3.cell? ⟨gb101, 5, none⟩ = some (.int .i64 0) := (blk_cell BK101.out 5).trans rfl; have hfz4_0 := blk_frozen BK101.out 0; have hfz4_1 := blk_frozen BK101.out 1; have hfz4_2 := blk_frozen BK101.out 2; have hfz4_3 := blk_frozen BK101.out 3; have hfz4_4 := blk_frozen BK101.out 4; have hfz4_5 := blk_frozen BK101.out 5))
    refine bodyPost_ret (results_ct rfl _ _ gb101 76 #[.int .i64 0, .slice none 0 0, .slice none 0 0, .int .i64 0, .int .i64 0, .int .i64 0] (0, 0) _ rfl (by (with_reducible repeat (first | refine blk_drewN ?_ _ | refine blk_drew ?_ | refine blk_alloc ?_ _)); refine blk_put (cs := #[.int .i64 0, .slice none 0 0, .slice none 0 0, .int .i64 0, .int .i64 0, .int .i64 0]) ?_ 5 _ rfl; (with_reducible repeat (first | refine blk_drewN ?_ _ | refine blk_drew ?_ | refine blk_alloc ?_ _)); refine blk_put (cs := #[.int .i64 0, .slice none 0 0, .slice none 0 0, .int .i64 0, .int .i64 0, .int .i64 0]) ?_ 4 _ rfl; (with_reducible repeat (first | refine blk_drewN ?_ _ | refine blk_drew ?_ | refine blk_alloc ?_ _)); refine blk_put (cs := #[.int .i64 0, .slice none 0 0, .slice none 0 0, .int .i64 0, .int .i64 0, .int .i64 0]) ?_ 3 _ rfl; (with_reducible repeat (first | refine blk_drewN ?_ _ | refine blk_drew ?_ | refine blk_alloc ?_ _)); refine blk_put (cs := #[.int .i64 0, .slice none 0 0, .slice none 0 0, .int .i64 0, .int .i64 0, .int .i64 0]) ?_ 2 _ rfl; (with_reducible repeat (first | refine blk_drewN ?_ _ | refine blk_drew ?_ | refine blk_alloc ?_ _)); refine blk_put (cs := #[.int .i64 0, .slice none 0 0, .slice none 0 0, .int .i64 0, .int .i64 0, .int .i64 0]) ?_ 1 _ rfl; (with_reducible repeat (first | refine blk_drewN ?_ _ | refine blk_drew ?_ | refine blk_alloc ?_ _)); refine blk_put (cs := #[.int .i64 0, .slice none 0 0, .slice none 0 0, .int .i64 0, .int .i64 0, .int .i64 0]) ?_ 0 _ rfl; (with_reducible repeat (first | refine blk_drewN ?_ _ | refine blk_drew ?_ | refine blk_alloc ?_ _)); exact BK101.out) Try.underlying76 rfl (by kernel_rfl)) rfl ?_
    exact ⟨_, _, by first | rfl | (simp [errW_none, errW_some] <;> rfl) | (simp [*, errW_none, errW_some] <;> rfl), by first | exact Kd.S_nil _ _ _ _ _ | exact Kd.N_nil _ _ _ _ _ | exact Kd.V_nil _ _ _ _ _ | exact Kd.Q_nil _ _ _ _ _ | exact Kd.R_nil _ _ _ _ _, by first | exact Kd.S_nil _ _ _ _ _ | exact Kd.N_nil _ _ _ _ _ | exact Kd.V_nil _ _ _ _ _ | exact Kd.Q_nil _ _ _ _ _ | exact Kd.R_nil _ _ _ _ _, by repeat (first | (with_reducible first | exact HB.out | apply below_alloc | apply pw_below_drewN | apply below_drew1 | refine below_set ?_ GE101.out) | exact HB.out)⟩
  · rw [if_neg c2] at H
    have c2b0 : decide (a0 < 2) = false := decide_eq_false c2
    clear c2
    by_cases c5 : a0 > 65536
    · rw [if_pos c5] at H
      have c5b0 : decide (65536 < a0) = true := decide_eq_true c5
      clear c5
      simp only [Option.some.injEq, Prod.mk.injEq] at H
      obtain ⟨rfl, rfl, rfl, rfl, rfl, rfl, rfl⟩ := H
      go_enter Try.func47, Try.ntmps47
      go_wp2_with (first | ((with_reducible refine gate_dst (N := 2) rfl ?_); refine box_event ?hg (N := 2) ?hd (cs := #[.int .i64 0, .slice none 0 0, .slice none 0 0, .int .i64 0, .int .i64 0, .int .i64 0]) (t := 76) ?hr ?_; (case hd => rfl); (case hg => rfl); (case hr => first | (go_simp; done) | (go_simp; rfl)); intro gb101 hg w6 hbox hb; have n0_ := Aside0.mk (below_step (by repeat (first | (with_reducible first | exact HB.out | apply below_alloc | apply pw_below_drewN | apply below_drew1) | exact HB.out)) hb); have n1_ := Aside0.mk (hbox); have n2_ := Aside0.mk ((by rw [hg]; exact (below_size (by repeat (first | (with_reducible first | exact HB.out | apply below_alloc | apply pw_below_drewN | apply below_drew1) | exact HB.out))) : w.heap.size ≤ gb101)); have n3_ := Aside0.mk ((by rw [hg]; exact (below_size (by repeat (first | (with_reducible first | exact HB.out | apply below_alloc | apply pw_below_drewN | apply below_drew1) | exact HB.out))) : w.heap.size ≤ gb101)); clear HB; have HB := n0_; have BK101 := n1_; have GW101 := n2_; have GE101 := n3_; clear n0_ n1_ n2_ n3_; clear hb hbox hg; have hcz7_0 : w6.cell? ⟨gb101, 0, none⟩ = some (.int .i64 0) := (blk_cell BK101.out 0).trans rfl; have hcz7_1 : w6.cell? ⟨gb101, 1, none⟩ = some (.slice none 0 0) := (blk_cell BK101.out 1).trans rfl; have hcz7_2 : w6.cell? ⟨gb101, 2, none⟩ = some (.slice none 0 0) := (blk_cell BK101.out 2).trans rfl; have hcz7_3 : w6.cell? ⟨gb101, 3, none⟩ = some (.int .i64 0) := (blk_cell BK101.out 3).trans rfl; have hcz7_4 : w6.cell? ⟨gb101, 4, none⟩ = some (.int .i64 0) := (blk_cell BK101.out 4).trans rfl; have hcz7_5 : w6.cell? ⟨gb101, 5, none⟩ = some (.int .i64 0) := (blk_cell BK101.out 5).trans rfl; have hfz7_0 := blk_frozen BK101.out 0; have hfz7_1 := blk_frozen BK101.out 1; have hfz7_2 := blk_frozen BK101.out 2; have hfz7_3 := blk_frozen BK101.out 3; have hfz7_4 := blk_frozen BK101.out 4; have hfz7_5 := blk_frozen BK101.out 5))
      refine bodyPost_ret (results_ct rfl _ _ gb101 76 #[.int .i64 0, .slice none 0 0, .slice none 0 0, .int .i64 0, .int .i64 0, .int .i64 0] (0, 0) _ rfl (by (with_reducible repeat (first | refine blk_drewN ?_ _ | refine blk_drew ?_ | refine blk_alloc ?_ _)); refine blk_put (cs := #[.int .i64 0, .slice none 0 0, .slice none 0 0, .int .i64 0, .int .i64 0, .int .i64 0]) ?_ 5 _ rfl; (with_reducible repeat (first | refine blk_drewN ?_ _ | refine blk_drew ?_ | refine blk_alloc ?_ _)); refine blk_put (cs := #[.int .i64 0, .slice none 0 0, .slice none 0 0, .int .i64 0, .int .i64 0, .int .i64 0]) ?_ 4 _ rfl; (with_reducible repeat (first | refine blk_drewN ?_ _ | refine blk_drew ?_ | refine blk_alloc ?_ _)); refine blk_put (cs := #[.int .i64 0, .slice none 0 0, .slice none 0 0, .int .i64 0, .int .i64 0, .int .i64 0]) ?_ 3 _ rfl; (with_reducible repeat (first | refine blk_drewN ?_ _ | refine blk_drew ?_ | refine blk_alloc ?_ _)); refine blk_put (cs := #[.int .i64 0, .slice none 0 0, .slice none 0 0, .int .i64 0, .int .i64 0, .int .i64 0]) ?_ 2 _ rfl; (with_reducible repeat (first | refine blk_drewN ?_ _ | refine blk_drew ?_ | refine blk_alloc ?_ _)); refine blk_put (cs := #[.int .i64 0, .slice none 0 0, .slice none 0 0, .int .i64 0, .int .i64 0, .int .i64 0]) ?_ 1 _ rfl; (with_reducible repeat (first | refine blk_drewN ?_ _ | refine blk_drew ?_ | refine blk_alloc ?_ _)); refine blk_put (cs := #[.int .i64 0, .slice none 0 0, .slice none 0 0, .int .i64 0, .int .i64 0, .int .i64 0]) ?_ 0 _ rfl; (with_reducible repeat (first | refine blk_drewN ?_ _ | refine blk_drew ?_ | refine blk_alloc ?_ _)); exact BK101.out) Try.underlying76 rfl (by kernel_rfl)) rfl ?_
      exact ⟨_, _, by first | rfl | (simp [errW_none, errW_some] <;> rfl) | (simp [*, errW_none, errW_some] <;> rfl), by first | exact Kd.S_nil _ _ _ _ _ | exact Kd.N_nil _ _ _ _ _ | exact Kd.V_nil _ _ _ _ _ | exact Kd.Q_nil _ _ _ _ _ | exact Kd.R_nil _ _ _ _ _, by first | exact Kd.S_nil _ _ _ _ _ | exact Kd.N_nil _ _ _ _ _ | exact Kd.V_nil _ _ _ _ _ | exact Kd.Q_nil _ _ _ _ _ | exact Kd.R_nil _ _ _ _ _, by repeat (first | (with_reducible first | exact HB.out | apply below_alloc | apply pw_below_drewN | apply below_drew1 | refine below_set ?_ GE101.out) | exact HB.out)⟩
    · rw [if_neg c5] at H
      have c5b0 : decide (65536 < a0) = false := decide_eq_false c5
      clear c5
      simp only [Option.some.injEq, Prod.mk.injEq] at H
      obtain ⟨rfl, rfl, rfl, rfl, rfl, rfl, rfl⟩ := H
      go_enter Try.func47, Try.ntmps47
      go_wp2_with (first | ((with_reducible refine gate_dst (N := 2) rfl ?_); refine box_event ?hg (N := 2) ?hd (cs := #[.int .i64 0, .slice none 0 0, .slice none 0 0, .int .i64 0, .int .i64 0, .int .i64 0]) (t := 76) ?hr ?_; (case hd => rfl); (case hg => rfl); (case hr => first | (go_simp; done) | (go_simp; rfl)); intro gb101 hg w8 hbox hb; have n0_ := Aside0.mk (below_step (by repeat (first | (with_reducible first | exact HB.out | apply below_alloc | apply pw_below_drewN | apply below_drew1) | exact HB.out)) hb); have n1_ := Aside0.mk (hbox); have n2_ := Aside0.mk ((by rw [hg]; exact (below_size (by repeat (first | (with_reducible first | exact HB.out | apply below_alloc | apply pw_below_drewN | apply below_drew1) | exact HB.out))) : w.heap.size ≤ gb101)); have n3_ := Aside0.mk ((by rw [hg]; exact (below_size (by repeat (first | (with_reducible first | exact HB.out | apply below_alloc | apply pw_below_drewN | apply below_drew1) | exact HB.out))) : w.heap.size ≤ gb101)); clear HB; have HB := n0_; have BK101 := n1_; have GW101 := n2_; have GE101 := n3_; clear n0_ n1_ n2_ n3_; clear hb hbox hg; have hcz9_0 : w8.cell? ⟨gb101, 0, none⟩ = some (.int .i64 0) := (blk_cell BK101.out 0).trans rfl; have hcz9_1 : w8.cell? ⟨gb101, 1, none⟩ = some (.slice none 0 0) := (blk_cell BK101.out 1).trans rfl; have hcz9_2 : w8.cell? ⟨gb101, 2, none⟩ = some (.slice none 0 0) := (blk_cell BK101.out 2).trans rfl; have hcz9_3 : w8.cell? ⟨gb101, 3, none⟩ = some (.int .i64 0) := (blk_cell BK101.out 3).trans rfl; have hcz9_4 : w8.cell? ⟨gb101, 4, none⟩ = some (.int .i64 0) := (blk_cell BK101.out 4).trans rfl; have hcz9_5 : w8.cell? ⟨gb101, 5, none⟩ = some (.int .i64 0) := (blk_cell BK101.out 5).trans rfl; have hfz9_0 := blk_frozen BK101.out 0; have hfz9_1 := blk_frozen BK101.out 1; have hfz9_2 := blk_frozen BK101.out 2; have hfz9_3 := blk_frozen BK101.out 3; have hfz9_4 := blk_frozen BK101.out 4; have hfz9_5 := blk_frozen BK101.out 5))
      refine bodyPost_ret (results_ct rfl _ _ gb101 76 #[.int .i64 a0, .slice none 0 0, .slice none 0 0, .int .i64 0, .int .i64 0, .int .i64 0] (0, 0) _ rfl (by (with_reducible repeat (first | refine blk_drewN ?_ _ | refine blk_drew ?_ | refine blk_alloc ?_ _)); refine blk_put (cs := #[.int .i64 a0, .slice none 0 0, .slice none 0 0, .int .i64 0, .int .i64 0, .int .i64 0]) ?_ 5 _ rfl; (with_reducible repeat (first | refine blk_drewN ?_ _ | refine blk_drew ?_ | refine blk_alloc ?_ _)); refine blk_put (cs := #[.int .i64 a0, .slice none 0 0, .slice none 0 0, .int .i64 0, .int .i64 0, .int .i64 0]) ?_ 4 _ rfl; (with_reducible repeat (first | refine blk_drewN ?_ _ | refine blk_drew ?_ | refine blk_alloc ?_ _)); refine blk_put (cs := #[.int .i64 a0, .slice none 0 0, .slice none 0 0, .int .i64 0, .int .i64 0, .int .i64 0]) ?_ 3 _ rfl; (with_reducible repeat (first | refine blk_drewN ?_ _ | refine blk_drew ?_ | refine blk_alloc ?_ _)); refine blk_put (cs := #[.int .i64 a0, .slice none 0 0, .slice none 0 0, .int .i64 0, .int .i64 0, .int .i64 0]) ?_ 2 _ rfl; (with_reducible repeat (first | refine blk_drewN ?_ _ | refine blk_drew ?_ | refine blk_alloc ?_ _)); refine blk_put (cs := #[.int .i64 a0, .slice none 0 0, .slice none 0 0, .int .i64 0, .int .i64 0, .int .i64 0]) ?_ 1 _ rfl; (with_reducible repeat (first | refine blk_drewN ?_ _ | refine blk_drew ?_ | refine blk_alloc ?_ _)); refine blk_put (cs := #[.int .i64 0, .slice none 0 0, .slice none 0 0, .int .i64 0, .int .i64 0, .int .i64 0]) ?_ 0 _ rfl; (with_reducible repeat (first | refine blk_drewN ?_ _ | refine blk_drew ?_ | refine blk_alloc ?_ _)); exact BK101.out) Try.underlying76 rfl (by kernel_rfl)) rfl ?_
      exact ⟨_, _, by first | rfl | (simp [errW_none, errW_some] <;> rfl) | (simp [*, errW_none, errW_some] <;> rfl), by first | exact Kd.S_nil _ _ _ _ _ | exact Kd.N_nil _ _ _ _ _ | exact Kd.V_nil _ _ _ _ _ | exact Kd.Q_nil _ _ _ _ _ | exact Kd.R_nil _ _ _ _ _, by first | exact Kd.S_nil _ _ _ _ _ | exact Kd.N_nil _ _ _ _ _ | exact Kd.V_nil _ _ _ _ _ | exact Kd.Q_nil _ _ _ _ _ | exact Kd.R_nil _ _ _ _ _, by repeat (first | (with_reducible first | exact HB.out | apply below_alloc | apply pw_below_drewN | apply below_drew1 | refine below_set ?_ GE101.out) | exact HB.out)⟩
mutual
def kilnref3_Load.j0 : Nat → List (List Int) → Bool → Option (Int × (List (S106)) × (List (S106)) × Int × Int × Int × Int)
  | 0, _, _ => none
  | k + 1, x0, x13 => if x13 = true then (some (0, ([] : List (S106)), ([] : List (S106)), 0, 0, 0, 30)) else (kilnref3_Load.l0 k x0 0 (x0.length : Int) ([] : List (S106)) 0 0 0)
def kilnref3_Load.l0 : Nat → List (List Int) → Int → Int → List (S106) → Int → Int → Int → Option (Int × (List (S106)) × (List (S106)) × Int × Int × Int × Int)
  | 0, _, _, _, _, _, _, _ => none
  | k + 1, x0, x5, x226000, x226001, x226003, x226004, x226005 => if x5 < (x0.length : Int) then (if 0 ≤ x5 then (if ((rd_L2 x0 x5).length : Int) = 512 then ((kilnref3_Copy.f (rd_L2 x0 x5)).bind fun t228 => (if x226001.length < 4398046511104 then (kilnref3_Load.l0 k x0 (wrap64 (x5 + 1)) x226000 (x226001 ++ [(⟨x5, t228⟩ : S106)]) x226003 x226004 x226005) else (none))) else (some (0, ([] : List (S106)), ([] : List (S106)), 0, 0, 0, 32))) else (none)) else (some (x226000, x226001, ([] : List (S106)), x226003, x226004, x226005, 0))
end
def kilnref3_Load.f (k : Nat) (l0 : List (List Int)) : Option (Int × (List (S106)) × (List (S106)) × Int × Int × Int × Int) := if (l0.length : Int) < 2 then (kilnref3_Load.j0 k l0 true) else (kilnref3_Load.j0 k l0 (decide ((l0.length : Int) > 65536)))
theorem kilnref3_Load.mono_l : ∀ k, (∀ y0 y1, LeO (kilnref3_Load.j0 k y0 y1) (kilnref3_Load.j0 (k + 1) y0 y1)) ∧ (∀ y0 y1 y2 y3 y4 y5 y6, LeO (kilnref3_Load.l0 k y0 y1 y2 y3 y4 y5 y6) (kilnref3_Load.l0 (k + 1) y0 y1 y2 y3 y4 y5 y6))
  | 0 => ⟨fun _ _ r h => by simp [kilnref3_Load.j0] at h, fun _ _ _ _ _ _ _ r h => by simp [kilnref3_Load.l0] at h⟩
  | k + 1 => by
    obtain ⟨ih0, ih1⟩ := kilnref3_Load.mono_l k
    refine ⟨?_, ?_⟩
    · intro y0 y1
      unfold kilnref3_Load.j0
      repeat' first
      | (with_reducible exact ih0 _ _)
      | (with_reducible exact ih1 _ _ _ _ _ _ _)
      | (with_reducible exact LeO.refl _)
      | (with_reducible exact LeO.none _)
      | (with_reducible refine LeO.ite ?_ ?_)
      | (with_reducible refine LeO.bind ?_ (fun _ => ?_))
      | exact ih0 _ _
      | exact ih1 _ _ _ _ _ _ _
      | exact LeO.none _
      | refine LeO.ite ?_ ?_
      | refine LeO.bind ?_ (fun _ => ?_)
    · intro y0 y1 y2 y3 y4 y5 y6
      unfold kilnref3_Load.l0
      repeat' first
      | (with_reducible exact ih0 _ _)
      | (with_reducible exact ih1 _ _ _ _ _ _ _)
      | (with_reducible exact LeO.refl _)
      | (with_reducible exact LeO.none _)
      | (with_reducible refine LeO.ite ?_ ?_)
      | (with_reducible refine LeO.bind ?_ (fun _ => ?_))
      | exact ih0 _ _
      | exact ih1 _ _ _ _ _ _ _
      | exact LeO.none _
      | refine LeO.ite ?_ ?_
      | refine LeO.bind ?_ (fun _ => ?_)
theorem kilnref3_Load.mono : ∀ a0 k, LeO (kilnref3_Load.f k a0) (kilnref3_Load.f (k + 1) a0) := by
  intro a0 k
  obtain ⟨ih0, ih1⟩ := kilnref3_Load.mono_l k
  unfold kilnref3_Load.f
  repeat' first
      | (with_reducible exact ih0 _ _)
      | (with_reducible exact ih1 _ _ _ _ _ _ _)
      | (with_reducible exact LeO.refl _)
      | (with_reducible exact LeO.none _)
      | (with_reducible refine LeO.ite ?_ ?_)
      | (with_reducible refine LeO.bind ?_ (fun _ => ?_))
      | exact ih0 _ _
      | exact ih1 _ _ _ _ _ _ _
      | exact LeO.none _
      | refine LeO.ite ?_ ?_
      | refine LeO.bind ?_ (fun _ => ?_)
def kilnref3_Load.T9 : Bool × List (List Nat × List Nat) := (true, [([], []), ([0], [0]), ([], []), ([], []), ([], []), ([3, 4], [3, 4]), ([5], [5]), ([6], [6]), ([2, 7], [2, 7]), ([8], [8]), ([1, 9, 7], [1, 9]), ([0, 1, 2, 3, 4, 5, 6, 7, 8, 9, 10], []), ([11, 10, 10, 0, 1, 2, 3, 4, 5, 6, 7, 8, 9, 10], [10, 11])])
def kilnref3_Load.B9 : List Nat := [0, 1, 0, 0, 0, 24, 56, 120, 252, 508, 1023, 2047, 4095]
theorem kilnref3_Load.tab9 : rtab .any (opsOf Try.f40 9) = kilnref3_Load.T9 := by kernel_rfl
theorem kilnref3_Load.bits9 : waitsOk kilnref3_Load.T9.2 kilnref3_Load.B9 = true := by kernel_rfl
set_option maxHeartbeats 8000000 in
set_option maxRecDepth 100000 in
theorem kilnref3_Load.calls (k : Nat) (A0 : Option Addr) (c0 : Nat) (l0 : List (List Int)) (r1 : Int) (r2 : List (S106)) (r3 : List (S106)) (r4 : Int) (r5 : Int) (r6 : Int) (r7 : Int) (w : World) (hr0 : Kd.C (Kd.slice 5 (Kd.int .u8)) w A0 l0.length l0) (hc0 : l0.length ≤ c0) (h : kilnref3_Load.f k l0 = some (r1, r2, r3, r4, r5, r6, r7)) :
    Calls Try.prog 40 #[.slice A0 l0.length c0] w fun e w' => ∃ v1_ v2_ : Value, e = .returned (.tuple #[.agg #[.int .i64 r1, v1_, v2_, .int .i64 r4, .int .i64 r5, .int .i64 r6], .int .i64 r7]) ∧ Kd.S k106 106 w' w.heap.size (fun k_ => some k_ ≠ (v2_ : Value).ownBlock) v1_ r2 ∧ Kd.S k106 106 w' w.heap.size (fun k_ => some k_ ≠ (v1_ : Value).ownBlock) v2_ r3 ∧ Below w.heap.size w w' := by
  have hu76 := Try.underlying76
  have hu106 := Try.underlying106
  have HR0 := Aside0.mk hr0
  have HC0 := Aside0.mk hc0
  clear hr0 hc0
  have HB := Aside0.mk (Below.refl w.heap.size w)
  have H : (if (l0.length : Int) < 2 then (kilnref3_Load.j0 k l0 true) else (kilnref3_Load.j0 k l0 (decide ((l0.length : Int) > 65536)))) = some (r1, r2, r3, r4, r5, r6, r7) := h
  clear h
  have HC2 := Aside0.mk H
  clear H
  go_enter Try.func40, Try.ntmps40
  go_upto_region 1 with (first | ((with_reducible refine gate_dst (N := 2) rfl ?_); (try (refine gate_guard (by rfl) ?_; dsimp only)); refine box_event ?hg (N := 2) ?hd (cs := #[.int .i64 0, .slice none 0 0, .slice none 0 0, .int .i64 0, .int .i64 0, .int .i64 0]) (t := 76) ?hr ?_; (case hd => rfl); (case hg => rfl); (case hr => first | (go_simp; done) | (go_simp; rfl)); intro gb224 hg w3 hbox hb; have n0_ := Aside0.mk (below_step (by repeat (first | (with_reducible first | exact HB.out | apply below_alloc | apply pw_below_drewN | apply below_drew1) | exact HB.out)) hb); have n1_ := Aside0.mk (hbox); have n2_ := Aside0.mk ((by rw [hg]; exact (below_size (by repeat (first | (with_reducible first | exact HB.out | apply below_alloc | apply pw_below_drewN | apply below_drew1) | exact HB.out))) : w.heap.size ≤ gb224)); have n3_ := Aside0.mk ((by rw [hg]; exact (below_size (by repeat (first | (with_reducible first | exact HB.out | apply below_alloc | apply pw_below_drewN | apply below_drew1) | exact HB.out))) : w.heap.size ≤ gb224)); clear HB; have HB := n0_; have BK224 := n1_; have GW224 := n2_; have GE224 := n3_; clear n0_ n1_ n2_ n3_; clear hb hbox hg))
  (try simp only [Act.put, List.setIfInBounds_toArray, List.set_cons_zero, List.set_cons_succ])
  go_cut [13] (fun v13 wc => ∃ (kq : Nat) (x13_1 : Bool), v13 = .bool x13_1 ∧ Aside0 (kilnref3_Load.j0 kq l0 x13_1 = some (r1, r2, r3, r4, r5, r6, r7)) ∧ Aside0 (kq ≤ k) ∧ Aside0 (wc.heap[gb224]? = some (.cells #[.int .i64 0, (.slice none 0 0), (.slice none 0 0), .int .i64 0, .int .i64 0, .int .i64 0] 76 (0, 0))) ∧ Aside0 (Below w.heap.size w wc))
  case first =>
    have H := HC2.out
    clear HC2
    by_cases c4 : (l0.length : Int) < 2
    · rw [if_pos c4] at H
      have c4b0 : decide ((l0.length : Int) < 2) = true := decide_eq_true c4
      have c4b1 : decide (l0.length < 2) = true := decide_eq_true (by omega)
      clear c4
      (first | rw [c4b0] | (simp only [i64_w, i32_w]; rw [c4b0]) | skip)
      have H' := Aside0.mk H
      clear H
      go_wp2
      go_meet
      case rel => exact ⟨_, (true), (by first | rfl | (simp; done) | (simp [*]; done)), H', ⟨by first | omega | exact Nat.le_refl _⟩, ⟨by (with_reducible repeat (first | refine blk_drewN ?_ _ | refine blk_drew ?_ | refine blk_alloc ?_ _)); exact BK224.out⟩, ⟨by repeat (first | (with_reducible first | exact HB.out | apply below_alloc | apply pw_below_drewN | apply below_drew1 | refine below_set ?_ GE224.out) | exact HB.out)⟩⟩
    · rw [if_neg c4] at H
      have c4b0 : decide ((l0.length : Int) < 2) = false := decide_eq_false c4
      have c4b1 : decide (l0.length < 2) = false := decide_eq_false (by omega)
      clear c4
      (first | rw [c4b0] | (simp only [i64_w, i32_w]; rw [c4b0]) | skip)
      have H' := Aside0.mk H
      clear H
      go_wp2
      go_meet
      case rel => exact ⟨_, (decide ((l0.length : Int) > 65536)), (by first | rfl | (simp; done) | (simp [*]; done)), H', ⟨by first | omega | exact Nat.le_refl _⟩, ⟨by (with_reducible repeat (first | refine blk_drewN ?_ _ | refine blk_drew ?_ | refine blk_alloc ?_ _)); exact BK224.out⟩, ⟨by repeat (first | (with_reducible first | exact HB.out | apply below_alloc | apply pw_below_drewN | apply below_drew1 | refine below_set ?_ GE224.out) | exact HB.out)⟩⟩
  case rest =>
    clear HC2
    try clear p2
    try clear c4
    try clear c4b0
    try clear c4b1
    obtain ⟨kq, x13_1, rfl, HA, HJ1, BK224, HB⟩ := hcut
    cases kq with
    | zero => exact absurd HA.out (by simp [kilnref3_Load.j0])
    | succ kj1 =>
      have H := HA.out
      clear HA
      simp only [kilnref3_Load.j0] at H
      by_cases c5 : x13_1 = true
      · subst c5
        have H1 : (some (0, ([] : List (S106)), ([] : List (S106)), 0, 0, 0, 30)) = some (r1, r2, r3, r4, r5, r6, r7) := by rw [if_pos rfl] at H; exact H
        clear H
        have H := H1
        clear H1
        simp only [Option.some.injEq, Prod.mk.injEq] at H
        obtain ⟨rfl, rfl, rfl, rfl, rfl, rfl, rfl⟩ := H
        have hcz6_0 : wc.cell? ⟨gb224, 0, none⟩ = some (.int .i64 0) := (blk_cell BK224.out 0).trans rfl
        have hcz6_1 : wc.cell? ⟨gb224, 1, none⟩ = some (.slice none 0 0) := (blk_cell BK224.out 1).trans rfl
        have hcz6_2 : wc.cell? ⟨gb224, 2, none⟩ = some (.slice none 0 0) := (blk_cell BK224.out 2).trans rfl
        have hcz6_3 : wc.cell? ⟨gb224, 3, none⟩ = some (.int .i64 0) := (blk_cell BK224.out 3).trans rfl
        have hcz6_4 : wc.cell? ⟨gb224, 4, none⟩ = some (.int .i64 0) := (blk_cell BK224.out 4).trans rfl
        have hcz6_5 : wc.cell? ⟨gb224, 5, none⟩ = some (.int .i64 0) := (blk_cell BK224.out 5).trans rfl
        have hfz6_0 := blk_frozen BK224.out 0
        have hfz6_1 := blk_frozen BK224.out 1
        have hfz6_2 := blk_frozen BK224.out 2
        have hfz6_3 := blk_frozen BK224.out 3
        have hfz6_4 := blk_frozen BK224.out 4
        have hfz6_5 := blk_frozen BK224.out 5
        go_wp2
        refine bodyPost_ret (results_ct rfl _ _ gb224 76 #[.int .i64 0, .slice none 0 0, .slice none 0 0, .int .i64 0, .int .i64 0, .int .i64 0] (0, 0) _ rfl (by (with_reducible repeat (first | refine blk_drewN ?_ _ | refine blk_drew ?_ | refine blk_alloc ?_ _)); refine blk_put (cs := #[.int .i64 0, .slice none 0 0, .slice none 0 0, .int .i64 0, .int .i64 0, .int .i64 0]) ?_ 5 _ rfl; (with_reducible repeat (first | refine blk_drewN ?_ _ | refine blk_drew ?_ | refine blk_alloc ?_ _)); refine blk_put (cs := #[.int .i64 0, .slice none 0 0, .slice none 0 0, .int .i64 0, .int .i64 0, .int .i64 0]) ?_ 4 _ rfl; (with_reducible repeat (first | refine blk_drewN ?_ _ | refine blk_drew ?_ | refine blk_alloc ?_ _)); refine blk_put (cs := #[.int .i64 0, .slice none 0 0, .slice none 0 0, .int .i64 0, .int .i64 0, .int .i64 0]) ?_ 3 _ rfl; (with_reducible repeat (first | refine blk_drewN ?_ _ | refine blk_drew ?_ | refine blk_alloc ?_ _)); refine blk_put (cs := #[.int .i64 0, .slice none 0 0, .slice none 0 0, .int .i64 0, .int .i64 0, .int .i64 0]) ?_ 2 _ rfl; (with_reducible repeat (first | refine blk_drewN ?_ _ | refine blk_drew ?_ | refine blk_alloc ?_ _)); refine blk_put (cs := #[.int .i64 0, .slice none 0 0, .slice none 0 0, .int .i64 0, .int .i64 0, .int .i64 0]) ?_ 1 _ rfl; (with_reducible repeat (first | refine blk_drewN ?_ _ | refine blk_drew ?_ | refine blk_alloc ?_ _)); refine blk_put (cs := #[.int .i64 0, .slice none 0 0, .slice none 0 0, .int .i64 0, .int .i64 0, .int .i64 0]) ?_ 0 _ rfl; (with_reducible repeat (first | refine blk_drewN ?_ _ | refine blk_drew ?_ | refine blk_alloc ?_ _)); exact BK224.out) Try.underlying76 rfl (by kernel_rfl)) rfl ?_
        exact ⟨_, _, by first | rfl | (simp [errW_none, errW_some] <;> rfl) | (simp [*, errW_none, errW_some] <;> rfl), by first | exact Kd.S_nil _ _ _ _ _ | exact Kd.N_nil _ _ _ _ _ | exact Kd.V_nil _ _ _ _ _ | exact Kd.Q_nil _ _ _ _ _ | exact Kd.R_nil _ _ _ _ _, by first | exact Kd.S_nil _ _ _ _ _ | exact Kd.N_nil _ _ _ _ _ | exact Kd.V_nil _ _ _ _ _ | exact Kd.Q_nil _ _ _ _ _ | exact Kd.R_nil _ _ _ _ _, by repeat (first | (with_reducible first | exact HB.out | apply below_alloc | apply pw_below_drewN | apply below_drew1 | refine below_set ?_ GE224.out) | exact HB.out)⟩
      · replace c5 := Bool.eq_false_iff.mpr c5
        subst c5
        have H1 : (kilnref3_Load.l0 kj1 l0 0 (l0.length : Int) ([] : List (S106)) 0 0 0) = some (r1, r2, r3, r4, r5, r6, r7) := by rw [if_neg (show ¬ (false = true) by decide)] at H; exact H
        clear H
        have H := H1
        clear H1
        have H' := Aside0.mk H
        clear H
        go_wp2_with (first | ((with_reducible refine gate_dst (N := 4) rfl ?_); (try (refine gate_guard (by rfl) ?_; dsimp only)); refine box_event ?hg (N := 4) ?hd (cs := #[.int .i64 0, .slice none 0 0, .slice none 0 0, .int .i64 0, .int .i64 0, .int .i64 0]) (t := 76) ?hr ?_; (case hd => rfl); (case hg => rfl); (case hr => first | (go_simp; done) | (go_simp; rfl)); intro gb225 hg w7 hbox hb; have n0_ := Aside0.mk (blk_below (g := gb224) (o := .cells #[.int .i64 0, .slice none 0 0, .slice none 0 0, .int .i64 0, .int .i64 0, .int .i64 0] 76 (0, 0)) (by (with_reducible repeat (first | refine blk_drewN ?_ _ | refine blk_drew ?_ | refine blk_alloc ?_ _)); exact BK224.out) hb); have n1_ := Aside0.mk (below_step (by repeat (first | (with_reducible first | exact HB.out | apply below_alloc | apply pw_below_drewN | apply below_drew1 | refine below_set ?_ GE224.out) | exact HB.out)) hb); have n2_ := Aside0.mk (hbox); have n3_ := Aside0.mk ((by rw [hg]; exact (below_size (by repeat (first | (with_reducible first | exact HB.out | apply below_alloc | apply pw_below_drewN | apply below_drew1 | refine below_set ?_ GE224.out) | exact HB.out))) : w.heap.size ≤ gb225)); have n4_ := Aside0.mk ((by rw [hg]; exact (below_size (by repeat (first | (with_reducible first | exact HB.out | apply below_alloc | apply pw_below_drewN | apply below_drew1 | refine below_set ?_ GE224.out) | exact HB.out))) : w.heap.size ≤ gb225)); have n5_ := Aside0.mk ((by rw [hg]; exact Nat.ne_of_lt (blk_lt (g := gb224) (o := .cells #[.int .i64 0, .slice none 0 0, .slice none 0 0, .int .i64 0, .int .i64 0, .int .i64 0] 76 (0, 0)) (by (with_reducible repeat (first | refine blk_drewN ?_ _ | refine blk_drew ?_ | refine blk_alloc ?_ _)); exact BK224.out)) : gb224 ≠ gb225)); have n6_ := Aside0.mk ((by rw [hg]; exact Nat.ne_of_gt (blk_lt (g := gb224) (o := .cells #[.int .i64 0, .slice none 0 0, .slice none 0 0, .int .i64 0, .int .i64 0, .int .i64 0] 76 (0, 0)) (by (with_reducible repeat (first | refine blk_drewN ?_ _ | refine blk_drew ?_ | refine blk_alloc ?_ _)); exact BK224.out)) : gb225 ≠ gb224)); clear BK224; clear HB; have BK224 := n0_; have HB := n1_; have BK225 := n2_; have GW225 := n3_; have GE225 := n4_; have NB224_225 := n5_; have NB225_224 := n6_; clear n0_ n1_ n2_ n3_ n4_ n5_ n6_; clear hb hbox hg; have hnb8 := NB225_224.out; have hnc8 := NB224_225.out; have hcz9_0 : w7.cell? ⟨gb225, 0, none⟩ = some (.int .i64 0) := (blk_cell BK225.out 0).trans rfl; have hcz9_1 : w7.cell? ⟨gb225, 1, none⟩ = some (.slice none 0 0) := (blk_cell BK225.out 1).trans rfl; have hcz9_2 : w7.cell? ⟨gb225, 2, none⟩ = some (.slice none 0 0) := (blk_cell BK225.out 2).trans rfl; have hcz9_3 : w7.cell? ⟨gb225, 3, none⟩ = some (.int .i64 0) := (blk_cell BK225.out 3).trans rfl; have hcz9_4 : w7.cell? ⟨gb225, 4, none⟩ = some (.int .i64 0) := (blk_cell BK225.out 4).trans rfl; have hcz9_5 : w7.cell? ⟨gb225, 5, none⟩ = some (.int .i64 0) := (blk_cell BK225.out 5).trans rfl; have hfz9_0 := blk_frozen BK225.out 0; have hfz9_1 := blk_frozen BK225.out 1; have hfz9_2 := blk_frozen BK225.out 2; have hfz9_3 := blk_frozen BK225.out 3; have hfz9_4 := blk_frozen BK225.out 4; have hfz9_5 := blk_frozen BK225.out 5))
        go_loopg [5] kj1 (fun kq v5 w' => ∃ (x5_2 : Int) (x225000_2 : Int) (x225003_2 : Int) (x225004_2 : Int) (x225005_2 : Int) (x226001_2 : List (S106)) (u226001 : Value), v5 = .int .i64 x5_2 ∧ Aside0 (kilnref3_Load.l0 kq l0 x5_2 (l0.length : Int) x226001_2 0 0 0 = some (r1, r2, r3, r4, r5, r6, r7)) ∧ Aside0 (kq ≤ kj1) ∧ Aside0 (Kd.S k106 106 w' w.heap.size (fun _ => True) u226001 x226001_2) ∧ Aside0 (w'.heap[gb224]? = some (.cells #[.int .i64 x225000_2, (.slice none 0 0), (.slice none 0 0), .int .i64 x225003_2, .int .i64 x225004_2, .int .i64 x225005_2] 76 (0, 0))) ∧ Aside0 (w'.heap[gb225]? = some (.cells #[.int .i64 (l0.length : Int), u226001, (.slice none 0 0), .int .i64 0, .int .i64 0, .int .i64 0] 76 (0, 0))) ∧ Aside0 (Below w.heap.size w w'))
        case atStart => exact ⟨(0), (0), (0), (0), (0), (([] : List (S106))), (.slice none 0 0), (by first | rfl | (simp; done) | (simp [*]; done)), H', ⟨Nat.le_refl _⟩, ⟨by first | exact Kd.S_nil _ _ _ _ _ | exact Kd.N_nil _ _ _ _ _ | exact Kd.V_nil _ _ _ _ _ | exact Kd.Q_nil _ _ _ _ _ | exact Kd.R_nil _ _ _ _ _⟩, ⟨by (with_reducible repeat (first | refine blk_drewN ?_ _ | refine blk_drew ?_ | refine blk_alloc ?_ _)); refine blk_far ?_ NB224_225.out _; (with_reducible repeat (first | refine blk_drewN ?_ _ | refine blk_drew ?_ | refine blk_alloc ?_ _)); refine blk_far ?_ NB224_225.out _; (with_reducible repeat (first | refine blk_drewN ?_ _ | refine blk_drew ?_ | refine blk_alloc ?_ _)); refine blk_far ?_ NB224_225.out _; (with_reducible repeat (first | refine blk_drewN ?_ _ | refine blk_drew ?_ | refine blk_alloc ?_ _)); refine blk_far ?_ NB224_225.out _; (with_reducible repeat (first | refine blk_drewN ?_ _ | refine blk_drew ?_ | refine blk_alloc ?_ _)); refine blk_far ?_ NB224_225.out _; (with_reducible repeat (first | refine blk_drewN ?_ _ | refine blk_drew ?_ | refine blk_alloc ?_ _)); refine blk_far ?_ NB224_225.out _; (with_reducible repeat (first | refine blk_drewN ?_ _ | refine blk_drew ?_ | refine blk_alloc ?_ _)); exact BK224.out⟩, ⟨by (with_reducible repeat (first | refine blk_drewN ?_ _ | refine blk_drew ?_ | refine blk_alloc ?_ _)); refine blk_put (cs := #[.int .i64 (l0.length : Int), .slice none 0 0, .slice none 0 0, .int .i64 0, .int .i64 0, .int .i64 0]) ?_ 5 _ rfl; (with_reducible repeat (first | refine blk_drewN ?_ _ | refine blk_drew ?_ | refine blk_alloc ?_ _)); refine blk_put (cs := #[.int .i64 (l0.length : Int), .slice none 0 0, .slice none 0 0, .int .i64 0, .int .i64 0, .int .i64 0]) ?_ 4 _ rfl; (with_reducible repeat (first | refine blk_drewN ?_ _ | refine blk_drew ?_ | refine blk_alloc ?_ _)); refine blk_put (cs := #[.int .i64 (l0.length : Int), .slice none 0 0, .slice none 0 0, .int .i64 0, .int .i64 0, .int .i64 0]) ?_ 3 _ rfl; (with_reducible repeat (first | refine blk_drewN ?_ _ | refine blk_drew ?_ | refine blk_alloc ?_ _)); refine blk_put (cs := #[.int .i64 (l0.length : Int), .slice none 0 0, .slice none 0 0, .int .i64 0, .int .i64 0, .int .i64 0]) ?_ 2 _ rfl; (with_reducible repeat (first | refine blk_drewN ?_ _ | refine blk_drew ?_ | refine blk_alloc ?_ _)); refine blk_put (cs := #[.int .i64 (l0.length : Int), .slice none 0 0, .slice none 0 0, .int .i64 0, .int .i64 0, .int .i64 0]) ?_ 1 _ rfl; (with_reducible repeat (first | refine blk_drewN ?_ _ | refine blk_drew ?_ | refine blk_alloc ?_ _)); refine blk_put (cs := #[.int .i64 0, .slice none 0 0, .slice none 0 0, .int .i64 0, .int .i64 0, .int .i64 0]) ?_ 0 _ rfl; (with_reducible repeat (first | refine blk_drewN ?_ _ | refine blk_drew ?_ | refine blk_alloc ?_ _)); exact BK225.out⟩, ⟨by repeat (first | (with_reducible first | exact HB.out | apply below_alloc | apply pw_below_drewN | apply below_drew1 | refine below_set ?_ GE224.out | refine below_set ?_ GE225.out) | exact HB.out)⟩⟩
        case round =>
          clear H'
          try clear p2
          try clear c4
          try clear c4b0
          try clear c4b1
          try clear c5
          try clear c8
          try clear hcz6_0
          try clear hcz6_1
          try clear hcz6_2
          try clear hcz6_3
          try clear hcz6_4
          try clear hcz6_5
          try clear hcz9_0
          try clear hcz9_1
          try clear hcz9_2
          try clear hcz9_3
          try clear hcz9_4
          try clear hcz9_5
          try clear hfz6_0
          try clear hfz6_1
          try clear hfz6_2
          try clear hfz6_3
          try clear hfz6_4
          try clear hfz6_5
          try clear hfz9_0
          try clear hfz9_1
          try clear hfz9_2
          try clear hfz9_3
          try clear hfz9_4
          try clear hfz9_5
          try clear p2
          obtain ⟨x5_2, x225000_2, x225003_2, x225004_2, x225005_2, x226001_2, u226001, rfl, HA, HK2, HO_226001, BK224, BK225, HB⟩ := hrel
          cases gk with
          | zero => exact absurd HA.out (by simp [kilnref3_Load.l0])
          | succ k2 =>
            have H := HA.out
            clear HA
            simp only [kilnref3_Load.l0] at H
            by_cases c10 : x5_2 < (l0.length : Int)
            · rw [if_pos c10] at H
              have c10b0 : decide (x5_2 < (l0.length : Int)) = true := decide_eq_true c10
              clear c10
              by_cases c11 : 0 ≤ x5_2
              · rw [if_pos c11] at H
                have c11b0 : decide (0 ≤ x5_2) = true := decide_eq_true c11
                clear c11
                by_cases c12 : ((rd_L2 l0 x5_2).length : Int) = 512
                · rw [if_pos c12] at H
                  have c12b0 : (((rd_L2 l0 x5_2).length : Int) == 512) = true := beq_iff_eq.mpr c12
                  have c12b1 : (((rd_L2 l0 x5_2).length : Int) != 512) = false := bne_eq_false_iff_eq.mpr c12
                  clear c12
                  replace H := Option.bind_eq_some_iff.mp H
                  obtain ⟨t228, A130, H⟩ := H
                  replace H : (if x226001_2.length < 4398046511104 then (kilnref3_Load.l0 k2 l0 (wrap64 (x5_2 + 1)) (l0.length : Int) (x226001_2 ++ [(⟨x5_2, t228⟩ : S106)]) 0 0 0) else (none)) = some (r1, r2, r3, r4, r5, r6, r7) := H
                  have A13 := Aside0.mk A130
                  clear A130
                  by_cases c14 : x226001_2.length < 4398046511104
                  · rw [if_pos c14] at H
                    have LMc14 := Aside0.mk c14
                    clear c14
                    obtain ⟨y231, hy231⟩ : ∃ y_ : List (S106), y_ = (x226001_2 ++ [(⟨x5_2, t228⟩ : S106)]) := ⟨_, rfl⟩
                    replace H : (kilnref3_Load.l0 k2 l0 (wrap64 (x5_2 + 1)) (l0.length : Int) y231 0 0 0) = some (r1, r2, r3, r4, r5, r6, r7) := by first | (rw [hy231]; with_reducible exact H) | (have H2_ := (Option.bind_some _ _).symm.trans H; rw [hy231]; with_reducible exact H2_) | (have H2_ := (Option.bind_some _ _).symm.trans H; with_reducible exact H2_) | with_reducible exact H | (rw [hy231]; exact H) | exact H
                    have Ny231 := Aside0.mk hy231
                    clear hy231
                    have H' := Aside0.mk H
                    clear H
                    have p226 : 0 ≤ (x5_2 : Int) := of_decide_eq_true (by first | (with_reducible assumption) | assumption)
                    have q226 : x5_2 < (l0.length : Int) := of_decide_eq_true (by first | (with_reducible assumption) | assumption)
                    obtain ⟨ad226, A226_0, c226_0, e226, hx226_0, hl226_0, hi226_0⟩ := at_L2 HR0.out x5_2 p226 q226
                    cases e226
                    replace hx226_0 := (HB.out.cell (World.block_lt_of_cell? w _ hx226_0)).trans hx226_0
                    have HR226_0 := Aside0.mk hi226_0
                    have HC226_0 := Aside0.mk hl226_0
                    clear hi226_0 hl226_0
                    replace p226 := eq_true p226
                    replace q226 := eq_true q226
                    try go_wp2
                    have n0_ := Aside0.mk (Kd.S_drew HO_226001.out)
                    have n1_ := Aside0.mk (blk_drew BK224.out)
                    have n2_ := Aside0.mk (blk_drew BK225.out)
                    have n3_ := Aside0.mk (below_drew1 HB.out)
                    clear HO_226001
                    clear BK224
                    clear BK225
                    clear HB
                    have HO_226001 := n0_
                    have BK224 := n1_
                    have BK225 := n2_
                    have HB := n3_
                    clear n0_ n1_ n2_ n3_
                    have p227 : 0 ≤ (x5_2 : Int) := of_decide_eq_true (by first | (with_reducible assumption) | assumption)
                    have q227 : x5_2 < (l0.length : Int) := of_decide_eq_true (by first | (with_reducible assumption) | assumption)
                    obtain ⟨ad227, A227_0, c227_0, e227, hx227_0, hl227_0, hi227_0⟩ := at_L2 HR0.out x5_2 p227 q227
                    have hw227_0 := hx227_0
                    obtain rfl : ad226 = ad227 := (by injection e227)
                    replace hx227_0 := (HB.out.cell (World.block_lt_of_cell? w _ hx227_0)).trans hx227_0
                    have HR227_0 := Aside0.mk hi227_0
                    have HC227_0 := Aside0.mk hl227_0
                    clear hi227_0 hl227_0
                    replace p227 := eq_true p227
                    replace q227 := eq_true q227
                    refine start_ (n := 13) (S := fun w' => w'.cell? ⟨gb225, 0, none⟩ = some (.int .i64 (l0.length : Int)) ∧ w'.cell? ⟨gb225, 1, none⟩ = some (u226001) ∧ w'.cell? ⟨gb225, 2, none⟩ = some (.slice none 0 0) ∧ w'.cell? ⟨gb225, 3, none⟩ = some (.int .i64 0) ∧ w'.cell? ⟨gb225, 4, none⟩ = some (.int .i64 0) ∧ w'.cell? ⟨gb225, 5, none⟩ = some (.int .i64 0) ∧ w'.cell? (ad226.add (x5_2).toNat) = some (.slice A227_0 (rd_L2 l0 x5_2).length c227_0)) (ds := [12]) (bb 13 0) (by kernel_rfl) rfl rfl ⟨(blk_cell BK225.out 0).trans rfl, (blk_cell BK225.out 1).trans rfl, (blk_cell BK225.out 2).trans rfl, (blk_cell BK225.out 3).trans rfl, (blk_cell BK225.out 4).trans rfl, (blk_cell BK225.out 5).trans rfl, ((HB.out.cell (World.block_lt_of_cell? w _ hw227_0)).trans hw227_0)⟩ (fun hHeld => ?_); refine with_tabW kilnref3_Load.tab9 kilnref3_Load.bits9 (fun HT_ HW_ => ?_)
                    generalize wr.drew = w15 at HO_226001 BK224 BK225 HB HR227_0 hx227_0 hHeld ⊢
                    refine pure_ (i := 0) (N := some 31) (v := ?_) (a' := ?_) (bb 13 1) rfl rfl (any_of HT_.out (by kernel_rfl)) (fun _ _ _ h => h) (Or.inl ⟨by rfl, ?_⟩) ?_ ?_
                    rotate_left
                    · intro w'
                      go_simp
                      with_reducible rfl
                    rotate_left
                    · simp only [Act.put, List.setIfInBounds_toArray, List.set_cons_zero, List.set_cons_succ, i64_w, i32_w]
                      rfl
                    refine pure_ (i := 2) (N := some 33) (v := ?_) (a' := ?_) (bb 13 5) rfl rfl (any_of HT_.out (by kernel_rfl)) (fun _ _ _ h => h) (Or.inl ⟨by rfl, ?_⟩) ?_ ?_
                    rotate_left
                    · intro w'
                      go_simp
                      with_reducible rfl
                    rotate_left
                    · simp only [Act.put, List.setIfInBounds_toArray, List.set_cons_zero, List.set_cons_succ, i64_w, i32_w]
                      rfl
                    refine pure_ (i := 3) (N := some 34) (v := ?_) (a' := ?_) (bb 13 13) rfl rfl (any_of HT_.out (by kernel_rfl)) (fun _ _ _ h => h) (Or.inl ⟨by rfl, ?_⟩) ?_ ?_
                    rotate_left
                    · intro w'
                      go_simp
                      with_reducible rfl
                    rotate_left
                    · simp only [Act.put, List.setIfInBounds_toArray, List.set_cons_zero, List.set_cons_succ, i64_w, i32_w]
                      rfl
                    refine pure_ (i := 4) (N := some 35) (v := ?_) (a' := ?_) (bb 13 29) rfl rfl (any_of HT_.out (by kernel_rfl)) (fun _ _ _ h => h) (Or.inl ⟨by rfl, ?_⟩) ?_ ?_
                    rotate_left
                    · intro w'
                      go_simp
                      with_reducible rfl
                    rotate_left
                    · simp only [Act.put, List.setIfInBounds_toArray, List.set_cons_zero, List.set_cons_succ, i64_w, i32_w]
                      rfl
                    refine pure_ (i := 5) (N := some 36) (v := ?_) (a' := ?_) (bb 13 61) rfl rfl (any_of HT_.out (by kernel_rfl)) (fun _ _ _ h => h) (Or.inl ⟨by rfl, ?_⟩) ?_ ?_
                    rotate_left
                    · intro w'
                      go_simp
                      with_reducible rfl
                    rotate_left
                    · simp only [Act.put, List.setIfInBounds_toArray, List.set_cons_zero, List.set_cons_succ, i64_w, i32_w]
                      rfl
                    refine take_ (i := 1) (N := some 32) (v := ?_) (a' := ?_) (bb 13 63) rfl rfl (take_ofW HT_.out HW_.out (by kernel_rfl)) (fun _ _ _ h => h) (Or.inl ⟨by rfl, ?_⟩) hHeld ?_ ?_
                    rotate_left
                    · rintro w' ⟨s0, s1, s2, s3, s4, s5, s6⟩
                      go_simp
                      with_reducible rfl
                    rotate_left
                    · simp only [Act.put, List.setIfInBounds_toArray, List.set_cons_zero, List.set_cons_succ, i64_w, i32_w]
                      rfl
                    refine take_ (i := 6) (N := some 37) (v := ?_) (a' := ?_) (bb 13 127) rfl rfl (take_ofW HT_.out HW_.out (by kernel_rfl)) (fun _ _ _ h => h) (Or.inl ⟨by rfl, ?_⟩) hHeld ?_ ?_
                    rotate_left
                    · rintro w' ⟨s0, s1, s2, s3, s4, s5, s6⟩
                      go_simp
                      with_reducible rfl
                    rotate_left
                    · simp only [Act.put, List.setIfInBounds_toArray, List.set_cons_zero, List.set_cons_succ, i64_w, i32_w]
                      rfl
                    refine one_ (i := 7) (N := some 38) (bb 13 255) rfl rfl (one_of HT_.out (by kernel_rfl)) (by decide) (fun K hK => ?_)
                    refine goes_ Try.func55 (by kernel_rfl) rfl #[.slice A227_0 (rd_L2 l0 x5_2).length c227_0] (by rfl) rfl rfl (by (try simp only [List.map_toArray, List.map_cons, List.map_nil]); first | done | rfl | (simp only [List.length_drop, List.length_take]; rfl)) ?_
                    with_reducible refine (kilnref3_Copy.calls _ _ (rd_L2 l0 x5_2) t228 _ ?side1 ?side2 A13.out).mono ?_
                    (case side1 => repeat (first | exact (Kd.C_below HR227_0.out HB.out) | (with_reducible refine Kd.C_alloc ?_ _) | (with_reducible refine Kd.C_drewN ?_ _) | (with_reducible refine Kd.C_drew ?_)))
                    (case side2 => exact HC227_0.out)
                    rintro e w16 ⟨v229, rfl, ho0, hb⟩
                    refine ⟨_, rfl, ?_⟩
                    have n0_ := Aside0.mk (Kd.S_elder' (by (with_reducible repeat (first | apply Kd.S_alloc | apply Kd.S_drewN | apply Kd.S_drew)); exact HO_226001.out) (Kd.R_base ho0) hb)
                    have n1_ := Aside0.mk (Kd.R_lower ho0 (below_size (by repeat (first | (with_reducible first | exact HB.out | apply below_alloc | apply pw_below_drewN | apply below_drew1 | refine below_set ?_ GE224.out | refine below_set ?_ GE225.out) | exact HB.out))))
                    have n2_ := Aside0.mk (blk_below (g := gb224) (o := .cells #[.int .i64 x225000_2, .slice none 0 0, .slice none 0 0, .int .i64 x225003_2, .int .i64 x225004_2, .int .i64 x225005_2] 76 (0, 0)) (by (with_reducible repeat (first | refine blk_drewN ?_ _ | refine blk_drew ?_ | refine blk_alloc ?_ _)); exact BK224.out) hb)
                    have n3_ := Aside0.mk (blk_below (g := gb225) (o := .cells #[.int .i64 (l0.length : Int), u226001, .slice none 0 0, .int .i64 0, .int .i64 0, .int .i64 0] 76 (0, 0)) (by (with_reducible repeat (first | refine blk_drewN ?_ _ | refine blk_drew ?_ | refine blk_alloc ?_ _)); exact BK225.out) hb)
                    have n4_ := Aside0.mk (below_step (by repeat (first | (with_reducible first | exact HB.out | apply below_alloc | apply pw_below_drewN | apply below_drew1 | refine below_set ?_ GE224.out | refine below_set ?_ GE225.out) | exact HB.out)) hb)
                    clear HO_226001
                    clear BK224
                    clear BK225
                    clear HB
                    have HO_226001 := n0_
                    have HO230 := n1_
                    have BK224 := n2_
                    have BK225 := n3_
                    have HB := n4_
                    clear n0_ n1_ n2_ n3_ n4_
                    (try clear hb)
                    (try clear hb2)
                    (try clear hk)
                    (try clear hi)
                    (try clear ho0)
                    obtain ⟨Ao17, co17, eo17⟩ := Kd.R_slice HO230.out
                    (first | subst eo17 | (injection eo17 with f1_ f2_ f3_; have f4_ := f1_.symm; have f5_ := f3_.symm; clear f1_ f2_ f3_; subst f4_; subst f5_))
                    refine hK.out _ _ ⟨(blk_cell BK225.out 0).trans rfl, (blk_cell BK225.out 1).trans rfl, (blk_cell BK225.out 2).trans rfl, (blk_cell BK225.out 3).trans rfl, (blk_cell BK225.out 4).trans rfl, (blk_cell BK225.out 5).trans rfl, ((HB.out.cell (World.block_lt_of_cell? w _ hw227_0)).trans hw227_0)⟩ (fun hHeld => ?_)
                    clear hK K
                    refine norm_ (a' := ?_) ?_ ?_
                    rotate_left
                    · show Act.put _ (some 38) _ = _
                      simp only [Act.put, List.setIfInBounds_toArray, List.set_cons_zero, List.set_cons_succ, i64_w, i32_w]
                      rfl
                    refine pure_ (i := 8) (N := some 39) (v := ?_) (a' := ?_) (bb 13 511) rfl rfl (any_of HT_.out (by kernel_rfl)) (fun _ _ _ h => h) (Or.inl ⟨by rfl, ?_⟩) ?_ ?_
                    rotate_left
                    · intro w'
                      go_simp
                      with_reducible rfl
                    rotate_left
                    · simp only [Act.put, List.setIfInBounds_toArray, List.set_cons_zero, List.set_cons_succ, i64_w, i32_w]
                      rfl
                    refine one_ (i := 9) (N := some 40) (bb 13 1023) rfl rfl (one_of HT_.out (by kernel_rfl)) (by decide) (fun K hK => ?_)
                    refine value_ (w1 := ?_) (v := ?_) (by rfl) rfl ?_ ?_
                    rotate_left 2
                    · go_simp
                      constructor
                      · rfl
                      · rfl
                    refine hK.out _ _ ⟨(blk_cell (blk_alloc BK225.out _) 0).trans rfl, (blk_cell (blk_alloc BK225.out _) 1).trans rfl, (blk_cell (blk_alloc BK225.out _) 2).trans rfl, (blk_cell (blk_alloc BK225.out _) 3).trans rfl, (blk_cell (blk_alloc BK225.out _) 4).trans rfl, (blk_cell (blk_alloc BK225.out _) 5).trans rfl, (World.cell?_alloc_lt _ _ _ (World.block_lt_of_cell? _ _ (((HB.out.cell (World.block_lt_of_cell? w _ hw227_0)).trans hw227_0)))).trans (((HB.out.cell (World.block_lt_of_cell? w _ hw227_0)).trans hw227_0))⟩ (fun hHeld => ?_)
                    clear hK K
                    refine norm_ (a' := ?_) ?_ ?_
                    rotate_left
                    · show Act.put _ (some 40) _ = _
                      simp only [Act.put, List.setIfInBounds_toArray, List.set_cons_zero, List.set_cons_succ, i64_w, i32_w]
                      rfl
                    refine one_ (i := 10) (N := some 41) (bb 13 2047) rfl rfl (one_of HT_.out (by kernel_rfl)) (by decide) (fun K hK => ?_)
                    refine Kd.S_append_step k106 (w0 := w) w.heap.size (by rfl) (.tmp 32) (.tmp 40) 74 106 (.agg #[(.int .i64 0), (.slice none 0 0)]) 32 rfl Try.underlying74 info106 rfl (by decide) (by omega) u226001 x226001_2 (⟨x5_2, t228⟩ : S106) [.int .i64 x5_2, .slice Ao17 t228.length co17] (fun _ => True) (fun k_ => some k_ = (.slice Ao17 t228.length co17 : Value).ownBlock) rfl rfl ?aP (fun k_ hk_ => ((Kd.R_mono (ok' := fun k_ => ((fun _ => True)) k_ ∧ some k_ ≠ (u226001 : Value).ownBlock) (Kd.R_apart' (HO230.out) (Kd.S_typed HO_226001.out) (by decide)) (fun k_ hk => ⟨trivial, hk.2⟩))).1 k_ hk_.symm) ?aF ?aO ?aB ?aS ?aL ?_
                    (case aP => exact k106_mkM _ _ _ (⟨x5_2, t228⟩ : S106) (Kd.R_mono (Kd.R_tight rfl (Kd.R_mono (ok' := fun k_ => ((fun _ => True)) k_ ∧ some k_ ≠ (u226001 : Value).ownBlock) (Kd.R_apart' (HO230.out) (Kd.S_typed HO_226001.out) (by decide)) (fun k_ hk => ⟨trivial, hk.2⟩))) (fun _ h_ => h_)))
                    (case aB => exact (by repeat (first | (with_reducible first | exact HB.out | apply below_alloc | apply pw_below_drewN | apply below_drew1 | refine below_set ?_ GE224.out | refine below_set ?_ GE225.out) | exact HB.out)))
                    (case aF => exact (fun _ _ => trivial))
                    (case aO => exact (by (with_reducible repeat (first | apply Kd.S_alloc | apply Kd.S_drewN | apply Kd.S_drew)); exact Kd.S_mono HO_226001.out (fun k_ hk => ⟨trivial, fun e_ => hk.2 e_⟩)))
                    (case aS => exact (below_size (by repeat (first | (with_reducible first | exact HB.out | apply below_alloc | apply pw_below_drewN | apply below_drew1 | refine below_set ?_ GE224.out | refine below_set ?_ GE225.out) | exact HB.out))))
                    (case aL => have := LMc14.out; omega)
                    intro v232 w18 ho hb hg hat
                    rw [← Ny231.out] at ho
                    have n0_ := Aside0.mk (blk_grown (g := gb224) (o := .cells #[.int .i64 x225000_2, .slice none 0 0, .slice none 0 0, .int .i64 x225003_2, .int .i64 x225004_2, .int .i64 x225005_2] 76 (0, 0)) (by (with_reducible repeat (first | refine blk_drewN ?_ _ | refine blk_drew ?_ | refine blk_alloc ?_ _)); exact BK224.out) hg (Kd.S_ne HO_226001.out BK224.out (by decide)))
                    have n1_ := Aside0.mk (blk_grown (g := gb225) (o := .cells #[.int .i64 (l0.length : Int), u226001, .slice none 0 0, .int .i64 0, .int .i64 0, .int .i64 0] 76 (0, 0)) (by (with_reducible repeat (first | refine blk_drewN ?_ _ | refine blk_drew ?_ | refine blk_alloc ?_ _)); exact BK225.out) hg (Kd.S_ne HO_226001.out BK225.out (by decide)))
                    have n2_ := Aside0.mk (hb)
                    have n3_ := Aside0.mk (ho)
                    clear BK224
                    clear BK225
                    clear HB
                    clear HO_226001
                    clear HO230
                    have BK224 := n0_
                    have BK225 := n1_
                    have HB := n2_
                    have HO233 := n3_
                    clear n0_ n1_ n2_ n3_
                    clear ho hb hg hat
                    obtain ⟨Ao19, co19, eo19⟩ := Kd.S_slice HO233.out
                    (first | subst eo19 | (injection eo19 with f1_ f2_ f3_; have f4_ := f1_.symm; have f5_ := f3_.symm; clear f1_ f2_ f3_; subst f4_; subst f5_))
                    refine hK.out _ _ ⟨(blk_cell BK225.out 0).trans rfl, (blk_cell BK225.out 1).trans rfl, (blk_cell BK225.out 2).trans rfl, (blk_cell BK225.out 3).trans rfl, (blk_cell BK225.out 4).trans rfl, (blk_cell BK225.out 5).trans rfl, ((HB.out.cell (World.block_lt_of_cell? w _ hw227_0)).trans hw227_0)⟩ (fun hHeld => ?_)
                    clear hK K
                    refine norm_ (a' := ?_) ?_ ?_
                    rotate_left
                    · show Act.put _ (some 41) _ = _
                      simp only [Act.put, List.setIfInBounds_toArray, List.set_cons_zero, List.set_cons_succ, i64_w, i32_w]
                      rfl
                    refine pure_ (i := 11) (N := some 42) (v := ?_) (a' := ?_) (bb 13 4095) rfl rfl (any_of HT_.out (by kernel_rfl)) (fun _ _ _ h => h) (Or.inl ⟨by rfl, ?_⟩) ?_ ?_
                    rotate_left
                    · intro w'
                      go_simp
                      with_reducible rfl
                    rotate_left
                    · simp only [Act.put, List.setIfInBounds_toArray, List.set_cons_zero, List.set_cons_succ, i64_w, i32_w]
                      rfl
                    refine last_ (i := 12) (N := none) (bb 13 8191) rfl rfl (one_of HT_.out (by kernel_rfl)) (by decide) (fun K hK => ?_)
                    have hs20 : w18.cell? ⟨gb225, 1, none⟩ = some (u226001) := (blk_cell BK225.out 1).trans rfl
                    have hfs20 := blk_frozen BK225.out 1
                    have hns20_0 := NB224_225.out
                    have hms20_0 := NB225_224.out
                    refine skip_ (w1 := ?_) (by rfl) rfl ?_ ?_
                    rotate_left
                    · go_simp
                      rfl
                    refine hK.out _ _ ?_
                    clear hK K
                    refine done_ (done_of HT_.out (by kernel_rfl)) ?_
                    try go_wp2
                    go_roundg k2
                    case measure => have := HJ1.out; have := HK2.out; omega
                    case rel => exact ⟨(wrap64 (x5_2 + 1)), (x225000_2), (x225003_2), (x225004_2), (x225005_2), (y231), (.slice Ao19 y231.length co19), (by first | rfl | (simp; done) | (simp [*]; done)), H', ⟨by have := HJ1.out; have := HK2.out; omega⟩, ⟨by (with_reducible repeat (first | apply Kd.S_alloc | apply Kd.S_drewN | apply Kd.S_drew)); exact Kd.S_mono (Kd.S_far (p := ⟨gb225, 1, none⟩) (Kd.S_types HO233.out BK225.out (by decide)) (fun _ hk => hk.2) (.slice Ao19 y231.length co19)) (fun _ hk => trivial)⟩, ⟨by (with_reducible repeat (first | refine blk_drewN ?_ _ | refine blk_drew ?_ | refine blk_alloc ?_ _)); refine blk_far ?_ NB224_225.out _; (with_reducible repeat (first | refine blk_drewN ?_ _ | refine blk_drew ?_ | refine blk_alloc ?_ _)); exact BK224.out⟩, ⟨by (with_reducible repeat (first | refine blk_drewN ?_ _ | refine blk_drew ?_ | refine blk_alloc ?_ _)); refine blk_put (cs := #[.int .i64 (l0.length : Int), u226001, .slice none 0 0, .int .i64 0, .int .i64 0, .int .i64 0]) ?_ 1 _ rfl; (with_reducible repeat (first | refine blk_drewN ?_ _ | refine blk_drew ?_ | refine blk_alloc ?_ _)); exact BK225.out⟩, ⟨by repeat (first | (with_reducible first | exact HB.out | apply below_alloc | apply pw_below_drewN | apply below_drew1 | refine below_set ?_ GE224.out | refine below_set ?_ GE225.out) | exact HB.out)⟩⟩
                  · rw [if_neg c14] at H
                    exact absurd H (by simp)
                · rw [if_neg c12] at H
                  have c12b0 : (((rd_L2 l0 x5_2).length : Int) == 512) = false := beq_eq_false_iff_ne.mpr c12
                  have c12b1 : (((rd_L2 l0 x5_2).length : Int) != 512) = true := bne_iff_ne.mpr c12
                  simp only [Option.some.injEq, Prod.mk.injEq] at H
                  obtain ⟨rfl, rfl, rfl, rfl, rfl, rfl, rfl⟩ := H
                  have p226 : 0 ≤ (x5_2 : Int) := of_decide_eq_true (by first | (with_reducible assumption) | assumption)
                  have q226 : x5_2 < (l0.length : Int) := of_decide_eq_true (by first | (with_reducible assumption) | assumption)
                  obtain ⟨ad226, A226_0, c226_0, e226, hx226_0, hl226_0, hi226_0⟩ := at_L2 HR0.out x5_2 p226 q226
                  cases e226
                  replace hx226_0 := (HB.out.cell (World.block_lt_of_cell? w _ hx226_0)).trans hx226_0
                  have HR226_0 := Aside0.mk hi226_0
                  have HC226_0 := Aside0.mk hl226_0
                  clear hi226_0 hl226_0
                  replace p226 := eq_true p226
                  replace q226 := eq_true q226
                  have hnb21 := NB224_225.out
                  have hnc21 := NB225_224.out
                  have hcz22_0 : wr.cell? ⟨gb224, 0, none⟩ = some (.int .i64 x225000_2) := (blk_cell BK224.out 0).trans rfl
                  have hcz22_1 : wr.cell? ⟨gb224, 1, none⟩ = some (.slice none 0 0) := (blk_cell BK224.out 1).trans rfl
                  have hcz22_2 : wr.cell? ⟨gb224, 2, none⟩ = some (.slice none 0 0) := (blk_cell BK224.out 2).trans rfl
                  have hcz22_3 : wr.cell? ⟨gb224, 3, none⟩ = some (.int .i64 x225003_2) := (blk_cell BK224.out 3).trans rfl
                  have hcz22_4 : wr.cell? ⟨gb224, 4, none⟩ = some (.int .i64 x225004_2) := (blk_cell BK224.out 4).trans rfl
                  have hcz22_5 : wr.cell? ⟨gb224, 5, none⟩ = some (.int .i64 x225005_2) := (blk_cell BK224.out 5).trans rfl
                  have hfz22_0 := blk_frozen BK224.out 0
                  have hfz22_1 := blk_frozen BK224.out 1
                  have hfz22_2 := blk_frozen BK224.out 2
                  have hfz22_3 := blk_frozen BK224.out 3
                  have hfz22_4 := blk_frozen BK224.out 4
                  have hfz22_5 := blk_frozen BK224.out 5
                  go_wp2
                  refine bodyPost_ret (results_ct rfl _ _ gb224 76 #[.int .i64 0, .slice none 0 0, .slice none 0 0, .int .i64 0, .int .i64 0, .int .i64 0] (0, 0) _ rfl (by (with_reducible repeat (first | refine blk_drewN ?_ _ | refine blk_drew ?_ | refine blk_alloc ?_ _)); refine blk_put (cs := #[.int .i64 0, .slice none 0 0, .slice none 0 0, .int .i64 0, .int .i64 0, .int .i64 x225005_2]) ?_ 5 _ rfl; (with_reducible repeat (first | refine blk_drewN ?_ _ | refine blk_drew ?_ | refine blk_alloc ?_ _)); refine blk_put (cs := #[.int .i64 0, .slice none 0 0, .slice none 0 0, .int .i64 0, .int .i64 x225004_2, .int .i64 x225005_2]) ?_ 4 _ rfl; (with_reducible repeat (first | refine blk_drewN ?_ _ | refine blk_drew ?_ | refine blk_alloc ?_ _)); refine blk_put (cs := #[.int .i64 0, .slice none 0 0, .slice none 0 0, .int .i64 x225003_2, .int .i64 x225004_2, .int .i64 x225005_2]) ?_ 3 _ rfl; (with_reducible repeat (first | refine blk_drewN ?_ _ | refine blk_drew ?_ | refine blk_alloc ?_ _)); refine blk_put (cs := #[.int .i64 0, .slice none 0 0, .slice none 0 0, .int .i64 x225003_2, .int .i64 x225004_2, .int .i64 x225005_2]) ?_ 2 _ rfl; (with_reducible repeat (first | refine blk_drewN ?_ _ | refine blk_drew ?_ | refine blk_alloc ?_ _)); refine blk_put (cs := #[.int .i64 0, .slice none 0 0, .slice none 0 0, .int .i64 x225003_2, .int .i64 x225004_2, .int .i64 x225005_2]) ?_ 1 _ rfl; (with_reducible repeat (first | refine blk_drewN ?_ _ | refine blk_drew ?_ | refine blk_alloc ?_ _)); refine blk_put (cs := #[.int .i64 x225000_2, .slice none 0 0, .slice none 0 0, .int .i64 x225003_2, .int .i64 x225004_2, .int .i64 x225005_2]) ?_ 0 _ rfl; (with_reducible repeat (first | refine blk_drewN ?_ _ | refine blk_drew ?_ | refine blk_alloc ?_ _)); exact BK224.out) Try.underlying76 rfl (by kernel_rfl)) rfl ?_
                  exact ⟨_, _, by first | rfl | (simp [errW_none, errW_some] <;> rfl) | (simp [*, errW_none, errW_some] <;> rfl), by first | exact Kd.S_nil _ _ _ _ _ | exact Kd.N_nil _ _ _ _ _ | exact Kd.V_nil _ _ _ _ _ | exact Kd.Q_nil _ _ _ _ _ | exact Kd.R_nil _ _ _ _ _, by first | exact Kd.S_nil _ _ _ _ _ | exact Kd.N_nil _ _ _ _ _ | exact Kd.V_nil _ _ _ _ _ | exact Kd.Q_nil _ _ _ _ _ | exact Kd.R_nil _ _ _ _ _, by repeat (first | (with_reducible first | exact HB.out | apply below_alloc | apply pw_below_drewN | apply below_drew1 | refine below_set ?_ GE224.out | refine below_set ?_ GE225.out) | exact HB.out)⟩
              · rw [if_neg c11] at H
                exact absurd H (by simp)
            · rw [if_neg c10] at H
              have c10b0 : decide (x5_2 < (l0.length : Int)) = false := decide_eq_false c10
              clear c10
              simp only [Option.some.injEq, Prod.mk.injEq] at H
              obtain ⟨rfl, rfl, rfl, rfl, rfl, rfl, rfl⟩ := H
              have hnb23 := NB225_224.out
              have hnc23 := NB224_225.out
              have hcz24_0 : wr.cell? ⟨gb225, 0, none⟩ = some (.int .i64 (l0.length : Int)) := (blk_cell BK225.out 0).trans rfl
              have hcz24_1 : wr.cell? ⟨gb225, 1, none⟩ = some (u226001) := (blk_cell BK225.out 1).trans rfl
              have hcz24_2 : wr.cell? ⟨gb225, 2, none⟩ = some (.slice none 0 0) := (blk_cell BK225.out 2).trans rfl
              have hcz24_3 : wr.cell? ⟨gb225, 3, none⟩ = some (.int .i64 0) := (blk_cell BK225.out 3).trans rfl
              have hcz24_4 : wr.cell? ⟨gb225, 4, none⟩ = some (.int .i64 0) := (blk_cell BK225.out 4).trans rfl
              have hcz24_5 : wr.cell? ⟨gb225, 5, none⟩ = some (.int .i64 0) := (blk_cell BK225.out 5).trans rfl
              have hfz24_0 := blk_frozen BK225.out 0
              have hfz24_1 := blk_frozen BK225.out 1
              have hfz24_2 := blk_frozen BK225.out 2
              have hfz24_3 := blk_frozen BK225.out 3
              have hfz24_4 := blk_frozen BK225.out 4
              have hfz24_5 := blk_frozen BK225.out 5
              have hcz25_0 : wr.cell? ⟨gb224, 0, none⟩ = some (.int .i64 x225000_2) := (blk_cell BK224.out 0).trans rfl
              have hcz25_1 : wr.cell? ⟨gb224, 1, none⟩ = some (.slice none 0 0) := (blk_cell BK224.out 1).trans rfl
              have hcz25_2 : wr.cell? ⟨gb224, 2, none⟩ = some (.slice none 0 0) := (blk_cell BK224.out 2).trans rfl
              have hcz25_3 : wr.cell? ⟨gb224, 3, none⟩ = some (.int .i64 x225003_2) := (blk_cell BK224.out 3).trans rfl
              have hcz25_4 : wr.cell? ⟨gb224, 4, none⟩ = some (.int .i64 x225004_2) := (blk_cell BK224.out 4).trans rfl
              have hcz25_5 : wr.cell? ⟨gb224, 5, none⟩ = some (.int .i64 x225005_2) := (blk_cell BK224.out 5).trans rfl
              have hfz25_0 := blk_frozen BK224.out 0
              have hfz25_1 := blk_frozen BK224.out 1
              have hfz25_2 := blk_frozen BK224.out 2
              have hfz25_3 := blk_frozen BK224.out 3
              have hfz25_4 := blk_frozen BK224.out 4
              have hfz25_5 := blk_frozen BK224.out 5
              obtain ⟨Ao26, co26, eo26⟩ := Kd.S_slice HO_226001.out
              subst eo26
              go_wp2
              refine bodyPost_ret (results_ct rfl _ _ gb224 76 #[.int .i64 (l0.length : Int), .slice Ao26 x226001_2.length co26, .slice none 0 0, .int .i64 0, .int .i64 0, .int .i64 0] (0, 0) _ rfl (by (with_reducible repeat (first | refine blk_drewN ?_ _ | refine blk_drew ?_ | refine blk_alloc ?_ _)); refine blk_put (cs := #[.int .i64 (l0.length : Int), .slice Ao26 x226001_2.length co26, .slice none 0 0, .int .i64 0, .int .i64 0, .int .i64 x225005_2]) ?_ 5 _ rfl; (with_reducible repeat (first | refine blk_drewN ?_ _ | refine blk_drew ?_ | refine blk_alloc ?_ _)); refine blk_put (cs := #[.int .i64 (l0.length : Int), .slice Ao26 x226001_2.length co26, .slice none 0 0, .int .i64 0, .int .i64 x225004_2, .int .i64 x225005_2]) ?_ 4 _ rfl; (with_reducible repeat (first | refine blk_drewN ?_ _ | refine blk_drew ?_ | refine blk_alloc ?_ _)); refine blk_put (cs := #[.int .i64 (l0.length : Int), .slice Ao26 x226001_2.length co26, .slice none 0 0, .int .i64 x225003_2, .int .i64 x225004_2, .int .i64 x225005_2]) ?_ 3 _ rfl; (with_reducible repeat (first | refine blk_drewN ?_ _ | refine blk_drew ?_ | refine blk_alloc ?_ _)); refine blk_put (cs := #[.int .i64 (l0.length : Int), .slice Ao26 x226001_2.length co26, .slice none 0 0, .int .i64 x225003_2, .int .i64 x225004_2, .int .i64 x225005_2]) ?_ 2 _ rfl; (with_reducible repeat (first | refine blk_drewN ?_ _ | refine blk_drew ?_ | refine blk_alloc ?_ _)); refine blk_put (cs := #[.int .i64 (l0.length : Int), .slice none 0 0, .slice none 0 0, .int .i64 x225003_2, .int .i64 x225004_2, .int .i64 x225005_2]) ?_ 1 _ rfl; (with_reducible repeat (first | refine blk_drewN ?_ _ | refine blk_drew ?_ | refine blk_alloc ?_ _)); refine blk_put (cs := #[.int .i64 x225000_2, .slice none 0 0, .slice none 0 0, .int .i64 x225003_2, .int .i64 x225004_2, .int .i64 x225005_2]) ?_ 0 _ rfl; (with_reducible repeat (first | refine blk_drewN ?_ _ | refine blk_drew ?_ | refine blk_alloc ?_ _)); exact BK224.out) Try.underlying76 rfl (by kernel_rfl)) rfl ?_
              exact ⟨_, _, by first | rfl | (simp [errW_none, errW_some] <;> rfl) | (simp [*, errW_none, errW_some] <;> rfl), by (with_reducible repeat (first | apply Kd.S_alloc | apply Kd.S_drewN | apply Kd.S_drew)); exact Kd.S_mono (Kd.S_far (p := ⟨gb224, 5, none⟩) (Kd.S_far (p := ⟨gb224, 4, none⟩) (Kd.S_far (p := ⟨gb224, 3, none⟩) (Kd.S_far (p := ⟨gb224, 2, none⟩) (Kd.S_far (p := ⟨gb224, 1, none⟩) (Kd.S_far (p := ⟨gb224, 0, none⟩) (Kd.S_types HO_226001.out BK224.out (by decide)) (fun _ hk => hk.2) (.int .i64 (l0.length : Int))) (fun _ hk => hk.2) (.slice Ao26 x226001_2.length co26)) (fun _ hk => hk.2) (.slice none 0 0)) (fun _ hk => hk.2) (.int .i64 0)) (fun _ hk => hk.2) (.int .i64 0)) (fun _ hk => hk.2) (.int .i64 0)) (fun _ hk => (by simp [Value.ownBlock])), by first | exact Kd.S_nil _ _ _ _ _ | exact Kd.N_nil _ _ _ _ _ | exact Kd.V_nil _ _ _ _ _ | exact Kd.Q_nil _ _ _ _ _ | exact Kd.R_nil _ _ _ _ _, by repeat (first | (with_reducible first | exact HB.out | apply below_alloc | apply pw_below_drewN | apply below_drew1 | refine below_set ?_ GE224.out | refine below_set ?_ GE225.out) | exact HB.out)⟩
def kilnref3_Zeros.f  : Option (List Int) := if 512 ≤ 281474976710656 then (some (List.replicate 512 0)) else (none)
set_option maxHeartbeats 8000000 in
set_option maxRecDepth 100000 in
theorem kilnref3_Zeros.calls  (r : List Int) (w : World) (h : kilnref3_Zeros.f  = some r) :
    Calls Try.prog 64 #[] w fun e w' => ∃ v0_ : Value, e = .returned (v0_) ∧ Kd.R (Kd.int .u8) 5 w' w.heap.size (fun _ => True) v0_ r ∧ Below w.heap.size w w' := by
  have HB := Aside0.mk (Below.refl w.heap.size w)
  have H : (if 512 ≤ 281474976710656 then (some (List.replicate 512 0)) else (none)) = some r := h
  clear h
  by_cases c1 : 512 ≤ 281474976710656
  · rw [if_pos c1] at H
    have c1b0 := eq_true c1
    have c1b1 : decide (512 ≤ 281474976710656) = true := decide_eq_true c1
    clear c1
    obtain ⟨y234, hy234⟩ : ∃ y_ : List Int, y_ = (List.replicate 512 0) := ⟨_, rfl⟩
    replace H : (some y234) = some r := by first | (rw [hy234]; with_reducible exact H) | (have H2_ := (Option.bind_some _ _).symm.trans H; rw [hy234]; with_reducible exact H2_) | (have H2_ := (Option.bind_some _ _).symm.trans H; with_reducible exact H2_) | with_reducible exact H | (rw [hy234]; exact H) | exact H
    have Ny234 := Aside0.mk hy234
    clear hy234
    obtain rfl := Option.some.inj H
    go_enter Try.func64, Try.ntmps64
    go_wp2_with (first | ((with_reducible refine gate_dst (N := 1) rfl ?_); refine Kd.R_make (Kd.int .u8) _ 5 rfl (N := 1) rfl 28 _ _ rfl 512 rfl rfl Try.underlying28 (.int .u8 0) 1 info5 rfl (by decide) (by omega) 0 (ok := fun _ => True) (okp := fun _ => True) rfl (fun _ hk => hk) trivial (by omega) (by omega) (Below.refl _ _) (Nat.le_refl _) ?_; intro v235 w2 ho3 hb hg_ hnew_; clear hg_ hnew_; (first | rw [← Ny234.out] at ho3 | (simp only [Int.reduceToNat] at ho3; rw [← Ny234.out] at ho3)); have n0_ := Aside0.mk (Kd.R_lower ho3 (below_size (by repeat (first | (with_reducible first | exact HB.out | apply below_alloc | apply pw_below_drewN | apply below_drew1) | exact HB.out)))); have n1_ := Aside0.mk (below_step (by repeat (first | (with_reducible first | exact HB.out | apply below_alloc | apply pw_below_drewN | apply below_drew1) | exact HB.out)) hb); clear HB; have HO236 := n0_; have HB := n1_; clear n0_ n1_; clear hb ho3))
    go_ret
    exact ⟨_, by first | rfl | (simp [errW_none, errW_some] <;> rfl) | (simp [*, errW_none, errW_some] <;> rfl), by (with_reducible repeat (first | apply Kd.R_alloc | apply Kd.R_drewN | apply Kd.R_drew)); exact HO236.out, by repeat (first | (with_reducible first | exact HB.out | apply below_alloc | apply pw_below_drewN | apply below_drew1) | exact HB.out)⟩
  · rw [if_neg c1] at H
    exact absurd H (by simp)
def kilnref3_lasts.l0 : Nat → Int → Int → Int → List (S106) → List (S106) → Int → Int → Int → Option (List Int)
  | 0, _, _, _, _, _, _, _, _ => none
  | k + 1, x1, x5, x238000, x238001, x238002, x238003, x238004, x238005 => if x5 ≥ 0 then (if 0 ≤ x5 then (if x5 < (x238001.length : Int) then (if ((rd_T106 x238001 x5).f0) = x1 then (some ((rd_T106 x238001 x5).f1)) else (kilnref3_lasts.l0 k x1 (wrap64 (x5 - 1)) x238000 x238001 x238002 x238003 x238004 x238005)) else (none)) else (none)) else ((kilnref3_Zeros.f).bind fun t240 => (some t240))
def kilnref3_lasts.f (k : Nat) (a0_0 : Int) (l0_1 : List (S106)) (l0_2 : List (S106)) (a0_3 : Int) (a0_4 : Int) (a0_5 : Int) (a1 : Int) : Option (List Int) := kilnref3_lasts.l0 k a1 (wrap64 ((l0_1.length : Int) - 1)) a0_0 l0_1 l0_2 a0_3 a0_4 a0_5
theorem kilnref3_lasts.mono_l : ∀ k, (∀ y0 y1 y2 y3 y4 y5 y6 y7, LeO (kilnref3_lasts.l0 k y0 y1 y2 y3 y4 y5 y6 y7) (kilnref3_lasts.l0 (k + 1) y0 y1 y2 y3 y4 y5 y6 y7))
  | 0 => fun _ _ _ _ _ _ _ _ r h => by simp [kilnref3_lasts.l0] at h
  | k + 1 => by
    have ih0 := kilnref3_lasts.mono_l k
    · intro y0 y1 y2 y3 y4 y5 y6 y7
      unfold kilnref3_lasts.l0
      repeat' first
      | (with_reducible exact ih0 _ _ _ _ _ _ _ _)
      | (with_reducible exact LeO.refl _)
      | (with_reducible exact LeO.none _)
      | (with_reducible refine LeO.ite ?_ ?_)
      | (with_reducible refine LeO.bind ?_ (fun _ => ?_))
      | exact ih0 _ _ _ _ _ _ _ _
      | exact LeO.none _
      | refine LeO.ite ?_ ?_
      | refine LeO.bind ?_ (fun _ => ?_)
theorem kilnref3_lasts.mono : ∀ a0 a1 a2 a3 a4 a5 a6 k, LeO (kilnref3_lasts.f k a0 a1 a2 a3 a4 a5 a6) (kilnref3_lasts.f (k + 1) a0 a1 a2 a3 a4 a5 a6) := by
  intro a0 a1 a2 a3 a4 a5 a6 k
  have ih0 := kilnref3_lasts.mono_l k
  unfold kilnref3_lasts.f
  repeat' first
      | (with_reducible exact ih0 _ _ _ _ _ _ _ _)
      | (with_reducible exact LeO.refl _)
      | (with_reducible exact LeO.none _)
      | (with_reducible refine LeO.ite ?_ ?_)
      | (with_reducible refine LeO.bind ?_ (fun _ => ?_))
      | exact ih0 _ _ _ _ _ _ _ _
      | exact LeO.none _
      | refine LeO.ite ?_ ?_
      | refine LeO.bind ?_ (fun _ => ?_)
set_option maxHeartbeats 8000000 in
set_option maxRecDepth 100000 in
theorem kilnref3_lasts.calls (k : Nat) (a0_0 : Int) (P0_1_ : Nat → Prop) (A0_1 : Option Addr) (c0_1 : Nat) (l0_1 : List (S106)) (A0_2 : Option Addr) (c0_2 : Nat) (l0_2 : List (S106)) (a0_3 : Int) (a0_4 : Int) (a0_5 : Int) (a1 : Int) (r : List Int) (w : World) (hs0_1 : Kd.V k106 106 w w.heap.size (fun k_ => P0_1_ k_) (.slice A0_1 l0_1.length c0_1) l0_1) (hr0_2 : Kd.C k106 w A0_2 l0_2.length l0_2) (hc0_2 : l0_2.length ≤ c0_2) (h : kilnref3_lasts.f k a0_0 l0_1 l0_2 a0_3 a0_4 a0_5 a1 = some r) :
    Calls Try.prog 63 #[.agg #[.int .i64 a0_0, .slice A0_1 l0_1.length c0_1, .slice A0_2 l0_2.length c0_2, .int .i64 a0_3, .int .i64 a0_4, .int .i64 a0_5], .int .i64 a1] w fun e w' => ∃ v0_ : Value, e = .returned (v0_) ∧ Kd.V (Kd.int .u8) 5 w' w.heap.size (fun k_ => (P0_1_ k_ ∨ w.heap.size ≤ k_)) v0_ r ∧ Below w.heap.size w w' := by
  have hu76 := Try.underlying76
  have HO0_1 := Aside0.mk (show Kd.V k106 106 w w.heap.size (fun k_ => (P0_1_ k_ ∨ w.heap.size ≤ k_)) (.slice A0_1 l0_1.length c0_1) l0_1 from Kd.V_mono hs0_1 (fun k_ hk => .inl hk))
  have HR0_2 := Aside0.mk hr0_2
  have HC0_2 := Aside0.mk hc0_2
  clear hr0_2 hc0_2
  have HB := Aside0.mk (Below.refl w.heap.size w)
  have H : (kilnref3_lasts.l0 k a1 (wrap64 ((l0_1.length : Int) - 1)) a0_0 l0_1 l0_2 a0_3 a0_4 a0_5) = some r := h
  clear h
  have H' := Aside0.mk H
  clear H
  go_enter Try.func63, Try.ntmps63
  go_wp2_with (first | ((with_reducible refine gate_dst (N := 2) rfl ?_); refine box_event ?hg (N := 2) ?hd (cs := #[.int .i64 a0_0, .slice A0_1 l0_1.length c0_1, .slice A0_2 l0_2.length c0_2, .int .i64 a0_3, .int .i64 a0_4, .int .i64 a0_5]) (t := 76) ?hr ?_; (case hd => rfl); (case hg => rfl); (case hr => first | (go_simp; done) | (go_simp; rfl)); intro gb237 hg w3 hbox hb; have n0_ := Aside0.mk (Kd.V_below (Kd.V_elderB (by (with_reducible repeat (first | apply Kd.V_alloc | apply Kd.V_drewN | apply Kd.V_drew)); exact HO0_1.out) gb237 (Nat.le_of_eq hg.symm)) hb); have n1_ := Aside0.mk (below_step (by repeat (first | (with_reducible first | exact HB.out | apply below_alloc | apply pw_below_drewN | apply below_drew1) | exact HB.out)) hb); have n2_ := Aside0.mk (hbox); have n3_ := Aside0.mk ((by rw [hg]; exact (below_size (by repeat (first | (with_reducible first | exact HB.out | apply below_alloc | apply pw_below_drewN | apply below_drew1) | exact HB.out))) : w.heap.size ≤ gb237)); have n4_ := Aside0.mk ((by rw [hg]; exact (below_size (by repeat (first | (with_reducible first | exact HB.out | apply below_alloc | apply pw_below_drewN | apply below_drew1) | exact HB.out))) : w.heap.size ≤ gb237)); clear HO0_1; clear HB; have HO0_1 := n0_; have HB := n1_; have BK237 := n2_; have GW237 := n3_; have GE237 := n4_; clear n0_ n1_ n2_ n3_ n4_; clear hb hbox hg; have hcz4_0 : w3.cell? ⟨gb237, 0, none⟩ = some (.int .i64 a0_0) := (blk_cell BK237.out 0).trans rfl; have hcz4_1 : w3.cell? ⟨gb237, 1, none⟩ = some (.slice A0_1 l0_1.length c0_1) := (blk_cell BK237.out 1).trans rfl; have hcz4_2 : w3.cell? ⟨gb237, 2, none⟩ = some (.slice A0_2 l0_2.length c0_2) := (blk_cell BK237.out 2).trans rfl; have hcz4_3 : w3.cell? ⟨gb237, 3, none⟩ = some (.int .i64 a0_3) := (blk_cell BK237.out 3).trans rfl; have hcz4_4 : w3.cell? ⟨gb237, 4, none⟩ = some (.int .i64 a0_4) := (blk_cell BK237.out 4).trans rfl; have hcz4_5 : w3.cell? ⟨gb237, 5, none⟩ = some (.int .i64 a0_5) := (blk_cell BK237.out 5).trans rfl; have hfz4_0 := blk_frozen BK237.out 0; have hfz4_1 := blk_frozen BK237.out 1; have hfz4_2 := blk_frozen BK237.out 2; have hfz4_3 := blk_frozen BK237.out 3; have hfz4_4 := blk_frozen BK237.out 4; have hfz4_5 := blk_frozen BK237.out 5))
  go_loopg [5] k (fun kq v5 w' => ∃ (x5_1 : Int), v5 = .int .i64 x5_1 ∧ Aside0 (kilnref3_lasts.l0 kq a1 x5_1 a0_0 l0_1 l0_2 a0_3 a0_4 a0_5 = some r) ∧ Aside0 (kq ≤ k) ∧ Aside0 (Kd.V k106 106 w' w.heap.size (fun k_ => (P0_1_ k_ ∨ w.heap.size ≤ k_) ∧ k_ ≠ gb237) (.slice A0_1 l0_1.length c0_1) l0_1) ∧ Aside0 (w'.heap[gb237]? = some (.cells #[.int .i64 a0_0, (.slice A0_1 l0_1.length c0_1), (.slice A0_2 l0_2.length c0_2), .int .i64 a0_3, .int .i64 a0_4, .int .i64 a0_5] 76 (0, 0))) ∧ Aside0 (Below w.heap.size w w'))
  case atStart => exact ⟨(wrap64 ((l0_1.length : Int) - 1)), (by first | rfl | (simp; done) | (simp [*]; done)), H', ⟨Nat.le_refl _⟩, ⟨by (with_reducible repeat (first | apply Kd.V_alloc | apply Kd.V_drewN | apply Kd.V_drew)); exact HO0_1.out⟩, ⟨by (with_reducible repeat (first | refine blk_drewN ?_ _ | refine blk_drew ?_ | refine blk_alloc ?_ _)); exact BK237.out⟩, ⟨by repeat (first | (with_reducible first | exact HB.out | apply below_alloc | apply pw_below_drewN | apply below_drew1 | refine below_set ?_ GE237.out) | exact HB.out)⟩⟩
  case round =>
    clear H'
    try clear p2
    try clear hcz4_0
    try clear hcz4_1
    try clear hcz4_2
    try clear hcz4_3
    try clear hcz4_4
    try clear hcz4_5
    try clear hfz4_0
    try clear hfz4_1
    try clear hfz4_2
    try clear hfz4_3
    try clear hfz4_4
    try clear hfz4_5
    obtain ⟨x5_1, rfl, HA, HK1, HO_238001, BK237, HB⟩ := hrel
    cases gk with
    | zero => exact absurd HA.out (by simp [kilnref3_lasts.l0])
    | succ k1 =>
      have H := HA.out
      clear HA
      simp only [kilnref3_lasts.l0] at H
      by_cases c5 : x5_1 ≥ 0
      · rw [if_pos c5] at H
        have c5b0 : decide (0 ≤ x5_1) = true := decide_eq_true c5
        clear c5
        by_cases c6 : 0 ≤ x5_1
        · rw [if_pos c6] at H
          have c6b0 : decide (0 ≤ x5_1) = true := decide_eq_true c6
          clear c6
          by_cases c7 : x5_1 < (l0_1.length : Int)
          · rw [if_pos c7] at H
            have c7b0 : decide (x5_1 < (l0_1.length : Int)) = true := decide_eq_true c7
            clear c7
            by_cases c8 : ((rd_T106 l0_1 x5_1).f0) = a1
            · rw [if_pos c8] at H
              have c8b0 : (((rd_T106 l0_1 x5_1).f0) == a1) = true := beq_iff_eq.mpr c8
              have c8b1 : (((rd_T106 l0_1 x5_1).f0) != a1) = false := bne_eq_false_iff_eq.mpr c8
              clear c8
              obtain rfl := Option.some.inj H
              have hcz9_0 : wr.cell? ⟨gb237, 0, none⟩ = some (.int .i64 a0_0) := (blk_cell BK237.out 0).trans rfl
              have hcz9_1 : wr.cell? ⟨gb237, 1, none⟩ = some (.slice A0_1 l0_1.length c0_1) := (blk_cell BK237.out 1).trans rfl
              have hcz9_2 : wr.cell? ⟨gb237, 2, none⟩ = some (.slice A0_2 l0_2.length c0_2) := (blk_cell BK237.out 2).trans rfl
              have hcz9_3 : wr.cell? ⟨gb237, 3, none⟩ = some (.int .i64 a0_3) := (blk_cell BK237.out 3).trans rfl
              have hcz9_4 : wr.cell? ⟨gb237, 4, none⟩ = some (.int .i64 a0_4) := (blk_cell BK237.out 4).trans rfl
              have hcz9_5 : wr.cell? ⟨gb237, 5, none⟩ = some (.int .i64 a0_5) := (blk_cell BK237.out 5).trans rfl
              have hfz9_0 := blk_frozen BK237.out 0
              have hfz9_1 := blk_frozen BK237.out 1
              have hfz9_2 := blk_frozen BK237.out 2
              have hfz9_3 := blk_frozen BK237.out 3
              have hfz9_4 := blk_frozen BK237.out 4
              have hfz9_5 := blk_frozen BK237.out 5
              have p238 : 0 ≤ (x5_1 : Int) := of_decide_eq_true (by first | (with_reducible assumption) | assumption)
              have q238 : x5_1 < (l0_1.length : Int) := of_decide_eq_true (by first | (with_reducible assumption) | assumption)
              obtain ⟨ad238, A238_1, c238_1, e238, hx238_0, hx238_1, hl238_1, hi238_1⟩ := at_T106 (Kd.V_reads' HO_238001.out).2.2 x5_1 p238 q238
              cases e238
              obtain ⟨ce238, hce238, hMe238, hcc238⟩ := Kd.V_get HO_238001.out z106 x5_1 p238 (by first | exact q238 | exact of_decide_eq_true (by first | (with_reducible assumption) | assumption) | (have e_ := (Kd.V_reads' HO_238001.out).1; omega))
              obtain ⟨ua238_1, uc238_1, rfl, ul238_1, ge238_1⟩ := k106_openF hMe238
              have hv238_1 := hcc238 1 _ rfl
              rw [add_field _ _ 1 (by omega)] at hv238_1
              replace hv238_1 := Option.some.inj (hv238_1.symm.trans hx238_1)
              injection hv238_1 with hva_ hvn_ hvc_
              rw [hva_] at ge238_1
              rw [hvc_] at ul238_1
              have HL238_1 := Aside0.mk (show Kd.V (Kd.int .u8) 5 _ w.heap.size _ _ ((rd_T106 l0_1 x5_1).f1) from Kd.V_mk ul238_1 ge238_1)
              clear hva_ hvn_ hvc_ ge238_1 ul238_1
              clear hcc238 hce238
              have HR238_1 := Aside0.mk hi238_1
              have HC238_1 := Aside0.mk hl238_1
              clear hi238_1 hl238_1
              replace p238 := eq_true p238
              replace q238 := eq_true q238
              have p239 : 0 ≤ (x5_1 : Int) := of_decide_eq_true (by first | (with_reducible assumption) | assumption)
              have q239 : x5_1 < (l0_1.length : Int) := of_decide_eq_true (by first | (with_reducible assumption) | assumption)
              obtain ⟨ad239, A239_1, c239_1, e239, hx239_0, hx239_1, hl239_1, hi239_1⟩ := at_T106 (Kd.V_reads' HO_238001.out).2.2 x5_1 p239 q239
              obtain rfl : ad238 = ad239 := (by injection e239)
              obtain ⟨ce239, hce239, hMe239, hcc239⟩ := Kd.V_get HO_238001.out z106 x5_1 p239 (by first | exact q239 | exact of_decide_eq_true (by first | (with_reducible assumption) | assumption) | (have e_ := (Kd.V_reads' HO_238001.out).1; omega))
              obtain ⟨ua239_1, uc239_1, rfl, ul239_1, ge239_1⟩ := k106_openF hMe239
              have hv239_1 := hcc239 1 _ rfl
              rw [add_field _ _ 1 (by omega)] at hv239_1
              replace hv239_1 := Option.some.inj (hv239_1.symm.trans hx239_1)
              injection hv239_1 with hva_ hvn_ hvc_
              rw [hva_] at ge239_1
              rw [hvc_] at ul239_1
              have HL239_1 := Aside0.mk (show Kd.V (Kd.int .u8) 5 _ w.heap.size _ _ ((rd_T106 l0_1 x5_1).f1) from Kd.V_mk ul239_1 ge239_1)
              clear hva_ hvn_ hvc_ ge239_1 ul239_1
              clear hcc239 hce239
              have HR239_1 := Aside0.mk hi239_1
              have HC239_1 := Aside0.mk hl239_1
              clear hi239_1 hl239_1
              replace p239 := eq_true p239
              replace q239 := eq_true q239
              have ea_ := Option.some.inj (hx238_1.symm.trans hx239_1)
              injection ea_ with ea_ en_ ec_
              subst ea_
              subst ec_
              clear en_
              go_wp2
              go_ret
              exact ⟨_, by first | rfl | (simp [errW_none, errW_some] <;> rfl) | (simp [*, errW_none, errW_some] <;> rfl), by (with_reducible repeat (first | apply Kd.V_alloc | apply Kd.V_drewN | apply Kd.V_drew)); exact Kd.V_mono HL239_1.out (fun _ hk => hk.1), by repeat (first | (with_reducible first | exact HB.out | apply below_alloc | apply pw_below_drewN | apply below_drew1 | refine below_set ?_ GE237.out) | exact HB.out)⟩
            · rw [if_neg c8] at H
              have c8b0 : (((rd_T106 l0_1 x5_1).f0) == a1) = false := beq_eq_false_iff_ne.mpr c8
              have c8b1 : (((rd_T106 l0_1 x5_1).f0) != a1) = true := bne_iff_ne.mpr c8
              have H' := Aside0.mk H
              clear H
              have hcz10_0 : wr.cell? ⟨gb237, 0, none⟩ = some (.int .i64 a0_0) := (blk_cell BK237.out 0).trans rfl
              have hcz10_1 : wr.cell? ⟨gb237, 1, none⟩ = some (.slice A0_1 l0_1.length c0_1) := (blk_cell BK237.out 1).trans rfl
              have hcz10_2 : wr.cell? ⟨gb237, 2, none⟩ = some (.slice A0_2 l0_2.length c0_2) := (blk_cell BK237.out 2).trans rfl
              have hcz10_3 : wr.cell? ⟨gb237, 3, none⟩ = some (.int .i64 a0_3) := (blk_cell BK237.out 3).trans rfl
              have hcz10_4 : wr.cell? ⟨gb237, 4, none⟩ = some (.int .i64 a0_4) := (blk_cell BK237.out 4).trans rfl
              have hcz10_5 : wr.cell? ⟨gb237, 5, none⟩ = some (.int .i64 a0_5) := (blk_cell BK237.out 5).trans rfl
              have hfz10_0 := blk_frozen BK237.out 0
              have hfz10_1 := blk_frozen BK237.out 1
              have hfz10_2 := blk_frozen BK237.out 2
              have hfz10_3 := blk_frozen BK237.out 3
              have hfz10_4 := blk_frozen BK237.out 4
              have hfz10_5 := blk_frozen BK237.out 5
              have p238 : 0 ≤ (x5_1 : Int) := of_decide_eq_true (by first | (with_reducible assumption) | assumption)
              have q238 : x5_1 < (l0_1.length : Int) := of_decide_eq_true (by first | (with_reducible assumption) | assumption)
              obtain ⟨ad238, A238_1, c238_1, e238, hx238_0, hx238_1, hl238_1, hi238_1⟩ := at_T106 (Kd.V_reads' HO_238001.out).2.2 x5_1 p238 q238
              cases e238
              obtain ⟨ce238, hce238, hMe238, hcc238⟩ := Kd.V_get HO_238001.out z106 x5_1 p238 (by first | exact q238 | exact of_decide_eq_true (by first | (with_reducible assumption) | assumption) | (have e_ := (Kd.V_reads' HO_238001.out).1; omega))
              obtain ⟨ua238_1, uc238_1, rfl, ul238_1, ge238_1⟩ := k106_openF hMe238
              have hv238_1 := hcc238 1 _ rfl
              rw [add_field _ _ 1 (by omega)] at hv238_1
              replace hv238_1 := Option.some.inj (hv238_1.symm.trans hx238_1)
              injection hv238_1 with hva_ hvn_ hvc_
              rw [hva_] at ge238_1
              rw [hvc_] at ul238_1
              have HL238_1 := Aside0.mk (show Kd.V (Kd.int .u8) 5 _ w.heap.size _ _ ((rd_T106 l0_1 x5_1).f1) from Kd.V_mk ul238_1 ge238_1)
              clear hva_ hvn_ hvc_ ge238_1 ul238_1
              clear hcc238 hce238
              have HR238_1 := Aside0.mk hi238_1
              have HC238_1 := Aside0.mk hl238_1
              clear hi238_1 hl238_1
              replace p238 := eq_true p238
              replace q238 := eq_true q238
              go_wp2
              go_roundg k1
              case measure => have := HK1.out; omega
              case rel => exact ⟨(wrap64 (x5_1 - 1)), (by first | rfl | (simp; done) | (simp [*]; done)), H', ⟨by have := HK1.out; omega⟩, ⟨by (with_reducible repeat (first | apply Kd.V_alloc | apply Kd.V_drewN | apply Kd.V_drew)); exact HO_238001.out⟩, ⟨by (with_reducible repeat (first | refine blk_drewN ?_ _ | refine blk_drew ?_ | refine blk_alloc ?_ _)); exact BK237.out⟩, ⟨by repeat (first | (with_reducible first | exact HB.out | apply below_alloc | apply pw_below_drewN | apply below_drew1 | refine below_set ?_ GE237.out) | exact HB.out)⟩⟩
          · rw [if_neg c7] at H
            exact absurd H (by simp)
        · rw [if_neg c6] at H
          exact absurd H (by simp)
      · rw [if_neg c5] at H
        have c5b0 : decide (0 ≤ x5_1) = false := decide_eq_false c5
        clear c5
        replace H := Option.bind_eq_some_iff.mp H
        obtain ⟨t240, A110, H⟩ := H
        replace H : (some t240) = some r := H
        have A11 := Aside0.mk A110
        clear A110
        obtain rfl := Option.some.inj H
        go_wp2_with (first | ((with_reducible refine gate_callee (f := 64) rfl ?_); refine goesL_ (some 28) rfl rfl Try.func64 (by kernel_rfl) rfl #[] rfl (by (try simp only [List.map_toArray, List.map_cons, List.map_nil]); first | done | rfl | (simp only [List.length_drop, List.length_take]; rfl)) ?_; (with_reducible refine (kilnref3_Zeros.calls  t240 _ A11.out).mono ?_); rintro e w12 ⟨v241, rfl, ho0, hb⟩; refine ⟨_, rfl, ?_⟩; have n0_ := Aside0.mk (Kd.V_elder' (by (with_reducible repeat (first | apply Kd.V_alloc | apply Kd.V_drewN | apply Kd.V_drew)); exact HO_238001.out) (Kd.R_base ho0) hb); have n1_ := Aside0.mk (Kd.R_lower (Kd.R_newM (M := fun k_ => (w.heap.size ≤ k_)) ho0 (below_size (by repeat (first | (with_reducible first | exact HB.out | apply below_alloc | apply pw_below_drewN | apply below_drew1 | refine below_set ?_ GE237.out) | exact HB.out))) (fun k_ h_ => h_)) (below_size (by repeat (first | (with_reducible first | exact HB.out | apply below_alloc | apply pw_below_drewN | apply below_drew1 | refine below_set ?_ GE237.out) | exact HB.out)))); have n2_ := Aside0.mk (blk_below (g := gb237) (o := .cells #[.int .i64 a0_0, .slice A0_1 l0_1.length c0_1, .slice A0_2 l0_2.length c0_2, .int .i64 a0_3, .int .i64 a0_4, .int .i64 a0_5] 76 (0, 0)) (by (with_reducible repeat (first | refine blk_drewN ?_ _ | refine blk_drew ?_ | refine blk_alloc ?_ _)); exact BK237.out) hb); have n3_ := Aside0.mk (below_step (by repeat (first | (with_reducible first | exact HB.out | apply below_alloc | apply pw_below_drewN | apply below_drew1 | refine below_set ?_ GE237.out) | exact HB.out)) hb); clear HO_238001; clear BK237; clear HB; have HO_238001 := n0_; have HO242 := n1_; have BK237 := n2_; have HB := n3_; clear n0_ n1_ n2_ n3_; (try clear hb); (try clear hb2); (try clear hk); (try clear hi); (try clear ho0)))
        go_ret
        exact ⟨_, by first | rfl | (simp [errW_none, errW_some] <;> rfl) | (simp [*, errW_none, errW_some] <;> rfl), Kd.V_mono (Kd.R_V (by (with_reducible repeat (first | apply Kd.R_alloc | apply Kd.R_drewN | apply Kd.R_drew)); exact Kd.R_mono HO242.out (fun _ hk => hk.1))) (fun k_ hk => by first | exact ⟨(.inr (hk.1)), hk.2⟩ | exact (.inr (hk))), by repeat (first | (with_reducible first | exact HB.out | apply below_alloc | apply pw_below_drewN | apply below_drew1 | refine below_set ?_ GE237.out) | exact HB.out)⟩
def kilnref3_Now.l0 : Nat → Int → Int → Int → List (S106) → List (S106) → Int → Int → Int → Option (List Int)
  | 0, _, _, _, _, _, _, _, _ => none
  | k + 1, x1, x5, x244000, x244001, x244002, x244003, x244004, x244005 => if x5 ≥ 0 then (if 0 ≤ x5 then (if x5 < (x244002.length : Int) then (if ((rd_T106 x244002 x5).f0) = x1 then ((kilnref3_Copy.f ((rd_T106 x244002 x5).f1)).bind fun t246 => (some t246)) else (kilnref3_Now.l0 k x1 (wrap64 (x5 - 1)) x244000 x244001 x244002 x244003 x244004 x244005)) else (none)) else (none)) else ((kilnref3_lasts.f k x244000 x244001 x244002 x244003 x244004 x244005 x1).bind fun t249 => ((kilnref3_Copy.f t249).bind fun t252 => (some t252)))
def kilnref3_Now.f (k : Nat) (a0_0 : Int) (l0_1 : List (S106)) (l0_2 : List (S106)) (a0_3 : Int) (a0_4 : Int) (a0_5 : Int) (a1 : Int) : Option (List Int) := kilnref3_Now.l0 k a1 (wrap64 ((l0_2.length : Int) - 1)) a0_0 l0_1 l0_2 a0_3 a0_4 a0_5
theorem kilnref3_Now.mono_l : ∀ k, (∀ y0 y1 y2 y3 y4 y5 y6 y7, LeO (kilnref3_Now.l0 k y0 y1 y2 y3 y4 y5 y6 y7) (kilnref3_Now.l0 (k + 1) y0 y1 y2 y3 y4 y5 y6 y7))
  | 0 => fun _ _ _ _ _ _ _ _ r h => by simp [kilnref3_Now.l0] at h
  | k + 1 => by
    have ih0 := kilnref3_Now.mono_l k
    · intro y0 y1 y2 y3 y4 y5 y6 y7
      unfold kilnref3_Now.l0
      repeat' first
      | (with_reducible exact ih0 _ _ _ _ _ _ _ _)
      | (with_reducible exact kilnref3_lasts.mono _ _ _ _ _ _ _ _)
      | (with_reducible exact LeO.refl _)
      | (with_reducible exact LeO.none _)
      | (with_reducible refine LeO.ite ?_ ?_)
      | (with_reducible refine LeO.bind ?_ (fun _ => ?_))
      | exact ih0 _ _ _ _ _ _ _ _
      | exact kilnref3_lasts.mono _ _ _ _ _ _ _ _
      | exact LeO.none _
      | refine LeO.ite ?_ ?_
      | refine LeO.bind ?_ (fun _ => ?_)
theorem kilnref3_Now.mono : ∀ a0 a1 a2 a3 a4 a5 a6 k, LeO (kilnref3_Now.f k a0 a1 a2 a3 a4 a5 a6) (kilnref3_Now.f (k + 1) a0 a1 a2 a3 a4 a5 a6) := by
  intro a0 a1 a2 a3 a4 a5 a6 k
  have ih0 := kilnref3_Now.mono_l k
  unfold kilnref3_Now.f
  repeat' first
      | (with_reducible exact ih0 _ _ _ _ _ _ _ _)
      | (with_reducible exact kilnref3_lasts.mono _ _ _ _ _ _ _ _)
      | (with_reducible exact LeO.refl _)
      | (with_reducible exact LeO.none _)
      | (with_reducible refine LeO.ite ?_ ?_)
      | (with_reducible refine LeO.bind ?_ (fun _ => ?_))
      | exact ih0 _ _ _ _ _ _ _ _
      | exact kilnref3_lasts.mono _ _ _ _ _ _ _ _
      | exact LeO.none _
      | refine LeO.ite ?_ ?_
      | refine LeO.bind ?_ (fun _ => ?_)
set_option maxHeartbeats 8000000 in
set_option maxRecDepth 100000 in
theorem kilnref3_Now.calls (k : Nat) (a0_0 : Int) (A0_1 : Option Addr) (c0_1 : Nat) (l0_1 : List (S106)) (A0_2 : Option Addr) (c0_2 : Nat) (l0_2 : List (S106)) (a0_3 : Int) (a0_4 : Int) (a0_5 : Int) (a1 : Int) (r : List Int) (w : World) (hr0_1 : Kd.C k106 w A0_1 l0_1.length l0_1) (hc0_1 : l0_1.length ≤ c0_1) (hr0_2 : Kd.C k106 w A0_2 l0_2.length l0_2) (hc0_2 : l0_2.length ≤ c0_2) (h : kilnref3_Now.f k a0_0 l0_1 l0_2 a0_3 a0_4 a0_5 a1 = some r) :
    Calls Try.prog 59 #[.agg #[.int .i64 a0_0, .slice A0_1 l0_1.length c0_1, .slice A0_2 l0_2.length c0_2, .int .i64 a0_3, .int .i64 a0_4, .int .i64 a0_5], .int .i64 a1] w fun e w' => ∃ v0_ : Value, e = .returned (v0_) ∧ Kd.R (Kd.int .u8) 5 w' w.heap.size (fun _ => True) v0_ r ∧ Below w.heap.size w w' := by
  have hu76 := Try.underlying76
  have HR0_1 := Aside0.mk hr0_1
  have HC0_1 := Aside0.mk hc0_1
  clear hr0_1 hc0_1
  have HR0_2 := Aside0.mk hr0_2
  have HC0_2 := Aside0.mk hc0_2
  clear hr0_2 hc0_2
  have HB := Aside0.mk (Below.refl w.heap.size w)
  have H : (kilnref3_Now.l0 k a1 (wrap64 ((l0_2.length : Int) - 1)) a0_0 l0_1 l0_2 a0_3 a0_4 a0_5) = some r := h
  clear h
  have H' := Aside0.mk H
  clear H
  go_enter Try.func59, Try.ntmps59
  go_wp2_with (first | ((with_reducible refine gate_dst (N := 2) rfl ?_); refine box_event ?hg (N := 2) ?hd (cs := #[.int .i64 a0_0, .slice A0_1 l0_1.length c0_1, .slice A0_2 l0_2.length c0_2, .int .i64 a0_3, .int .i64 a0_4, .int .i64 a0_5]) (t := 76) ?hr ?_; (case hd => rfl); (case hg => rfl); (case hr => first | (go_simp; done) | (go_simp; rfl)); intro gb243 hg w3 hbox hb; have n0_ := Aside0.mk (below_step (by repeat (first | (with_reducible first | exact HB.out | apply below_alloc | apply pw_below_drewN | apply below_drew1) | exact HB.out)) hb); have n1_ := Aside0.mk (hbox); have n2_ := Aside0.mk ((by rw [hg]; exact (below_size (by repeat (first | (with_reducible first | exact HB.out | apply below_alloc | apply pw_below_drewN | apply below_drew1) | exact HB.out))) : w.heap.size ≤ gb243)); have n3_ := Aside0.mk ((by rw [hg]; exact (below_size (by repeat (first | (with_reducible first | exact HB.out | apply below_alloc | apply pw_below_drewN | apply below_drew1) | exact HB.out))) : w.heap.size ≤ gb243)); clear HB; have HB := n0_; have BK243 := n1_; have GW243 := n2_; have GE243 := n3_; clear n0_ n1_ n2_ n3_; clear hb hbox hg; have hcz4_0 : w3.cell? ⟨gb243, 0, none⟩ = some (.int .i64 a0_0) := (blk_cell BK243.out 0).trans rfl; have hcz4_1 : w3.cell? ⟨gb243, 1, none⟩ = some (.slice A0_1 l0_1.length c0_1) := (blk_cell BK243.out 1).trans rfl; have hcz4_2 : w3.cell? ⟨gb243, 2, none⟩ = some (.slice A0_2 l0_2.length c0_2) := (blk_cell BK243.out 2).trans rfl; have hcz4_3 : w3.cell? ⟨gb243, 3, none⟩ = some (.int .i64 a0_3) := (blk_cell BK243.out 3).trans rfl; have hcz4_4 : w3.cell? ⟨gb243, 4, none⟩ = some (.int .i64 a0_4) := (blk_cell BK243.out 4).trans rfl; have hcz4_5 : w3.cell? ⟨gb243, 5, none⟩ = some (.int .i64 a0_5) := (blk_cell BK243.out 5).trans rfl; have hfz4_0 := blk_frozen BK243.out 0; have hfz4_1 := blk_frozen BK243.out 1; have hfz4_2 := blk_frozen BK243.out 2; have hfz4_3 := blk_frozen BK243.out 3; have hfz4_4 := blk_frozen BK243.out 4; have hfz4_5 := blk_frozen BK243.out 5))
  go_loopg [5] k (fun kq v5 w' => ∃ (x5_1 : Int), v5 = .int .i64 x5_1 ∧ Aside0 (kilnref3_Now.l0 kq a1 x5_1 a0_0 l0_1 l0_2 a0_3 a0_4 a0_5 = some r) ∧ Aside0 (kq ≤ k) ∧ Aside0 (w'.heap[gb243]? = some (.cells #[.int .i64 a0_0, (.slice A0_1 l0_1.length c0_1), (.slice A0_2 l0_2.length c0_2), .int .i64 a0_3, .int .i64 a0_4, .int .i64 a0_5] 76 (0, 0))) ∧ Aside0 (Below w.heap.size w w'))
  case atStart => exact ⟨(wrap64 ((l0_2.length : Int) - 1)), (by first | rfl | (simp; done) | (simp [*]; done)), H', ⟨Nat.le_refl _⟩, ⟨by (with_reducible repeat (first | refine blk_drewN ?_ _ | refine blk_drew ?_ | refine blk_alloc ?_ _)); exact BK243.out⟩, ⟨by repeat (first | (with_reducible first | exact HB.out | apply below_alloc | apply pw_below_drewN | apply below_drew1 | refine below_set ?_ GE243.out) | exact HB.out)⟩⟩
  case round =>
    clear H'
    try clear p2
    try clear hcz4_0
    try clear hcz4_1
    try clear hcz4_2
    try clear hcz4_3
    try clear hcz4_4
    try clear hcz4_5
    try clear hfz4_0
    try clear hfz4_1
    try clear hfz4_2
    try clear hfz4_3
    try clear hfz4_4
    try clear hfz4_5
    obtain ⟨x5_1, rfl, HA, HK1, BK243, HB⟩ := hrel
    cases gk with
    | zero => exact absurd HA.out (by simp [kilnref3_Now.l0])
    | succ k1 =>
      have H := HA.out
      clear HA
      simp only [kilnref3_Now.l0] at H
      by_cases c5 : x5_1 ≥ 0
      · rw [if_pos c5] at H
        have c5b0 : decide (0 ≤ x5_1) = true := decide_eq_true c5
        clear c5
        by_cases c6 : 0 ≤ x5_1
        · rw [if_pos c6] at H
          have c6b0 : decide (0 ≤ x5_1) = true := decide_eq_true c6
          clear c6
          by_cases c7 : x5_1 < (l0_2.length : Int)
          · rw [if_pos c7] at H
            have c7b0 : decide (x5_1 < (l0_2.length : Int)) = true := decide_eq_true c7
            clear c7
            by_cases c8 : ((rd_T106 l0_2 x5_1).f0) = a1
            · rw [if_pos c8] at H
              have c8b0 : (((rd_T106 l0_2 x5_1).f0) == a1) = true := beq_iff_eq.mpr c8
              have c8b1 : (((rd_T106 l0_2 x5_1).f0) != a1) = false := bne_eq_false_iff_eq.mpr c8
              clear c8
              replace H := Option.bind_eq_some_iff.mp H
              obtain ⟨t246, A90, H⟩ := H
              replace H : (some t246) = some r := H
              have A9 := Aside0.mk A90
              clear A90
              obtain rfl := Option.some.inj H
              have hcz10_0 : wr.cell? ⟨gb243, 0, none⟩ = some (.int .i64 a0_0) := (blk_cell BK243.out 0).trans rfl
              have hcz10_1 : wr.cell? ⟨gb243, 1, none⟩ = some (.slice A0_1 l0_1.length c0_1) := (blk_cell BK243.out 1).trans rfl
              have hcz10_2 : wr.cell? ⟨gb243, 2, none⟩ = some (.slice A0_2 l0_2.length c0_2) := (blk_cell BK243.out 2).trans rfl
              have hcz10_3 : wr.cell? ⟨gb243, 3, none⟩ = some (.int .i64 a0_3) := (blk_cell BK243.out 3).trans rfl
              have hcz10_4 : wr.cell? ⟨gb243, 4, none⟩ = some (.int .i64 a0_4) := (blk_cell BK243.out 4).trans rfl
              have hcz10_5 : wr.cell? ⟨gb243, 5, none⟩ = some (.int .i64 a0_5) := (blk_cell BK243.out 5).trans rfl
              have hfz10_0 := blk_frozen BK243.out 0
              have hfz10_1 := blk_frozen BK243.out 1
              have hfz10_2 := blk_frozen BK243.out 2
              have hfz10_3 := blk_frozen BK243.out 3
              have hfz10_4 := blk_frozen BK243.out 4
              have hfz10_5 := blk_frozen BK243.out 5
              have p244 : 0 ≤ (x5_1 : Int) := of_decide_eq_true (by first | (with_reducible assumption) | assumption)
              have q244 : x5_1 < (l0_2.length : Int) := of_decide_eq_true (by first | (with_reducible assumption) | assumption)
              obtain ⟨ad244, A244_1, c244_1, e244, hx244_0, hx244_1, hl244_1, hi244_1⟩ := at_T106 HR0_2.out x5_1 p244 q244
              cases e244
              replace hx244_0 := (HB.out.cell (World.block_lt_of_cell? w _ hx244_0)).trans hx244_0
              replace hx244_1 := (HB.out.cell (World.block_lt_of_cell? w _ hx244_1)).trans hx244_1
              have HR244_1 := Aside0.mk hi244_1
              have HC244_1 := Aside0.mk hl244_1
              clear hi244_1 hl244_1
              replace p244 := eq_true p244
              replace q244 := eq_true q244
              have p245 : 0 ≤ (x5_1 : Int) := of_decide_eq_true (by first | (with_reducible assumption) | assumption)
              have q245 : x5_1 < (l0_2.length : Int) := of_decide_eq_true (by first | (with_reducible assumption) | assumption)
              obtain ⟨ad245, A245_1, c245_1, e245, hx245_0, hx245_1, hl245_1, hi245_1⟩ := at_T106 HR0_2.out x5_1 p245 q245
              obtain rfl : ad244 = ad245 := (by injection e245)
              replace hx245_0 := (HB.out.cell (World.block_lt_of_cell? w _ hx245_0)).trans hx245_0
              replace hx245_1 := (HB.out.cell (World.block_lt_of_cell? w _ hx245_1)).trans hx245_1
              have HR245_1 := Aside0.mk hi245_1
              have HC245_1 := Aside0.mk hl245_1
              clear hi245_1 hl245_1
              replace p245 := eq_true p245
              replace q245 := eq_true q245
              have ea_ := Option.some.inj (hx244_1.symm.trans hx245_1)
              injection ea_ with ea_ en_ ec_
              subst ea_
              subst ec_
              clear en_
              go_wp2_with (first | ((with_reducible refine gate_callee (f := 55) rfl ?_); refine goesL_ (some 28) rfl rfl Try.func55 (by kernel_rfl) rfl #[.slice A244_1 ((rd_T106 l0_2 x5_1).f1).length c244_1] rfl (by (try simp only [List.map_toArray, List.map_cons, List.map_nil]); first | done | rfl | (simp only [List.length_drop, List.length_take]; rfl)) ?_; (with_reducible refine (kilnref3_Copy.calls _ _ ((rd_T106 l0_2 x5_1).f1) t246 _ ?side1 ?side2 A9.out).mono ?_); (case side1 => repeat (first | exact (Kd.C_below HR245_1.out HB.out) | (with_reducible refine Kd.C_alloc ?_ _) | (with_reducible refine Kd.C_drewN ?_ _) | (with_reducible refine Kd.C_drew ?_))); (case side2 => exact HC245_1.out); rintro e w11 ⟨v247, rfl, ho0, hb⟩; refine ⟨_, rfl, ?_⟩; have n0_ := Aside0.mk (Kd.R_lower ho0 (below_size (by repeat (first | (with_reducible first | exact HB.out | apply below_alloc | apply pw_below_drewN | apply below_drew1 | refine below_set ?_ GE243.out) | exact HB.out)))); have n1_ := Aside0.mk (blk_below (g := gb243) (o := .cells #[.int .i64 a0_0, .slice A0_1 l0_1.length c0_1, .slice (some ad244) l0_2.length c0_2, .int .i64 a0_3, .int .i64 a0_4, .int .i64 a0_5] 76 (0, 0)) (by (with_reducible repeat (first | refine blk_drewN ?_ _ | refine blk_drew ?_ | refine blk_alloc ?_ _)); exact BK243.out) hb); have n2_ := Aside0.mk (below_step (by repeat (first | (with_reducible first | exact HB.out | apply below_alloc | apply pw_below_drewN | apply below_drew1 | refine below_set ?_ GE243.out) | exact HB.out)) hb); clear BK243; clear HB; have HO248 := n0_; have BK243 := n1_; have HB := n2_; clear n0_ n1_ n2_; (try clear hb); (try clear hb2); (try clear hk); (try clear hi); (try clear ho0)))
              go_ret
              exact ⟨_, by first | rfl | (simp [errW_none, errW_some] <;> rfl) | (simp [*, errW_none, errW_some] <;> rfl), by (with_reducible repeat (first | apply Kd.R_alloc | apply Kd.R_drewN | apply Kd.R_drew)); exact HO248.out, by repeat (first | (with_reducible first | exact HB.out | apply below_alloc | apply pw_below_drewN | apply below_drew1 | refine below_set ?_ GE243.out) | exact HB.out)⟩
            · rw [if_neg c8] at H
              have c8b0 : (((rd_T106 l0_2 x5_1).f0) == a1) = false := beq_eq_false_iff_ne.mpr c8
              have c8b1 : (((rd_T106 l0_2 x5_1).f0) != a1) = true := bne_iff_ne.mpr c8
              have H' := Aside0.mk H
              clear H
              have hcz12_0 : wr.cell? ⟨gb243, 0, none⟩ = some (.int .i64 a0_0) := (blk_cell BK243.out 0).trans rfl
              have hcz12_1 : wr.cell? ⟨gb243, 1, none⟩ = some (.slice A0_1 l0_1.length c0_1) := (blk_cell BK243.out 1).trans rfl
              have hcz12_2 : wr.cell? ⟨gb243, 2, none⟩ = some (.slice A0_2 l0_2.length c0_2) := (blk_cell BK243.out 2).trans rfl
              have hcz12_3 : wr.cell? ⟨gb243, 3, none⟩ = some (.int .i64 a0_3) := (blk_cell BK243.out 3).trans rfl
              have hcz12_4 : wr.cell? ⟨gb243, 4, none⟩ = some (.int .i64 a0_4) := (blk_cell BK243.out 4).trans rfl
              have hcz12_5 : wr.cell? ⟨gb243, 5, none⟩ = some (.int .i64 a0_5) := (blk_cell BK243.out 5).trans rfl
              have hfz12_0 := blk_frozen BK243.out 0
              have hfz12_1 := blk_frozen BK243.out 1
              have hfz12_2 := blk_frozen BK243.out 2
              have hfz12_3 := blk_frozen BK243.out 3
              have hfz12_4 := blk_frozen BK243.out 4
              have hfz12_5 := blk_frozen BK243.out 5
              have p244 : 0 ≤ (x5_1 : Int) := of_decide_eq_true (by first | (with_reducible assumption) | assumption)
              have q244 : x5_1 < (l0_2.length : Int) := of_decide_eq_true (by first | (with_reducible assumption) | assumption)
              obtain ⟨ad244, A244_1, c244_1, e244, hx244_0, hx244_1, hl244_1, hi244_1⟩ := at_T106 HR0_2.out x5_1 p244 q244
              cases e244
              replace hx244_0 := (HB.out.cell (World.block_lt_of_cell? w _ hx244_0)).trans hx244_0
              replace hx244_1 := (HB.out.cell (World.block_lt_of_cell? w _ hx244_1)).trans hx244_1
              have HR244_1 := Aside0.mk hi244_1
              have HC244_1 := Aside0.mk hl244_1
              clear hi244_1 hl244_1
              replace p244 := eq_true p244
              replace q244 := eq_true q244
              go_wp2
              go_roundg k1
              case measure => have := HK1.out; omega
              case rel => exact ⟨(wrap64 (x5_1 - 1)), (by first | rfl | (simp; done) | (simp [*]; done)), H', ⟨by have := HK1.out; omega⟩, ⟨by (with_reducible repeat (first | refine blk_drewN ?_ _ | refine blk_drew ?_ | refine blk_alloc ?_ _)); exact BK243.out⟩, ⟨by repeat (first | (with_reducible first | exact HB.out | apply below_alloc | apply pw_below_drewN | apply below_drew1 | refine below_set ?_ GE243.out) | exact HB.out)⟩⟩
          · rw [if_neg c7] at H
            exact absurd H (by simp)
        · rw [if_neg c6] at H
          exact absurd H (by simp)
      · rw [if_neg c5] at H
        have c5b0 : decide (0 ≤ x5_1) = false := decide_eq_false c5
        clear c5
        replace H := Option.bind_eq_some_iff.mp H
        obtain ⟨t249, A130, H⟩ := H
        replace H : ((kilnref3_Copy.f t249).bind fun t252 => (some t252)) = some r := H
        have A13 := Aside0.mk A130
        clear A130
        replace H := Option.bind_eq_some_iff.mp H
        obtain ⟨t252, A140, H⟩ := H
        replace H : (some t252) = some r := H
        have A14 := Aside0.mk A140
        clear A140
        obtain rfl := Option.some.inj H
        have hcz15_0 : wr.cell? ⟨gb243, 0, none⟩ = some (.int .i64 a0_0) := (blk_cell BK243.out 0).trans rfl
        have hcz15_1 : wr.cell? ⟨gb243, 1, none⟩ = some (.slice A0_1 l0_1.length c0_1) := (blk_cell BK243.out 1).trans rfl
        have hcz15_2 : wr.cell? ⟨gb243, 2, none⟩ = some (.slice A0_2 l0_2.length c0_2) := (blk_cell BK243.out 2).trans rfl
        have hcz15_3 : wr.cell? ⟨gb243, 3, none⟩ = some (.int .i64 a0_3) := (blk_cell BK243.out 3).trans rfl
        have hcz15_4 : wr.cell? ⟨gb243, 4, none⟩ = some (.int .i64 a0_4) := (blk_cell BK243.out 4).trans rfl
        have hcz15_5 : wr.cell? ⟨gb243, 5, none⟩ = some (.int .i64 a0_5) := (blk_cell BK243.out 5).trans rfl
        have hfz15_0 := blk_frozen BK243.out 0
        have hfz15_1 := blk_frozen BK243.out 1
        have hfz15_2 := blk_frozen BK243.out 2
        have hfz15_3 := blk_frozen BK243.out 3
        have hfz15_4 := blk_frozen BK243.out 4
        have hfz15_5 := blk_frozen BK243.out 5
        go_wp2_with (first | ((with_reducible refine gate_callee (f := 63) rfl ?_); refine goesL_ (some 31) rfl rfl Try.func63 (by kernel_rfl) rfl #[.agg #[.int .i64 a0_0, .slice A0_1 l0_1.length c0_1, .slice A0_2 l0_2.length c0_2, .int .i64 a0_3, .int .i64 a0_4, .int .i64 a0_5], .int .i64 a1] rfl (by (try simp only [List.map_toArray, List.map_cons, List.map_nil]); first | done | rfl | (simp only [List.length_drop, List.length_take]; rfl)) ?_; (with_reducible refine (kilnref3_lasts.calls k1 a0_0 (fun k_ => k_ < w.heap.size) _ _ l0_1 _ _ l0_2 a0_3 a0_4 a0_5 a1 t249 _ ?side1 ?side2 ?side3 A13.out).mono ?_); (case side1 => exact Kd.V_mk HC0_1.out (Kd.F_below (Kd.C_F k106_heap HR0_1.out) (by repeat (first | (with_reducible first | exact HB.out | apply below_alloc | apply pw_below_drewN | apply below_drew1 | refine below_set ?_ GE243.out) | exact HB.out)))); (case side2 => repeat (first | exact (Kd.C_below HR0_2.out HB.out) | (with_reducible refine Kd.C_alloc ?_ _) | (with_reducible refine Kd.C_drewN ?_ _) | (with_reducible refine Kd.C_drew ?_))); (case side3 => exact HC0_2.out); rintro e w16 ⟨v250, rfl, ho0, hb⟩; refine ⟨_, rfl, ?_⟩; have n0_ := Aside0.mk (Kd.V_lower (Kd.V_mono (ok' := fun k_ => k_ ≠ gb243) ho0 (fun k_ hk_ => Or.elim hk_ (fun hs_ => fun e_ => Nat.not_le.2 hs_ (by rw [e_]; exact GW243.out)) (fun hn_ => (Kd.freshB (g := gb243) (o := .cells #[.int .i64 a0_0, .slice A0_1 l0_1.length c0_1, .slice A0_2 l0_2.length c0_2, .int .i64 a0_3, .int .i64 a0_4, .int .i64 a0_5] 76 (0, 0)) (by (with_reducible repeat (first | refine blk_drewN ?_ _ | refine blk_drew ?_ | refine blk_alloc ?_ _)); exact BK243.out) k_ hn_)))) (below_size (by repeat (first | (with_reducible first | exact HB.out | apply below_alloc | apply pw_below_drewN | apply below_drew1 | refine below_set ?_ GE243.out) | exact HB.out)))); have n1_ := Aside0.mk (blk_below (g := gb243) (o := .cells #[.int .i64 a0_0, .slice A0_1 l0_1.length c0_1, .slice A0_2 l0_2.length c0_2, .int .i64 a0_3, .int .i64 a0_4, .int .i64 a0_5] 76 (0, 0)) (by (with_reducible repeat (first | refine blk_drewN ?_ _ | refine blk_drew ?_ | refine blk_alloc ?_ _)); exact BK243.out) hb); have n2_ := Aside0.mk (below_step (by repeat (first | (with_reducible first | exact HB.out | apply below_alloc | apply pw_below_drewN | apply below_drew1 | refine below_set ?_ GE243.out) | exact HB.out)) hb); clear BK243; clear HB; have HO251 := n0_; have BK243 := n1_; have HB := n2_; clear n0_ n1_ n2_; (try clear hb); (try clear hb2); (try clear hk); (try clear hi); (try clear ho0); obtain ⟨Ao17, co17, eo17⟩ := Kd.V_slice HO251.out; subst eo17) | ((with_reducible refine gate_callee (f := 55) rfl ?_); refine goesL_ (some 32) rfl rfl Try.func55 (by kernel_rfl) rfl #[.slice Ao17 t249.length co17] rfl (by (try simp only [List.map_toArray, List.map_cons, List.map_nil]); first | done | rfl | (simp only [List.length_drop, List.length_take]; rfl)) ?_; (with_reducible refine (kilnref3_Copy.calls _ _ t249 t252 _ ?side1 ?side2 A14.out).mono ?_); (case side1 => repeat (first | exact (Kd.V_reads' HO251.out).2.2 | (with_reducible refine Kd.C_alloc ?_ _) | (with_reducible refine Kd.C_drewN ?_ _) | (with_reducible refine Kd.C_drew ?_))); (case side2 => exact (Kd.V_reads' HO251.out).2.1); rintro e w18 ⟨v253, rfl, ho0, hb⟩; refine ⟨_, rfl, ?_⟩; have n0_ := Aside0.mk (Kd.V_elder' (by (with_reducible repeat (first | apply Kd.V_alloc | apply Kd.V_drewN | apply Kd.V_drew)); exact HO251.out) (Kd.R_base ho0) hb); have n1_ := Aside0.mk (Kd.R_lower ho0 (below_size (by repeat (first | (with_reducible first | exact HB.out | apply below_alloc | apply pw_below_drewN | apply below_drew1 | refine below_set ?_ GE243.out) | exact HB.out)))); have n2_ := Aside0.mk (blk_below (g := gb243) (o := .cells #[.int .i64 a0_0, .slice A0_1 l0_1.length c0_1, .slice A0_2 l0_2.length c0_2, .int .i64 a0_3, .int .i64 a0_4, .int .i64 a0_5] 76 (0, 0)) (by (with_reducible repeat (first | refine blk_drewN ?_ _ | refine blk_drew ?_ | refine blk_alloc ?_ _)); exact BK243.out) hb); have n3_ := Aside0.mk (below_step (by repeat (first | (with_reducible first | exact HB.out | apply below_alloc | apply pw_below_drewN | apply below_drew1 | refine below_set ?_ GE243.out) | exact HB.out)) hb); clear HO251; clear BK243; clear HB; have HO251 := n0_; have HO254 := n1_; have BK243 := n2_; have HB := n3_; clear n0_ n1_ n2_ n3_; (try clear hb); (try clear hb2); (try clear hk); (try clear hi); (try clear ho0)))
        go_ret
        exact ⟨_, by first | rfl | (simp [errW_none, errW_some] <;> rfl) | (simp [*, errW_none, errW_some] <;> rfl), by (with_reducible repeat (first | apply Kd.R_alloc | apply Kd.R_drewN | apply Kd.R_drew)); exact HO254.out, by repeat (first | (with_reducible first | exact HB.out | apply below_alloc | apply pw_below_drewN | apply below_drew1 | refine below_set ?_ GE243.out) | exact HB.out)⟩
def kilnref3_Read.f (k : Nat) (a0_0 : Int) (l0_1 : List (S106)) (l0_2 : List (S106)) (a0_3 : Int) (a0_4 : Int) (a0_5 : Int) (a1 : Int) : Option (Int × (List (S106)) × (List (S106)) × Int × Int × Int × List Int × Int) := if a1 < 0 then (some (a0_0, l0_1, l0_2, a0_3, a0_4, a0_5, ([] : List Int), 31)) else (if a1 ≥ a0_0 then (some (a0_0, l0_1, l0_2, a0_3, a0_4, a0_5, ([] : List Int), 31)) else ((kilnref3_Now.f k a0_0 l0_1 l0_2 (wrap64 (a0_3 + 1)) a0_4 a0_5 a1).bind fun t257 => (some (a0_0, l0_1, l0_2, wrap64 (a0_3 + 1), a0_4, a0_5, t257, 0))))
theorem kilnref3_Read.mono : ∀ a0 a1 a2 a3 a4 a5 a6 k, LeO (kilnref3_Read.f k a0 a1 a2 a3 a4 a5 a6) (kilnref3_Read.f (k + 1) a0 a1 a2 a3 a4 a5 a6) := by
  intro a0 a1 a2 a3 a4 a5 a6 k
  unfold kilnref3_Read.f
  repeat' first
      | (with_reducible exact kilnref3_Now.mono _ _ _ _ _ _ _ _)
      | (with_reducible exact LeO.refl _)
      | (with_reducible exact LeO.none _)
      | (with_reducible refine LeO.ite ?_ ?_)
      | (with_reducible refine LeO.bind ?_ (fun _ => ?_))
      | exact kilnref3_Now.mono _ _ _ _ _ _ _ _
      | exact LeO.none _
      | refine LeO.ite ?_ ?_
      | refine LeO.bind ?_ (fun _ => ?_)
set_option maxHeartbeats 8000000 in
set_option maxRecDepth 100000 in
theorem kilnref3_Read.calls (k : Nat) (a0_0 : Int) (P0_1_ : Nat → Prop) (A0_1 : Option Addr) (c0_1 : Nat) (l0_1 : List (S106)) (P0_2_ : Nat → Prop) (A0_2 : Option Addr) (c0_2 : Nat) (l0_2 : List (S106)) (a0_3 : Int) (a0_4 : Int) (a0_5 : Int) (a1 : Int) (r1 : Int) (r2 : List (S106)) (r3 : List (S106)) (r4 : Int) (r5 : Int) (r6 : Int) (r7 : List Int) (r8 : Int) (w : World) (hs0_1 : Kd.V k106 106 w w.heap.size (fun k_ => P0_1_ k_) (.slice A0_1 l0_1.length c0_1) l0_1) (hs0_2 : Kd.V k106 106 w w.heap.size (fun k_ => P0_2_ k_) (.slice A0_2 l0_2.length c0_2) l0_2) (h : kilnref3_Read.f k a0_0 l0_1 l0_2 a0_3 a0_4 a0_5 a1 = some (r1, r2, r3, r4, r5, r6, r7, r8)) :
    Calls Try.prog 48 #[.agg #[.int .i64 a0_0, .slice A0_1 l0_1.length c0_1, .slice A0_2 l0_2.length c0_2, .int .i64 a0_3, .int .i64 a0_4, .int .i64 a0_5], .int .i64 a1] w fun e w' => ∃ v1_ v2_ v6_ : Value, e = .returned (.tuple #[.agg #[.int .i64 r1, v1_, v2_, .int .i64 r4, .int .i64 r5, .int .i64 r6], v6_, .int .i64 r8]) ∧ Kd.V k106 106 w' w.heap.size (fun k_ => ((P0_1_ k_ ∨ P0_2_ k_) ∨ w.heap.size ≤ k_) ∧ some k_ ≠ (v6_ : Value).ownBlock) v1_ r2 ∧ Kd.V k106 106 w' w.heap.size (fun k_ => ((P0_1_ k_ ∨ P0_2_ k_) ∨ w.heap.size ≤ k_) ∧ some k_ ≠ (v6_ : Value).ownBlock) v2_ r3 ∧ Kd.R (Kd.int .u8) 5 w' w.heap.size (fun k_ => (w.heap.size ≤ k_)) v6_ r7 ∧ Below w.heap.size w w' := by
  have hu76 := Try.underlying76
  have HO0_1 := Aside0.mk (show Kd.V k106 106 w w.heap.size (fun k_ => ((P0_1_ k_ ∨ P0_2_ k_) ∨ w.heap.size ≤ k_)) (.slice A0_1 l0_1.length c0_1) l0_1 from Kd.V_mono hs0_1 (fun k_ hk => .inl (.inl hk)))
  have HO0_2 := Aside0.mk (show Kd.V k106 106 w w.heap.size (fun k_ => ((P0_1_ k_ ∨ P0_2_ k_) ∨ w.heap.size ≤ k_)) (.slice A0_2 l0_2.length c0_2) l0_2 from Kd.V_mono hs0_2 (fun k_ hk => .inl (.inr hk)))
  have HB := Aside0.mk (Below.refl w.heap.size w)
  have H : (if a1 < 0 then (some (a0_0, l0_1, l0_2, a0_3, a0_4, a0_5, ([] : List Int), 31)) else (if a1 ≥ a0_0 then (some (a0_0, l0_1, l0_2, a0_3, a0_4, a0_5, ([] : List Int), 31)) else ((kilnref3_Now.f k a0_0 l0_1 l0_2 (wrap64 (a0_3 + 1)) a0_4 a0_5 a1).bind fun t257 => (some (a0_0, l0_1, l0_2, wrap64 (a0_3 + 1), a0_4, a0_5, t257, 0))))) = some (r1, r2, r3, r4, r5, r6, r7, r8) := h
  clear h
  by_cases c3 : a1 < 0
  · rw [if_pos c3] at H
    have c3b0 : decide (a1 < 0) = true := decide_eq_true c3
    clear c3
    simp only [Option.some.injEq, Prod.mk.injEq] at H
    obtain ⟨rfl, rfl, rfl, rfl, rfl, rfl, rfl, rfl⟩ := H
    go_enter Try.func48, Try.ntmps48
    go_wp2_with (first | ((with_reducible refine gate_dst (N := 2) rfl ?_); refine box_event ?hg (N := 2) ?hd (cs := #[.int .i64 a0_0, .slice A0_1 l0_1.length c0_1, .slice A0_2 l0_2.length c0_2, .int .i64 a0_3, .int .i64 a0_4, .int .i64 a0_5]) (t := 76) ?hr ?_; (case hd => rfl); (case hg => rfl); (case hr => first | (go_simp; done) | (go_simp; rfl)); intro gb255 hg w4 hbox hb; have n0_ := Aside0.mk (Kd.V_below (Kd.V_elderB (by (with_reducible repeat (first | apply Kd.V_alloc | apply Kd.V_drewN | apply Kd.V_drew)); exact HO0_1.out) gb255 (Nat.le_of_eq hg.symm)) hb); have n1_ := Aside0.mk (Kd.V_below (Kd.V_elderB (by (with_reducible repeat (first | apply Kd.V_alloc | apply Kd.V_drewN | apply Kd.V_drew)); exact HO0_2.out) gb255 (Nat.le_of_eq hg.symm)) hb); have n2_ := Aside0.mk (below_step (by repeat (first | (with_reducible first | exact HB.out | apply below_alloc | apply pw_below_drewN | apply below_drew1) | exact HB.out)) hb); have n3_ := Aside0.mk (hbox); have n4_ := Aside0.mk ((by rw [hg]; exact (below_size (by repeat (first | (with_reducible first | exact HB.out | apply below_alloc | apply pw_below_drewN | apply below_drew1) | exact HB.out))) : w.heap.size ≤ gb255)); have n5_ := Aside0.mk ((by rw [hg]; exact (below_size (by repeat (first | (with_reducible first | exact HB.out | apply below_alloc | apply pw_below_drewN | apply below_drew1) | exact HB.out))) : w.heap.size ≤ gb255)); clear HO0_1; clear HO0_2; clear HB; have HO0_1 := n0_; have HO0_2 := n1_; have HB := n2_; have BK255 := n3_; have GW255 := n4_; have GE255 := n5_; clear n0_ n1_ n2_ n3_ n4_ n5_; clear hb hbox hg) | ((with_reducible refine gate_dst (N := 4) rfl ?_); refine box_event ?hg (N := 4) ?hd (cs := #[.int .i64 0, .slice none 0 0, .slice none 0 0, .int .i64 0, .int .i64 0, .int .i64 0]) (t := 76) ?hr ?_; (case hd => rfl); (case hg => rfl); (case hr => first | (go_simp; done) | (go_simp; rfl)); intro gb256 hg w5 hbox hb; have n0_ := Aside0.mk (Kd.V_below (Kd.V_elderB (by (with_reducible repeat (first | apply Kd.V_alloc | apply Kd.V_drewN | apply Kd.V_drew)); exact HO0_1.out) gb256 (Nat.le_of_eq hg.symm)) hb); have n1_ := Aside0.mk (Kd.V_below (Kd.V_elderB (by (with_reducible repeat (first | apply Kd.V_alloc | apply Kd.V_drewN | apply Kd.V_drew)); exact HO0_2.out) gb256 (Nat.le_of_eq hg.symm)) hb); have n2_ := Aside0.mk (blk_below (g := gb255) (o := .cells #[.int .i64 a0_0, .slice A0_1 l0_1.length c0_1, .slice A0_2 l0_2.length c0_2, .int .i64 a0_3, .int .i64 a0_4, .int .i64 a0_5] 76 (0, 0)) (by (with_reducible repeat (first | refine blk_drewN ?_ _ | refine blk_drew ?_ | refine blk_alloc ?_ _)); exact BK255.out) hb); have n3_ := Aside0.mk (below_step (by repeat (first | (with_reducible first | exact HB.out | apply below_alloc | apply pw_below_drewN | apply below_drew1 | refine below_set ?_ GE255.out) | exact HB.out)) hb); have n4_ := Aside0.mk (hbox); have n5_ := Aside0.mk ((by rw [hg]; exact (below_size (by repeat (first | (with_reducible first | exact HB.out | apply below_alloc | apply pw_below_drewN | apply below_drew1 | refine below_set ?_ GE255.out) | exact HB.out))) : w.heap.size ≤ gb256)); have n6_ := Aside0.mk ((by rw [hg]; exact (below_size (by repeat (first | (with_reducible first | exact HB.out | apply below_alloc | apply pw_below_drewN | apply below_drew1 | refine below_set ?_ GE255.out) | exact HB.out))) : w.heap.size ≤ gb256)); have n7_ := Aside0.mk ((by rw [hg]; exact Nat.ne_of_lt (blk_lt (g := gb255) (o := .cells #[.int .i64 a0_0, .slice A0_1 l0_1.length c0_1, .slice A0_2 l0_2.length c0_2, .int .i64 a0_3, .int .i64 a0_4, .int .i64 a0_5] 76 (0, 0)) (by (with_reducible repeat (first | refine blk_drewN ?_ _ | refine blk_drew ?_ | refine blk_alloc ?_ _)); exact BK255.out)) : gb255 ≠ gb256)); have n8_ := Aside0.mk ((by rw [hg]; exact Nat.ne_of_gt (blk_lt (g := gb255) (o := .cells #[.int .i64 a0_0, .slice A0_1 l0_1.length c0_1, .slice A0_2 l0_2.length c0_2, .int .i64 a0_3, .int .i64 a0_4, .int .i64 a0_5] 76 (0, 0)) (by (with_reducible repeat (first | refine blk_drewN ?_ _ | refine blk_drew ?_ | refine blk_alloc ?_ _)); exact BK255.out)) : gb256 ≠ gb255)); clear HO0_1; clear HO0_2; clear BK255; clear HB; have HO0_1 := n0_; have HO0_2 := n1_; have BK255 := n2_; have HB := n3_; have BK256 := n4_; have GW256 := n5_; have GE256 := n6_; have NB255_256 := n7_; have NB256_255 := n8_; clear n0_ n1_ n2_ n3_ n4_ n5_ n6_ n7_ n8_; clear hb hbox hg; have hnb6 := NB255_256.out; have hnc6 := NB256_255.out; have hcz7_0 : w5.cell? ⟨gb255, 0, none⟩ = some (.int .i64 a0_0) := (blk_cell BK255.out 0).trans rfl; have hcz7_1 : w5.cell? ⟨gb255, 1, none⟩ = some (.slice A0_1 l0_1.length c0_1) := (blk_cell BK255.out 1).trans rfl; have hcz7_2 : w5.cell? ⟨gb255, 2, none⟩ = some (.slice A0_2 l0_2.length c0_2) := (blk_cell BK255.out 2).trans rfl; have hcz7_3 : w5.cell? ⟨gb255, 3, none⟩ = some (.int .i64 a0_3) := (blk_cell BK255.out 3).trans rfl; have hcz7_4 : w5.cell? ⟨gb255, 4, none⟩ = some (.int .i64 a0_4) := (blk_cell BK255.out 4).trans rfl; have hcz7_5 : w5.cell? ⟨gb255, 5, none⟩ = some (.int .i64 a0_5) := (blk_cell BK255.out 5).trans rfl; have hfz7_0 := blk_frozen BK255.out 0; have hfz7_1 := blk_frozen BK255.out 1; have hfz7_2 := blk_frozen BK255.out 2; have hfz7_3 := blk_frozen BK255.out 3; have hfz7_4 := blk_frozen BK255.out 4; have hfz7_5 := blk_frozen BK255.out 5; have hcz8_0 : w5.cell? ⟨gb256, 0, none⟩ = some (.int .i64 0) := (blk_cell BK256.out 0).trans rfl; have hcz8_1 : w5.cell? ⟨gb256, 1, none⟩ = some (.slice none 0 0) := (blk_cell BK256.out 1).trans rfl; have hcz8_2 : w5.cell? ⟨gb256, 2, none⟩ = some (.slice none 0 0) := (blk_cell BK256.out 2).trans rfl; have hcz8_3 : w5.cell? ⟨gb256, 3, none⟩ = some (.int .i64 0) := (blk_cell BK256.out 3).trans rfl; have hcz8_4 : w5.cell? ⟨gb256, 4, none⟩ = some (.int .i64 0) := (blk_cell BK256.out 4).trans rfl; have hcz8_5 : w5.cell? ⟨gb256, 5, none⟩ = some (.int .i64 0) := (blk_cell BK256.out 5).trans rfl; have hfz8_0 := blk_frozen BK256.out 0; have hfz8_1 := blk_frozen BK256.out 1; have hfz8_2 := blk_frozen BK256.out 2; have hfz8_3 := blk_frozen BK256.out 3; have hfz8_4 := blk_frozen BK256.out 4; have hfz8_5 := blk_frozen BK256.out 5))
    refine bodyPost_ret (results_ctt rfl _ _ gb256 76 #[.int .i64 a0_0, .slice A0_1 l0_1.length c0_1, .slice A0_2 l0_2.length c0_2, .int .i64 a0_3, .int .i64 a0_4, .int .i64 a0_5] (0, 0) _ rfl (by (with_reducible repeat (first | refine blk_drewN ?_ _ | refine blk_drew ?_ | refine blk_alloc ?_ _)); refine blk_put (cs := #[.int .i64 a0_0, .slice A0_1 l0_1.length c0_1, .slice A0_2 l0_2.length c0_2, .int .i64 a0_3, .int .i64 a0_4, .int .i64 0]) ?_ 5 _ rfl; (with_reducible repeat (first | refine blk_drewN ?_ _ | refine blk_drew ?_ | refine blk_alloc ?_ _)); refine blk_put (cs := #[.int .i64 a0_0, .slice A0_1 l0_1.length c0_1, .slice A0_2 l0_2.length c0_2, .int .i64 a0_3, .int .i64 0, .int .i64 0]) ?_ 4 _ rfl; (with_reducible repeat (first | refine blk_drewN ?_ _ | refine blk_drew ?_ | refine blk_alloc ?_ _)); refine blk_put (cs := #[.int .i64 a0_0, .slice A0_1 l0_1.length c0_1, .slice A0_2 l0_2.length c0_2, .int .i64 0, .int .i64 0, .int .i64 0]) ?_ 3 _ rfl; (with_reducible repeat (first | refine blk_drewN ?_ _ | refine blk_drew ?_ | refine blk_alloc ?_ _)); refine blk_put (cs := #[.int .i64 a0_0, .slice A0_1 l0_1.length c0_1, .slice none 0 0, .int .i64 0, .int .i64 0, .int .i64 0]) ?_ 2 _ rfl; (with_reducible repeat (first | refine blk_drewN ?_ _ | refine blk_drew ?_ | refine blk_alloc ?_ _)); refine blk_put (cs := #[.int .i64 a0_0, .slice none 0 0, .slice none 0 0, .int .i64 0, .int .i64 0, .int .i64 0]) ?_ 1 _ rfl; (with_reducible repeat (first | refine blk_drewN ?_ _ | refine blk_drew ?_ | refine blk_alloc ?_ _)); refine blk_put (cs := #[.int .i64 0, .slice none 0 0, .slice none 0 0, .int .i64 0, .int .i64 0, .int .i64 0]) ?_ 0 _ rfl; (with_reducible repeat (first | refine blk_drewN ?_ _ | refine blk_drew ?_ | refine blk_alloc ?_ _)); exact BK256.out) Try.underlying76 rfl (by kernel_rfl)) rfl ?_
    exact ⟨_, _, _, by first | rfl | (simp [errW_none, errW_some] <;> rfl) | (simp [*, errW_none, errW_some] <;> rfl), by (with_reducible repeat (first | apply Kd.V_alloc | apply Kd.V_drewN | apply Kd.V_drew)); exact Kd.V_mono (Kd.V_far (p := ⟨gb256, 5, none⟩) (Kd.V_far (p := ⟨gb256, 4, none⟩) (Kd.V_far (p := ⟨gb256, 3, none⟩) (Kd.V_far (p := ⟨gb256, 2, none⟩) (Kd.V_far (p := ⟨gb256, 1, none⟩) (Kd.V_far (p := ⟨gb256, 0, none⟩) (Kd.V_mono HO0_1.out (fun k_ hk => (⟨hk, hk.2⟩ : _ ∧ k_ ≠ gb256))) (fun _ hk => hk.2) (.int .i64 a0_0)) (fun _ hk => hk.2) (.slice A0_1 l0_1.length c0_1)) (fun _ hk => hk.2) (.slice A0_2 l0_2.length c0_2)) (fun _ hk => hk.2) (.int .i64 a0_3)) (fun _ hk => hk.2) (.int .i64 a0_4)) (fun _ hk => hk.2) (.int .i64 a0_5)) (fun _ hk => ⟨hk.1.1.1, (by simp [Value.ownBlock])⟩), by (with_reducible repeat (first | apply Kd.V_alloc | apply Kd.V_drewN | apply Kd.V_drew)); exact Kd.V_mono (Kd.V_far (p := ⟨gb256, 5, none⟩) (Kd.V_far (p := ⟨gb256, 4, none⟩) (Kd.V_far (p := ⟨gb256, 3, none⟩) (Kd.V_far (p := ⟨gb256, 2, none⟩) (Kd.V_far (p := ⟨gb256, 1, none⟩) (Kd.V_far (p := ⟨gb256, 0, none⟩) (Kd.V_mono HO0_2.out (fun k_ hk => (⟨hk, hk.2⟩ : _ ∧ k_ ≠ gb256))) (fun _ hk => hk.2) (.int .i64 a0_0)) (fun _ hk => hk.2) (.slice A0_1 l0_1.length c0_1)) (fun _ hk => hk.2) (.slice A0_2 l0_2.length c0_2)) (fun _ hk => hk.2) (.int .i64 a0_3)) (fun _ hk => hk.2) (.int .i64 a0_4)) (fun _ hk => hk.2) (.int .i64 a0_5)) (fun _ hk => ⟨hk.1.1.1, (by simp [Value.ownBlock])⟩), by first | exact Kd.R_nil _ _ _ _ _ | exact Kd.N_nil _ _ _ _ _ | exact Kd.V_nil _ _ _ _ _ | exact Kd.Q_nil _ _ _ _ _ | exact Kd.S_nil _ _ _ _ _, by repeat (first | (with_reducible first | exact HB.out | apply below_alloc | apply pw_below_drewN | apply below_drew1 | refine below_set ?_ GE255.out | refine below_set ?_ GE256.out) | exact HB.out)⟩
  · rw [if_neg c3] at H
    have c3b0 : decide (a1 < 0) = false := decide_eq_false c3
    clear c3
    by_cases c9 : a1 ≥ a0_0
    · rw [if_pos c9] at H
      have c9b0 : decide (a0_0 ≤ a1) = true := decide_eq_true c9
      clear c9
      simp only [Option.some.injEq, Prod.mk.injEq] at H
      obtain ⟨rfl, rfl, rfl, rfl, rfl, rfl, rfl, rfl⟩ := H
      go_enter Try.func48, Try.ntmps48
      go_wp2_with (first | ((with_reducible refine gate_dst (N := 2) rfl ?_); refine box_event ?hg (N := 2) ?hd (cs := #[.int .i64 a0_0, .slice A0_1 l0_1.length c0_1, .slice A0_2 l0_2.length c0_2, .int .i64 a0_3, .int .i64 a0_4, .int .i64 a0_5]) (t := 76) ?hr ?_; (case hd => rfl); (case hg => rfl); (case hr => first | (go_simp; done) | (go_simp; rfl)); intro gb255 hg w10 hbox hb; have n0_ := Aside0.mk (Kd.V_below (Kd.V_elderB (by (with_reducible repeat (first | apply Kd.V_alloc | apply Kd.V_drewN | apply Kd.V_drew)); exact HO0_1.out) gb255 (Nat.le_of_eq hg.symm)) hb); have n1_ := Aside0.mk (Kd.V_below (Kd.V_elderB (by (with_reducible repeat (first | apply Kd.V_alloc | apply Kd.V_drewN | apply Kd.V_drew)); exact HO0_2.out) gb255 (Nat.le_of_eq hg.symm)) hb); have n2_ := Aside0.mk (below_step (by repeat (first | (with_reducible first | exact HB.out | apply below_alloc | apply pw_below_drewN | apply below_drew1) | exact HB.out)) hb); have n3_ := Aside0.mk (hbox); have n4_ := Aside0.mk ((by rw [hg]; exact (below_size (by repeat (first | (with_reducible first | exact HB.out | apply below_alloc | apply pw_below_drewN | apply below_drew1) | exact HB.out))) : w.heap.size ≤ gb255)); have n5_ := Aside0.mk ((by rw [hg]; exact (below_size (by repeat (first | (with_reducible first | exact HB.out | apply below_alloc | apply pw_below_drewN | apply below_drew1) | exact HB.out))) : w.heap.size ≤ gb255)); clear HO0_1; clear HO0_2; clear HB; have HO0_1 := n0_; have HO0_2 := n1_; have HB := n2_; have BK255 := n3_; have GW255 := n4_; have GE255 := n5_; clear n0_ n1_ n2_ n3_ n4_ n5_; clear hb hbox hg) | ((with_reducible refine gate_dst (N := 4) rfl ?_); refine box_event ?hg (N := 4) ?hd (cs := #[.int .i64 0, .slice none 0 0, .slice none 0 0, .int .i64 0, .int .i64 0, .int .i64 0]) (t := 76) ?hr ?_; (case hd => rfl); (case hg => rfl); (case hr => first | (go_simp; done) | (go_simp; rfl)); intro gb256 hg w11 hbox hb; have n0_ := Aside0.mk (Kd.V_below (Kd.V_elderB (by (with_reducible repeat (first | apply Kd.V_alloc | apply Kd.V_drewN | apply Kd.V_drew)); exact HO0_1.out) gb256 (Nat.le_of_eq hg.symm)) hb); have n1_ := Aside0.mk (Kd.V_below (Kd.V_elderB (by (with_reducible repeat (first | apply Kd.V_alloc | apply Kd.V_drewN | apply Kd.V_drew)); exact HO0_2.out) gb256 (Nat.le_of_eq hg.symm)) hb); have n2_ := Aside0.mk (blk_below (g := gb255) (o := .cells #[.int .i64 a0_0, .slice A0_1 l0_1.length c0_1, .slice A0_2 l0_2.length c0_2, .int .i64 a0_3, .int .i64 a0_4, .int .i64 a0_5] 76 (0, 0)) (by (with_reducible repeat (first | refine blk_drewN ?_ _ | refine blk_drew ?_ | refine blk_alloc ?_ _)); exact BK255.out) hb); have n3_ := Aside0.mk (below_step (by repeat (first | (with_reducible first | exact HB.out | apply below_alloc | apply pw_below_drewN | apply below_drew1 | refine below_set ?_ GE255.out) | exact HB.out)) hb); have n4_ := Aside0.mk (hbox); have n5_ := Aside0.mk ((by rw [hg]; exact (below_size (by repeat (first | (with_reducible first | exact HB.out | apply below_alloc | apply pw_below_drewN | apply below_drew1 | refine below_set ?_ GE255.out) | exact HB.out))) : w.heap.size ≤ gb256)); have n6_ := Aside0.mk ((by rw [hg]; exact (below_size (by repeat (first | (with_reducible first | exact HB.out | apply below_alloc | apply pw_below_drewN | apply below_drew1 | refine below_set ?_ GE255.out) | exact HB.out))) : w.heap.size ≤ gb256)); have n7_ := Aside0.mk ((by rw [hg]; exact Nat.ne_of_lt (blk_lt (g := gb255) (o := .cells #[.int .i64 a0_0, .slice A0_1 l0_1.length c0_1, .slice A0_2 l0_2.length c0_2, .int .i64 a0_3, .int .i64 a0_4, .int .i64 a0_5] 76 (0, 0)) (by (with_reducible repeat (first | refine blk_drewN ?_ _ | refine blk_drew ?_ | refine blk_alloc ?_ _)); exact BK255.out)) : gb255 ≠ gb256)); have n8_ := Aside0.mk ((by rw [hg]; exact Nat.ne_of_gt (blk_lt (g := gb255) (o := .cells #[.int .i64 a0_0, .slice A0_1 l0_1.length c0_1, .slice A0_2 l0_2.length c0_2, .int .i64 a0_3, .int .i64 a0_4, .int .i64 a0_5] 76 (0, 0)) (by (with_reducible repeat (first | refine blk_drewN ?_ _ | refine blk_drew ?_ | refine blk_alloc ?_ _)); exact BK255.out)) : gb256 ≠ gb255)); clear HO0_1; clear HO0_2; clear BK255; clear HB; have HO0_1 := n0_; have HO0_2 := n1_; have BK255 := n2_; have HB := n3_; have BK256 := n4_; have GW256 := n5_; have GE256 := n6_; have NB255_256 := n7_; have NB256_255 := n8_; clear n0_ n1_ n2_ n3_ n4_ n5_ n6_ n7_ n8_; clear hb hbox hg; have hnb12 := NB255_256.out; have hnc12 := NB256_255.out; have hcz13_0 : w11.cell? ⟨gb255, 0, none⟩ = some (.int .i64 a0_0) := (blk_cell BK255.out 0).trans rfl; have hcz13_1 : w11.cell? ⟨gb255, 1, none⟩ = some (.slice A0_1 l0_1.length c0_1) := (blk_cell BK255.out 1).trans rfl; have hcz13_2 : w11.cell? ⟨gb255, 2, none⟩ = some (.slice A0_2 l0_2.length c0_2) := (blk_cell BK255.out 2).trans rfl; have hcz13_3 : w11.cell? ⟨gb255, 3, none⟩ = some (.int .i64 a0_3) := (blk_cell BK255.out 3).trans rfl; have hcz13_4 : w11.cell? ⟨gb255, 4, none⟩ = some (.int .i64 a0_4) := (blk_cell BK255.out 4).trans rfl; have hcz13_5 : w11.cell? ⟨gb255, 5, none⟩ = some (.int .i64 a0_5) := (blk_cell BK255.out 5).trans rfl; have hfz13_0 := blk_frozen BK255.out 0; have hfz13_1 := blk_frozen BK255.out 1; have hfz13_2 := blk_frozen BK255.out 2; have hfz13_3 := blk_frozen BK255.out 3; have hfz13_4 := blk_frozen BK255.out 4; have hfz13_5 := blk_frozen BK255.out 5; have hcz14_0 : w11.cell? ⟨gb256, 0, none⟩ = some (.int .i64 0) := (blk_cell BK256.out 0).trans rfl; have hcz14_1 : w11.cell? ⟨gb256, 1, none⟩ = some (.slice none 0 0) := (blk_cell BK256.out 1).trans rfl; have hcz14_2 : w11.cell? ⟨gb256, 2, none⟩ = some (.slice none 0 0) := (blk_cell BK256.out 2).trans rfl; have hcz14_3 : w11.cell? ⟨gb256, 3, none⟩ = some (.int .i64 0) := (blk_cell BK256.out 3).trans rfl; have hcz14_4 : w11.cell? ⟨gb256, 4, none⟩ = some (.int .i64 0) := (blk_cell BK256.out 4).trans rfl; have hcz14_5 : w11.cell? ⟨gb256, 5, none⟩ = some (.int .i64 0) := (blk_cell BK256.out 5).trans rfl; have hfz14_0 := blk_frozen BK256.out 0; have hfz14_1 := blk_frozen BK256.out 1; have hfz14_2 := blk_frozen BK256.out 2; have hfz14_3 := blk_frozen BK256.out 3; have hfz14_4 := blk_frozen BK256.out 4; have hfz14_5 := blk_frozen BK256.out 5))
      refine bodyPost_ret (results_ctt rfl _ _ gb256 76 #[.int .i64 a0_0, .slice A0_1 l0_1.length c0_1, .slice A0_2 l0_2.length c0_2, .int .i64 a0_3, .int .i64 a0_4, .int .i64 a0_5] (0, 0) _ rfl (by (with_reducible repeat (first | refine blk_drewN ?_ _ | refine blk_drew ?_ | refine blk_alloc ?_ _)); refine blk_put (cs := #[.int .i64 a0_0, .slice A0_1 l0_1.length c0_1, .slice A0_2 l0_2.length c0_2, .int .i64 a0_3, .int .i64 a0_4, .int .i64 0]) ?_ 5 _ rfl; (with_reducible repeat (first | refine blk_drewN ?_ _ | refine blk_drew ?_ | refine blk_alloc ?_ _)); refine blk_put (cs := #[.int .i64 a0_0, .slice A0_1 l0_1.length c0_1, .slice A0_2 l0_2.length c0_2, .int .i64 a0_3, .int .i64 0, .int .i64 0]) ?_ 4 _ rfl; (with_reducible repeat (first | refine blk_drewN ?_ _ | refine blk_drew ?_ | refine blk_alloc ?_ _)); refine blk_put (cs := #[.int .i64 a0_0, .slice A0_1 l0_1.length c0_1, .slice A0_2 l0_2.length c0_2, .int .i64 0, .int .i64 0, .int .i64 0]) ?_ 3 _ rfl; (with_reducible repeat (first | refine blk_drewN ?_ _ | refine blk_drew ?_ | refine blk_alloc ?_ _)); refine blk_put (cs := #[.int .i64 a0_0, .slice A0_1 l0_1.length c0_1, .slice none 0 0, .int .i64 0, .int .i64 0, .int .i64 0]) ?_ 2 _ rfl; (with_reducible repeat (first | refine blk_drewN ?_ _ | refine blk_drew ?_ | refine blk_alloc ?_ _)); refine blk_put (cs := #[.int .i64 a0_0, .slice none 0 0, .slice none 0 0, .int .i64 0, .int .i64 0, .int .i64 0]) ?_ 1 _ rfl; (with_reducible repeat (first | refine blk_drewN ?_ _ | refine blk_drew ?_ | refine blk_alloc ?_ _)); refine blk_put (cs := #[.int .i64 0, .slice none 0 0, .slice none 0 0, .int .i64 0, .int .i64 0, .int .i64 0]) ?_ 0 _ rfl; (with_reducible repeat (first | refine blk_drewN ?_ _ | refine blk_drew ?_ | refine blk_alloc ?_ _)); exact BK256.out) Try.underlying76 rfl (by kernel_rfl)) rfl ?_
      exact ⟨_, _, _, by first | rfl | (simp [errW_none, errW_some] <;> rfl) | (simp [*, errW_none, errW_some] <;> rfl), by (with_reducible repeat (first | apply Kd.V_alloc | apply Kd.V_drewN | apply Kd.V_drew)); exact Kd.V_mono (Kd.V_far (p := ⟨gb256, 5, none⟩) (Kd.V_far (p := ⟨gb256, 4, none⟩) (Kd.V_far (p := ⟨gb256, 3, none⟩) (Kd.V_far (p := ⟨gb256, 2, none⟩) (Kd.V_far (p := ⟨gb256, 1, none⟩) (Kd.V_far (p := ⟨gb256, 0, none⟩) (Kd.V_mono HO0_1.out (fun k_ hk => (⟨hk, hk.2⟩ : _ ∧ k_ ≠ gb256))) (fun _ hk => hk.2) (.int .i64 a0_0)) (fun _ hk => hk.2) (.slice A0_1 l0_1.length c0_1)) (fun _ hk => hk.2) (.slice A0_2 l0_2.length c0_2)) (fun _ hk => hk.2) (.int .i64 a0_3)) (fun _ hk => hk.2) (.int .i64 a0_4)) (fun _ hk => hk.2) (.int .i64 a0_5)) (fun _ hk => ⟨hk.1.1.1, (by simp [Value.ownBlock])⟩), by (with_reducible repeat (first | apply Kd.V_alloc | apply Kd.V_drewN | apply Kd.V_drew)); exact Kd.V_mono (Kd.V_far (p := ⟨gb256, 5, none⟩) (Kd.V_far (p := ⟨gb256, 4, none⟩) (Kd.V_far (p := ⟨gb256, 3, none⟩) (Kd.V_far (p := ⟨gb256, 2, none⟩) (Kd.V_far (p := ⟨gb256, 1, none⟩) (Kd.V_far (p := ⟨gb256, 0, none⟩) (Kd.V_mono HO0_2.out (fun k_ hk => (⟨hk, hk.2⟩ : _ ∧ k_ ≠ gb256))) (fun _ hk => hk.2) (.int .i64 a0_0)) (fun _ hk => hk.2) (.slice A0_1 l0_1.length c0_1)) (fun _ hk => hk.2) (.slice A0_2 l0_2.length c0_2)) (fun _ hk => hk.2) (.int .i64 a0_3)) (fun _ hk => hk.2) (.int .i64 a0_4)) (fun _ hk => hk.2) (.int .i64 a0_5)) (fun _ hk => ⟨hk.1.1.1, (by simp [Value.ownBlock])⟩), by first | exact Kd.R_nil _ _ _ _ _ | exact Kd.N_nil _ _ _ _ _ | exact Kd.V_nil _ _ _ _ _ | exact Kd.Q_nil _ _ _ _ _ | exact Kd.S_nil _ _ _ _ _, by repeat (first | (with_reducible first | exact HB.out | apply below_alloc | apply pw_below_drewN | apply below_drew1 | refine below_set ?_ GE255.out | refine below_set ?_ GE256.out) | exact HB.out)⟩
    · rw [if_neg c9] at H
      have c9b0 : decide (a0_0 ≤ a1) = false := decide_eq_false c9
      clear c9
      replace H := Option.bind_eq_some_iff.mp H
      obtain ⟨t257, A150, H⟩ := H
      replace H : (some (a0_0, l0_1, l0_2, wrap64 (a0_3 + 1), a0_4, a0_5, t257, 0)) = some (r1, r2, r3, r4, r5, r6, r7, r8) := H
      have A15 := Aside0.mk A150
      clear A150
      simp only [Option.some.injEq, Prod.mk.injEq] at H
      obtain ⟨rfl, rfl, rfl, rfl, rfl, rfl, rfl, rfl⟩ := H
      go_enter Try.func48, Try.ntmps48
      try go_wp2_with (first | ((with_reducible refine gate_dst (N := 2) rfl ?_); refine box_event ?hg (N := 2) ?hd (cs := #[.int .i64 a0_0, .slice A0_1 l0_1.length c0_1, .slice A0_2 l0_2.length c0_2, .int .i64 a0_3, .int .i64 a0_4, .int .i64 a0_5]) (t := 76) ?hr ?_; (case hd => rfl); (case hg => rfl); (case hr => first | (go_simp; done) | (go_simp; rfl)); intro gb255 hg w16 hbox hb; have n0_ := Aside0.mk (Kd.V_below (Kd.V_elderB (by (with_reducible repeat (first | apply Kd.V_alloc | apply Kd.V_drewN | apply Kd.V_drew)); exact HO0_1.out) gb255 (Nat.le_of_eq hg.symm)) hb); have n1_ := Aside0.mk (Kd.V_below (Kd.V_elderB (by (with_reducible repeat (first | apply Kd.V_alloc | apply Kd.V_drewN | apply Kd.V_drew)); exact HO0_2.out) gb255 (Nat.le_of_eq hg.symm)) hb); have n2_ := Aside0.mk (below_step (by repeat (first | (with_reducible first | exact HB.out | apply below_alloc | apply pw_below_drewN | apply below_drew1) | exact HB.out)) hb); have n3_ := Aside0.mk (hbox); have n4_ := Aside0.mk ((by rw [hg]; exact (below_size (by repeat (first | (with_reducible first | exact HB.out | apply below_alloc | apply pw_below_drewN | apply below_drew1) | exact HB.out))) : w.heap.size ≤ gb255)); have n5_ := Aside0.mk ((by rw [hg]; exact (below_size (by repeat (first | (with_reducible first | exact HB.out | apply below_alloc | apply pw_below_drewN | apply below_drew1) | exact HB.out))) : w.heap.size ≤ gb255)); clear HO0_1; clear HO0_2; clear HB; have HO0_1 := n0_; have HO0_2 := n1_; have HB := n2_; have BK255 := n3_; have GW255 := n4_; have GE255 := n5_; clear n0_ n1_ n2_ n3_ n4_ n5_; clear hb hbox hg) | ((with_reducible refine gate_dst (N := 4) rfl ?_); refine box_event ?hg (N := 4) ?hd (cs := #[.int .i64 0, .slice none 0 0, .slice none 0 0, .int .i64 0, .int .i64 0, .int .i64 0]) (t := 76) ?hr ?_; (case hd => rfl); (case hg => rfl); (case hr => first | (go_simp; done) | (go_simp; rfl)); intro gb256 hg w17 hbox hb; have n0_ := Aside0.mk (Kd.V_below (Kd.V_elderB (by (with_reducible repeat (first | apply Kd.V_alloc | apply Kd.V_drewN | apply Kd.V_drew)); exact HO0_1.out) gb256 (Nat.le_of_eq hg.symm)) hb); have n1_ := Aside0.mk (Kd.V_below (Kd.V_elderB (by (with_reducible repeat (first | apply Kd.V_alloc | apply Kd.V_drewN | apply Kd.V_drew)); exact HO0_2.out) gb256 (Nat.le_of_eq hg.symm)) hb); have n2_ := Aside0.mk (blk_below (g := gb255) (o := .cells #[.int .i64 a0_0, .slice A0_1 l0_1.length c0_1, .slice A0_2 l0_2.length c0_2, .int .i64 a0_3, .int .i64 a0_4, .int .i64 a0_5] 76 (0, 0)) (by (with_reducible repeat (first | refine blk_drewN ?_ _ | refine blk_drew ?_ | refine blk_alloc ?_ _)); exact BK255.out) hb); have n3_ := Aside0.mk (below_step (by repeat (first | (with_reducible first | exact HB.out | apply below_alloc | apply pw_below_drewN | apply below_drew1 | refine below_set ?_ GE255.out) | exact HB.out)) hb); have n4_ := Aside0.mk (hbox); have n5_ := Aside0.mk ((by rw [hg]; exact (below_size (by repeat (first | (with_reducible first | exact HB.out | apply below_alloc | apply pw_below_drewN | apply below_drew1 | refine below_set ?_ GE255.out) | exact HB.out))) : w.heap.size ≤ gb256)); have n6_ := Aside0.mk ((by rw [hg]; exact (below_size (by repeat (first | (with_reducible first | exact HB.out | apply below_alloc | apply pw_below_drewN | apply below_drew1 | refine below_set ?_ GE255.out) | exact HB.out))) : w.heap.size ≤ gb256)); have n7_ := Aside0.mk ((by rw [hg]; exact Nat.ne_of_lt (blk_lt (g := gb255) (o := .cells #[.int .i64 a0_0, .slice A0_1 l0_1.length c0_1, .slice A0_2 l0_2.length c0_2, .int .i64 a0_3, .int .i64 a0_4, .int .i64 a0_5] 76 (0, 0)) (by (with_reducible repeat (first | refine blk_drewN ?_ _ | refine blk_drew ?_ | refine blk_alloc ?_ _)); exact BK255.out)) : gb255 ≠ gb256)); have n8_ := Aside0.mk ((by rw [hg]; exact Nat.ne_of_gt (blk_lt (g := gb255) (o := .cells #[.int .i64 a0_0, .slice A0_1 l0_1.length c0_1, .slice A0_2 l0_2.length c0_2, .int .i64 a0_3, .int .i64 a0_4, .int .i64 a0_5] 76 (0, 0)) (by (with_reducible repeat (first | refine blk_drewN ?_ _ | refine blk_drew ?_ | refine blk_alloc ?_ _)); exact BK255.out)) : gb256 ≠ gb255)); clear HO0_1; clear HO0_2; clear BK255; clear HB; have HO0_1 := n0_; have HO0_2 := n1_; have BK255 := n2_; have HB := n3_; have BK256 := n4_; have GW256 := n5_; have GE256 := n6_; have NB255_256 := n7_; have NB256_255 := n8_; clear n0_ n1_ n2_ n3_ n4_ n5_ n6_ n7_ n8_; clear hb hbox hg; have hnb18 := NB255_256.out; have hnc18 := NB256_255.out; have hcz19_0 : w17.cell? ⟨gb255, 0, none⟩ = some (.int .i64 a0_0) := (blk_cell BK255.out 0).trans rfl; have hcz19_1 : w17.cell? ⟨gb255, 1, none⟩ = some (.slice A0_1 l0_1.length c0_1) := (blk_cell BK255.out 1).trans rfl; have hcz19_2 : w17.cell? ⟨gb255, 2, none⟩ = some (.slice A0_2 l0_2.length c0_2) := (blk_cell BK255.out 2).trans rfl; have hcz19_3 : w17.cell? ⟨gb255, 3, none⟩ = some (.int .i64 a0_3) := (blk_cell BK255.out 3).trans rfl; have hcz19_4 : w17.cell? ⟨gb255, 4, none⟩ = some (.int .i64 a0_4) := (blk_cell BK255.out 4).trans rfl; have hcz19_5 : w17.cell? ⟨gb255, 5, none⟩ = some (.int .i64 a0_5) := (blk_cell BK255.out 5).trans rfl; have hfz19_0 := blk_frozen BK255.out 0; have hfz19_1 := blk_frozen BK255.out 1; have hfz19_2 := blk_frozen BK255.out 2; have hfz19_3 := blk_frozen BK255.out 3; have hfz19_4 := blk_frozen BK255.out 4; have hfz19_5 := blk_frozen BK255.out 5))
      have n0_ : Aside0 (Kd.V k106 106 (w17.setCell ⟨gb255, 3, none⟩ (.int .i64 (wrap64 (a0_3 + 1)))) w.heap.size (fun k_ => ((P0_1_ k_ ∨ P0_2_ k_) ∨ w.heap.size ≤ k_) ∧ k_ ≠ gb255 ∧ k_ ≠ gb256) (.slice A0_1 l0_1.length c0_1) l0_1) := ⟨by (with_reducible repeat (first | apply Kd.V_alloc | apply Kd.V_drewN | apply Kd.V_drew)); exact Kd.V_mono (Kd.V_far (p := ⟨gb255, 3, none⟩) (Kd.V_mono HO0_1.out (fun k_ hk => (⟨hk, hk.1.2⟩ : _ ∧ k_ ≠ gb255))) (fun _ hk => hk.2) (.int .i64 (wrap64 (a0_3 + 1)))) (fun _ hk => ⟨hk.1.1.1, ⟨hk.1.1.2, hk.1.2⟩⟩)⟩
      have n1_ : Aside0 (Kd.V k106 106 (w17.setCell ⟨gb255, 3, none⟩ (.int .i64 (wrap64 (a0_3 + 1)))) w.heap.size (fun k_ => ((P0_1_ k_ ∨ P0_2_ k_) ∨ w.heap.size ≤ k_) ∧ k_ ≠ gb255 ∧ k_ ≠ gb256) (.slice A0_2 l0_2.length c0_2) l0_2) := ⟨by (with_reducible repeat (first | apply Kd.V_alloc | apply Kd.V_drewN | apply Kd.V_drew)); exact Kd.V_mono (Kd.V_far (p := ⟨gb255, 3, none⟩) (Kd.V_mono HO0_2.out (fun k_ hk => (⟨hk, hk.1.2⟩ : _ ∧ k_ ≠ gb255))) (fun _ hk => hk.2) (.int .i64 (wrap64 (a0_3 + 1)))) (fun _ hk => ⟨hk.1.1.1, ⟨hk.1.1.2, hk.1.2⟩⟩)⟩
      have n2_ : Aside0 ((w17.setCell ⟨gb255, 3, none⟩ (.int .i64 (wrap64 (a0_3 + 1)))).heap[gb255]? = some (.cells #[.int .i64 a0_0, .slice A0_1 l0_1.length c0_1, .slice A0_2 l0_2.length c0_2, .int .i64 (wrap64 (a0_3 + 1)), .int .i64 a0_4, .int .i64 a0_5] 76 (0, 0))) := ⟨by (with_reducible repeat (first | refine blk_drewN ?_ _ | refine blk_drew ?_ | refine blk_alloc ?_ _)); refine blk_put (cs := #[.int .i64 a0_0, .slice A0_1 l0_1.length c0_1, .slice A0_2 l0_2.length c0_2, .int .i64 a0_3, .int .i64 a0_4, .int .i64 a0_5]) ?_ 3 _ rfl; (with_reducible repeat (first | refine blk_drewN ?_ _ | refine blk_drew ?_ | refine blk_alloc ?_ _)); exact BK255.out⟩
      have n3_ : Aside0 ((w17.setCell ⟨gb255, 3, none⟩ (.int .i64 (wrap64 (a0_3 + 1)))).heap[gb256]? = some (.cells #[.int .i64 0, .slice none 0 0, .slice none 0 0, .int .i64 0, .int .i64 0, .int .i64 0] 76 (0, 0))) := ⟨by (with_reducible repeat (first | refine blk_drewN ?_ _ | refine blk_drew ?_ | refine blk_alloc ?_ _)); refine blk_far ?_ NB256_255.out _; (with_reducible repeat (first | refine blk_drewN ?_ _ | refine blk_drew ?_ | refine blk_alloc ?_ _)); exact BK256.out⟩
      have n4_ : Aside0 (Below w.heap.size w (w17.setCell ⟨gb255, 3, none⟩ (.int .i64 (wrap64 (a0_3 + 1))))) := ⟨by repeat (first | (with_reducible first | exact HB.out | apply below_alloc | apply pw_below_drewN | apply below_drew1 | refine below_set ?_ GE255.out | refine below_set ?_ GE256.out) | exact HB.out)⟩
      (try clear HO0_1)
      (try clear HO0_2)
      (try clear BK255)
      (try clear BK256)
      (try clear HB)
      generalize (w17.setCell ⟨gb255, 3, none⟩ (.int .i64 (wrap64 (a0_3 + 1)))) = w20 at n0_ n1_ n2_ n3_ n4_ ⊢
      have HO0_1 := n0_
      have HO0_2 := n1_
      have BK255 := n2_
      have BK256 := n3_
      have HB := n4_
      clear n0_ n1_ n2_ n3_ n4_
      have n0_ := Aside0.mk (Kd.V_drew HO0_1.out)
      have n1_ := Aside0.mk (Kd.V_drew HO0_2.out)
      have n2_ := Aside0.mk (blk_drew BK255.out)
      have n3_ := Aside0.mk (blk_drew BK256.out)
      have n4_ := Aside0.mk (below_drew1 HB.out)
      clear HO0_1
      clear HO0_2
      clear BK255
      clear BK256
      clear HB
      have HO0_1 := n0_
      have HO0_2 := n1_
      have BK255 := n2_
      have BK256 := n3_
      have HB := n4_
      clear n0_ n1_ n2_ n3_ n4_
      refine start_ (n := 7) (S := fun w' => w'.cell? ⟨gb255, 0, none⟩ = some (.int .i64 a0_0) ∧ w'.cell? ⟨gb255, 1, none⟩ = some (.slice A0_1 l0_1.length c0_1) ∧ w'.cell? ⟨gb255, 2, none⟩ = some (.slice A0_2 l0_2.length c0_2) ∧ w'.cell? ⟨gb255, 3, none⟩ = some (.int .i64 (wrap64 (a0_3 + 1))) ∧ w'.cell? ⟨gb255, 4, none⟩ = some (.int .i64 a0_4) ∧ w'.cell? ⟨gb255, 5, none⟩ = some (.int .i64 a0_5)) (ds := []) (bb 7 0) (by kernel_rfl) rfl rfl ⟨(blk_cell BK255.out 0).trans rfl, (blk_cell BK255.out 1).trans rfl, (blk_cell BK255.out 2).trans rfl, (blk_cell BK255.out 3).trans rfl, (blk_cell BK255.out 4).trans rfl, (blk_cell BK255.out 5).trans rfl⟩ (fun hHeld => ?_)
      generalize w20.drew = w21 at HO0_1 HO0_2 BK255 BK256 HB hHeld ⊢
      refine pure_ (i := 2) (N := some 24) (v := ?_) (a' := ?_) (bb 7 4) rfl rfl (by kernel_rfl) (fun _ _ _ h => h) (Or.inl ⟨by rfl, ?_⟩) ?_ ?_
      rotate_left
      · intro w'
        go_simp
        with_reducible rfl
      rotate_left
      · simp only [Act.put, List.setIfInBounds_toArray, List.set_cons_zero, List.set_cons_succ, i64_w, i32_w]
        rfl
      refine take_ (i := 0) (N := some 22) (v := ?_) (a' := ?_) (bb 7 5) rfl rfl (by kernel_rfl) (fun _ _ _ h => h) (Or.inl ⟨by rfl, ?_⟩) hHeld ?_ ?_
      rotate_left
      · rintro w' ⟨s0, s1, s2, s3, s4, s5⟩
        go_simp
        with_reducible rfl
      rotate_left
      · simp only [Act.put, List.setIfInBounds_toArray, List.set_cons_zero, List.set_cons_succ, i64_w, i32_w]
        rfl
      refine take_ (i := 1) (N := some 23) (v := ?_) (a' := ?_) (bb 7 7) rfl rfl (by kernel_rfl) (fun _ _ _ h => h) (Or.inl ⟨by rfl, ?_⟩) hHeld ?_ ?_
      rotate_left
      · rintro w' ⟨s0, s1, s2, s3, s4, s5⟩
        go_simp
        with_reducible rfl
      rotate_left
      · simp only [Act.put, List.setIfInBounds_toArray, List.set_cons_zero, List.set_cons_succ, i64_w, i32_w]
        rfl
      refine one_ (i := 3) (N := some 25) (bb 7 15) rfl rfl (by kernel_rfl) (by decide) (fun K hK => ?_)
      refine goes_ Try.func59 (by kernel_rfl) rfl #[.agg #[.int .i64 a0_0, .slice A0_1 l0_1.length c0_1, .slice A0_2 l0_2.length c0_2, .int .i64 (wrap64 (a0_3 + 1)), .int .i64 a0_4, .int .i64 a0_5], .int .i64 a1] (by rfl) rfl rfl (by (try simp only [List.map_toArray, List.map_cons, List.map_nil]); first | done | rfl | (simp only [List.length_drop, List.length_take]; rfl)) ?_
      with_reducible refine (kilnref3_Now.calls k a0_0 _ _ l0_1 _ _ l0_2 (wrap64 (a0_3 + 1)) a0_4 a0_5 a1 t257 _ ?side1 ?side2 ?side3 ?side4 A15.out).mono ?_
      (case side1 => repeat (first | exact (Kd.V_reads' HO0_1.out).2.2 | (with_reducible refine Kd.C_alloc ?_ _) | (with_reducible refine Kd.C_drewN ?_ _) | (with_reducible refine Kd.C_drew ?_)))
      (case side2 => exact (Kd.V_reads' HO0_1.out).2.1)
      (case side3 => repeat (first | exact (Kd.V_reads' HO0_2.out).2.2 | (with_reducible refine Kd.C_alloc ?_ _) | (with_reducible refine Kd.C_drewN ?_ _) | (with_reducible refine Kd.C_drew ?_)))
      (case side4 => exact (Kd.V_reads' HO0_2.out).2.1)
      rintro e w22 ⟨v258, rfl, ho0, hb⟩
      refine ⟨_, rfl, ?_⟩
      have n0_ := Aside0.mk (Kd.V_elder' (by (with_reducible repeat (first | apply Kd.V_alloc | apply Kd.V_drewN | apply Kd.V_drew)); exact HO0_1.out) (Kd.R_base ho0) hb)
      have n1_ := Aside0.mk (Kd.V_elder' (by (with_reducible repeat (first | apply Kd.V_alloc | apply Kd.V_drewN | apply Kd.V_drew)); exact HO0_2.out) (Kd.R_base ho0) hb)
      have n2_ := Aside0.mk (Kd.R_lower (Kd.R_newM (M := fun k_ => (w.heap.size ≤ k_)) ho0 (below_size (by repeat (first | (with_reducible first | exact HB.out | apply below_alloc | apply pw_below_drewN | apply below_drew1 | refine below_set ?_ GE255.out | refine below_set ?_ GE256.out) | exact HB.out))) (fun k_ h_ => h_)) (below_size (by repeat (first | (with_reducible first | exact HB.out | apply below_alloc | apply pw_below_drewN | apply below_drew1 | refine below_set ?_ GE255.out | refine below_set ?_ GE256.out) | exact HB.out))))
      have n3_ := Aside0.mk (blk_below (g := gb255) (o := .cells #[.int .i64 a0_0, .slice A0_1 l0_1.length c0_1, .slice A0_2 l0_2.length c0_2, .int .i64 (wrap64 (a0_3 + 1)), .int .i64 a0_4, .int .i64 a0_5] 76 (0, 0)) (by (with_reducible repeat (first | refine blk_drewN ?_ _ | refine blk_drew ?_ | refine blk_alloc ?_ _)); exact BK255.out) hb)
      have n4_ := Aside0.mk (blk_below (g := gb256) (o := .cells #[.int .i64 0, .slice none 0 0, .slice none 0 0, .int .i64 0, .int .i64 0, .int .i64 0] 76 (0, 0)) (by (with_reducible repeat (first | refine blk_drewN ?_ _ | refine blk_drew ?_ | refine blk_alloc ?_ _)); exact BK256.out) hb)
      have n5_ := Aside0.mk (below_step (by repeat (first | (with_reducible first | exact HB.out | apply below_alloc | apply pw_below_drewN | apply below_drew1 | refine below_set ?_ GE255.out | refine below_set ?_ GE256.out) | exact HB.out)) hb)
      clear HO0_1
      clear HO0_2
      clear BK255
      clear BK256
      clear HB
      have HO0_1 := n0_
      have HO0_2 := n1_
      have HO259 := n2_
      have BK255 := n3_
      have BK256 := n4_
      have HB := n5_
      clear n0_ n1_ n2_ n3_ n4_ n5_
      (try clear hb)
      (try clear hb2)
      (try clear hk)
      (try clear hi)
      (try clear ho0)
      refine hK.out _ _ ⟨(blk_cell BK255.out 0).trans rfl, (blk_cell BK255.out 1).trans rfl, (blk_cell BK255.out 2).trans rfl, (blk_cell BK255.out 3).trans rfl, (blk_cell BK255.out 4).trans rfl, (blk_cell BK255.out 5).trans rfl⟩ (fun hHeld => ?_)
      clear hK K
      refine norm_ (a' := ?_) ?_ ?_
      rotate_left
      · show Act.put _ (some 25) _ = _
        simp only [Act.put, List.setIfInBounds_toArray, List.set_cons_zero, List.set_cons_succ, i64_w, i32_w]
        rfl
      refine one_ (i := 4) (N := none) (bb 7 31) rfl rfl (by kernel_rfl) (by decide) (fun K hK => ?_)
      have hs23 : w22.cell? ⟨gb256, 0, none⟩ = some (.int .i64 0) := (blk_cell BK256.out 0).trans rfl
      have hfs23 := blk_frozen BK256.out 0
      have hns23_0 := NB255_256.out
      have hms23_0 := NB256_255.out
      have hs24 : w22.cell? ⟨gb256, 1, none⟩ = some (.slice none 0 0) := (blk_cell BK256.out 1).trans rfl
      have hfs24 := blk_frozen BK256.out 1
      have hns24_0 := NB255_256.out
      have hms24_0 := NB256_255.out
      have hs25 : w22.cell? ⟨gb256, 2, none⟩ = some (.slice none 0 0) := (blk_cell BK256.out 2).trans rfl
      have hfs25 := blk_frozen BK256.out 2
      have hns25_0 := NB255_256.out
      have hms25_0 := NB256_255.out
      have hs26 : w22.cell? ⟨gb256, 3, none⟩ = some (.int .i64 0) := (blk_cell BK256.out 3).trans rfl
      have hfs26 := blk_frozen BK256.out 3
      have hns26_0 := NB255_256.out
      have hms26_0 := NB256_255.out
      have hs27 : w22.cell? ⟨gb256, 4, none⟩ = some (.int .i64 0) := (blk_cell BK256.out 4).trans rfl
      have hfs27 := blk_frozen BK256.out 4
      have hns27_0 := NB255_256.out
      have hms27_0 := NB256_255.out
      have hs28 : w22.cell? ⟨gb256, 5, none⟩ = some (.int .i64 0) := (blk_cell BK256.out 5).trans rfl
      have hfs28 := blk_frozen BK256.out 5
      have hns28_0 := NB255_256.out
      have hms28_0 := NB256_255.out
      refine skip_ (w1 := ?_) (by rfl) rfl ?_ ?_
      rotate_left
      · go_simp
        rfl
      refine hK.out _ _ ⟨((cell_far (p := ⟨gb256, _, none⟩) NB255_256.out _).trans (((cell_far (p := ⟨gb256, _, none⟩) NB255_256.out _).trans (((cell_far (p := ⟨gb256, _, none⟩) NB255_256.out _).trans (((cell_far (p := ⟨gb256, _, none⟩) NB255_256.out _).trans (((cell_far (p := ⟨gb256, _, none⟩) NB255_256.out _).trans (((cell_far (p := ⟨gb256, _, none⟩) NB255_256.out _).trans (hHeld.1)))))))))))), ((cell_far (p := ⟨gb256, _, none⟩) NB255_256.out _).trans (((cell_far (p := ⟨gb256, _, none⟩) NB255_256.out _).trans (((cell_far (p := ⟨gb256, _, none⟩) NB255_256.out _).trans (((cell_far (p := ⟨gb256, _, none⟩) NB255_256.out _).trans (((cell_far (p := ⟨gb256, _, none⟩) NB255_256.out _).trans (((cell_far (p := ⟨gb256, _, none⟩) NB255_256.out _).trans (hHeld.2.1)))))))))))), ((cell_far (p := ⟨gb256, _, none⟩) NB255_256.out _).trans (((cell_far (p := ⟨gb256, _, none⟩) NB255_256.out _).trans (((cell_far (p := ⟨gb256, _, none⟩) NB255_256.out _).trans (((cell_far (p := ⟨gb256, _, none⟩) NB255_256.out _).trans (((cell_far (p := ⟨gb256, _, none⟩) NB255_256.out _).trans (((cell_far (p := ⟨gb256, _, none⟩) NB255_256.out _).trans (hHeld.2.2.1)))))))))))), ((cell_far (p := ⟨gb256, _, none⟩) NB255_256.out _).trans (((cell_far (p := ⟨gb256, _, none⟩) NB255_256.out _).trans (((cell_far (p := ⟨gb256, _, none⟩) NB255_256.out _).trans (((cell_far (p := ⟨gb256, _, none⟩) NB255_256.out _).trans (((cell_far (p := ⟨gb256, _, none⟩) NB255_256.out _).trans (((cell_far (p := ⟨gb256, _, none⟩) NB255_256.out _).trans (hHeld.2.2.2.1)))))))))))), ((cell_far (p := ⟨gb256, _, none⟩) NB255_256.out _).trans (((cell_far (p := ⟨gb256, _, none⟩) NB255_256.out _).trans (((cell_far (p := ⟨gb256, _, none⟩) NB255_256.out _).trans (((cell_far (p := ⟨gb256, _, none⟩) NB255_256.out _).trans (((cell_far (p := ⟨gb256, _, none⟩) NB255_256.out _).trans (((cell_far (p := ⟨gb256, _, none⟩) NB255_256.out _).trans (hHeld.2.2.2.2.1)))))))))))), ((cell_far (p := ⟨gb256, _, none⟩) NB255_256.out _).trans (((cell_far (p := ⟨gb256, _, none⟩) NB255_256.out _).trans (((cell_far (p := ⟨gb256, _, none⟩) NB255_256.out _).trans (((cell_far (p := ⟨gb256, _, none⟩) NB255_256.out _).trans (((cell_far (p := ⟨gb256, _, none⟩) NB255_256.out _).trans (((cell_far (p := ⟨gb256, _, none⟩) NB255_256.out _).trans (hHeld.2.2.2.2.2))))))))))))⟩ (fun hHeld => ?_)
      clear hK K
      refine pure_ (i := 5) (N := some 5) (v := ?_) (a' := ?_) (bb 7 63) rfl rfl (by kernel_rfl) (fun _ _ _ h => h) (Or.inl ⟨by rfl, ?_⟩) ?_ ?_
      rotate_left
      · intro w'
        go_simp
        with_reducible rfl
      rotate_left
      · simp only [Act.put, List.setIfInBounds_toArray, List.set_cons_zero, List.set_cons_succ, i64_w, i32_w]
        rfl
      refine pure_ (i := 6) (N := some 6) (v := ?_) (a' := ?_) (bb 7 127) rfl rfl (by kernel_rfl) (fun _ _ _ h => h) (Or.inl ⟨by rfl, ?_⟩) ?_ ?_
      rotate_left
      · intro w'
        go_simp
        with_reducible rfl
      rotate_left
      · simp only [Act.put, List.setIfInBounds_toArray, List.set_cons_zero, List.set_cons_succ, i64_w, i32_w]
        rfl
      refine done_ (by kernel_rfl) ?_
      try go_wp2
      refine bodyPost_ret (results_ctt rfl _ _ gb256 76 #[.int .i64 a0_0, .slice A0_1 l0_1.length c0_1, .slice A0_2 l0_2.length c0_2, .int .i64 (wrap64 (a0_3 + 1)), .int .i64 a0_4, .int .i64 a0_5] (0, 0) _ rfl (by (with_reducible repeat (first | refine blk_drewN ?_ _ | refine blk_drew ?_ | refine blk_alloc ?_ _)); refine blk_put (cs := #[.int .i64 a0_0, .slice A0_1 l0_1.length c0_1, .slice A0_2 l0_2.length c0_2, .int .i64 (wrap64 (a0_3 + 1)), .int .i64 a0_4, .int .i64 0]) ?_ 5 _ rfl; (with_reducible repeat (first | refine blk_drewN ?_ _ | refine blk_drew ?_ | refine blk_alloc ?_ _)); refine blk_put (cs := #[.int .i64 a0_0, .slice A0_1 l0_1.length c0_1, .slice A0_2 l0_2.length c0_2, .int .i64 (wrap64 (a0_3 + 1)), .int .i64 0, .int .i64 0]) ?_ 4 _ rfl; (with_reducible repeat (first | refine blk_drewN ?_ _ | refine blk_drew ?_ | refine blk_alloc ?_ _)); refine blk_put (cs := #[.int .i64 a0_0, .slice A0_1 l0_1.length c0_1, .slice A0_2 l0_2.length c0_2, .int .i64 0, .int .i64 0, .int .i64 0]) ?_ 3 _ rfl; (with_reducible repeat (first | refine blk_drewN ?_ _ | refine blk_drew ?_ | refine blk_alloc ?_ _)); refine blk_put (cs := #[.int .i64 a0_0, .slice A0_1 l0_1.length c0_1, .slice none 0 0, .int .i64 0, .int .i64 0, .int .i64 0]) ?_ 2 _ rfl; (with_reducible repeat (first | refine blk_drewN ?_ _ | refine blk_drew ?_ | refine blk_alloc ?_ _)); refine blk_put (cs := #[.int .i64 a0_0, .slice none 0 0, .slice none 0 0, .int .i64 0, .int .i64 0, .int .i64 0]) ?_ 1 _ rfl; (with_reducible repeat (first | refine blk_drewN ?_ _ | refine blk_drew ?_ | refine blk_alloc ?_ _)); refine blk_put (cs := #[.int .i64 0, .slice none 0 0, .slice none 0 0, .int .i64 0, .int .i64 0, .int .i64 0]) ?_ 0 _ rfl; (with_reducible repeat (first | refine blk_drewN ?_ _ | refine blk_drew ?_ | refine blk_alloc ?_ _)); exact BK256.out) Try.underlying76 rfl (by kernel_rfl)) rfl ?_
      exact ⟨_, _, _, by first | rfl | (simp [errW_none, errW_some] <;> rfl) | (simp [*, errW_none, errW_some] <;> rfl), by (with_reducible repeat (first | apply Kd.V_alloc | apply Kd.V_drewN | apply Kd.V_drew)); exact Kd.V_mono (Kd.V_far (p := ⟨gb256, 5, none⟩) (Kd.V_far (p := ⟨gb256, 4, none⟩) (Kd.V_far (p := ⟨gb256, 3, none⟩) (Kd.V_far (p := ⟨gb256, 2, none⟩) (Kd.V_far (p := ⟨gb256, 1, none⟩) (Kd.V_far (p := ⟨gb256, 0, none⟩) (Kd.V_mono HO0_1.out (fun k_ hk => (⟨hk, hk.1.2.2⟩ : _ ∧ k_ ≠ gb256))) (fun _ hk => hk.2) (.int .i64 a0_0)) (fun _ hk => hk.2) (.slice A0_1 l0_1.length c0_1)) (fun _ hk => hk.2) (.slice A0_2 l0_2.length c0_2)) (fun _ hk => hk.2) (.int .i64 (wrap64 (a0_3 + 1)))) (fun _ hk => hk.2) (.int .i64 a0_4)) (fun _ hk => hk.2) (.int .i64 a0_5)) (fun _ hk => ⟨hk.1.1.1, hk.1.2⟩), by (with_reducible repeat (first | apply Kd.V_alloc | apply Kd.V_drewN | apply Kd.V_drew)); exact Kd.V_mono (Kd.V_far (p := ⟨gb256, 5, none⟩) (Kd.V_far (p := ⟨gb256, 4, none⟩) (Kd.V_far (p := ⟨gb256, 3, none⟩) (Kd.V_far (p := ⟨gb256, 2, none⟩) (Kd.V_far (p := ⟨gb256, 1, none⟩) (Kd.V_far (p := ⟨gb256, 0, none⟩) (Kd.V_mono HO0_2.out (fun k_ hk => (⟨hk, hk.1.2.2⟩ : _ ∧ k_ ≠ gb256))) (fun _ hk => hk.2) (.int .i64 a0_0)) (fun _ hk => hk.2) (.slice A0_1 l0_1.length c0_1)) (fun _ hk => hk.2) (.slice A0_2 l0_2.length c0_2)) (fun _ hk => hk.2) (.int .i64 (wrap64 (a0_3 + 1)))) (fun _ hk => hk.2) (.int .i64 a0_4)) (fun _ hk => hk.2) (.int .i64 a0_5)) (fun _ hk => ⟨hk.1.1.1, hk.1.2⟩), by (with_reducible repeat (first | apply Kd.R_alloc | apply Kd.R_drewN | apply Kd.R_drew)); exact Kd.R_mono (Kd.R_far (p := ⟨gb256, 5, none⟩) (Kd.R_far (p := ⟨gb256, 4, none⟩) (Kd.R_far (p := ⟨gb256, 3, none⟩) (Kd.R_far (p := ⟨gb256, 2, none⟩) (Kd.R_far (p := ⟨gb256, 1, none⟩) (Kd.R_far (p := ⟨gb256, 0, none⟩) (Kd.R_types HO259.out BK256.out (by decide)) (fun _ hk => hk.2) (.int .i64 a0_0)) (fun _ hk => hk.2) (.slice A0_1 l0_1.length c0_1)) (fun _ hk => hk.2) (.slice A0_2 l0_2.length c0_2)) (fun _ hk => hk.2) (.int .i64 (wrap64 (a0_3 + 1)))) (fun _ hk => hk.2) (.int .i64 a0_4)) (fun _ hk => hk.2) (.int .i64 a0_5)) (fun _ hk => hk.1.1), by repeat (first | (with_reducible first | exact HB.out | apply below_alloc | apply pw_below_drewN | apply below_drew1 | refine below_set ?_ GE255.out | refine below_set ?_ GE256.out) | exact HB.out)⟩
end Go.Proofs.Ytddnhcnkjcdfgaa.R

namespace Go.Proofs.Ytddnhcnkjcdfgaa.R
open Go.Proofs.Ytddnhcnkjcdfgaa.M Go.Proofs.Ytddnhcnkjcdfgaa.P
open Go.RowKit Go.Proofs.YtddnhcnkjcdfgaaW.PrintWords Go.Proofs.YtddnhcnkjcdfgaaW.PrintLast Go.Proofs.YtddnhcnkjcdfgaaW.PrintMore
attribute [local go_sem] max2_int min2_int max_two min_two max_three min_three max_four min_four   -- for this text's walks alone
set_option linter.unusedVariables false
set_option linter.unusedSimpArgs false
end Go.Proofs.Ytddnhcnkjcdfgaa.R

namespace Go.Proofs.Ytddnhcnkjcdfgaa.R
open Go.Proofs.Ytddnhcnkjcdfgaa.M Go.Proofs.Ytddnhcnkjcdfgaa.P
open Go.RowKit Go.Proofs.YtddnhcnkjcdfgaaW.PrintWords Go.Proofs.YtddnhcnkjcdfgaaW.PrintLast Go.Proofs.YtddnhcnkjcdfgaaW.PrintMore
attribute [local go_sem] max2_int min2_int max_two min_two max_three min_three max_four min_four   -- for this text's walks alone
set_option linter.unusedVariables false
set_option linter.unusedSimpArgs false
end Go.Proofs.Ytddnhcnkjcdfgaa.R

namespace Go.Proofs.Ytddnhcnkjcdfgaa.M
open Go.RowKit Go.Maps Go.Proofs.YtddnhcnkjcdfgaaW.PrintWords Go.Proofs.YtddnhcnkjcdfgaaW.PrintLast Go.Proofs.YtddnhcnkjcdfgaaW.PrintMore
open Go.Proofs.Ytddnhcnkjcdfgaa.P hiding S106 k106
open Go.Proofs.Ytddnhcnkjcdfgaa.R
set_option linter.unusedVariables false
set_option linter.unusedSimpArgs false
def refT (v1 v2 : Value) (l1 l2 : List S106) : Th where
  P := fun w F => Kd.V k106 106 w 0 F v1 l1 ∧ Kd.V k106 106 w 0 F v2 l2 ∧ ∀ b, F b → b < w.heap.size
  foot := fun h => h.2.2
  step := by
    rintro w w' F ⟨h1, h2, h3⟩ h
    exact ⟨Kd.V_step h1 (fun k hk _ => h k hk), Kd.V_step h2 (fun k hk _ => h k hk), fun b hb => same_lt (h b hb) (h3 b hb)⟩
section
variable {w0 w w' : World} {L : List Th} {A1 A2 : Option Addr} {c1 c2 : Nat} {l1 l2 : List S106}
theorem Sep.ref_new {b1 b2 : Nat} {ok1 ok2 : Nat → Prop} {v1 v2 : Value} (h : Sep w0 w L) (h1 : Kd.S k106 106 w' w.heap.size ok1 v1 l1) (h2 : Kd.S k106 106 w' w.heap.size ok2 v2 l2) (hb : Below w.heap.size w w') : Sep w0 w' (refT v1 v2 l1 l2 :: L) :=
  h.push (t := refT v1 v2 l1 l2) hb (F := fun k => w.heap.size ≤ k ∧ k < w'.heap.size) ⟨Kd.S_V (Kd.S_mono (Kd.S_bound h1) (fun k hk => ⟨hk.2.1, hk.2.2.1⟩)), Kd.S_V (Kd.S_mono (Kd.S_bound h2) (fun k hk => ⟨hk.2.1, hk.2.2.1⟩)), fun b hb => hb.2⟩ (fun b hb => hb.1)
theorem Sep.ref_C (h : Sep w0 w (refT (.slice A1 l1.length c1) (.slice A2 l2.length c2) l1 l2 :: L)) : Kd.C k106 w A1 l1.length l1 ∧ l1.length ≤ c1 ∧ Kd.C k106 w A2 l2.length l2 ∧ l2.length ≤ c2 := by
  obtain ⟨F, ⟨h1, h2, _⟩, _⟩ := h.get
  exact ⟨(Kd.V_reads' h1).2.2, (Kd.V_reads' h1).2.1, (Kd.V_reads' h2).2.2, (Kd.V_reads' h2).2.1⟩
theorem Sep.rRead (h : Sep w0 w (refT (.slice A1 l1.length c1) (.slice A2 l2.length c2) l1 l2 :: L)) (k : Nat) (n r wr fl a1 : Int) (n' : Int) (l1' l2' : List S106) (r' wr' fl' : Int) (b7 : List Int) (e8 : Int) (hf : kilnref3_Read.f k n l1 l2 r wr fl a1 = some (n', l1', l2', r', wr', fl', b7, e8)) :
    Calls Try.prog 48 #[.agg #[.int .i64 n, .slice A1 l1.length c1, .slice A2 l2.length c2, .int .i64 r, .int .i64 wr, .int .i64 fl], .int .i64 a1] w fun e w' => ∃ A1' c1' A2' c2' A7 c7, e = .returned (.tuple #[.agg #[.int .i64 n', .slice A1' l1'.length c1', .slice A2' l2'.length c2', .int .i64 r', .int .i64 wr', .int .i64 fl'], .slice A7 b7.length c7, .int .i64 e8]) ∧ Sep w0 w' (ownT (Kd.int .u8) 5 (.slice A7 b7.length c7) b7 :: refT (.slice A1' l1'.length c1') (.slice A2' l2'.length c2') l1' l2' :: L) := by
  obtain ⟨F, ⟨g1, g2, g3⟩, hF0, back⟩ := h.open_
  refine (kilnref3_Read.calls k n F A1 c1 l1 F A2 c2 l2 r wr fl a1 n' l1' l2' r' wr' fl' b7 e8 w (Kd.V_mono g1 (fun _ h => h)) (Kd.V_mono g2 (fun _ h => h)) hf).mono ?_
  rintro e w' ⟨v1, v2, v7, he, h1, h2, h7, hb⟩
  obtain ⟨A1', c1', rfl⟩ := Kd.V_slice h1
  obtain ⟨A2', c2', rfl⟩ := Kd.V_slice h2
  obtain ⟨A7, c7, rfl⟩ := Kd.R_slice h7
  refine ⟨A1', c1', A2', c2', A7, c7, he, back [ownT (Kd.int .u8) 5 _ b7, refT _ _ l1' l2'] w' ⟨fun k => (Value.slice A7 b7.length c7).ownBlock = some k ∧ k < w'.heap.size, ⟨⟨0, Kd.R_mono (Kd.R_bound (Kd.R_lower (Kd.R_tight rfl h7) (Nat.zero_le _))) (fun k hk => ⟨hk.1.symm, hk.2.2.1⟩)⟩, fun b hb => hb.2⟩, fun b hb => .inr (h7.1 b hb.1), fun k => (((F k ∨ w.heap.size ≤ k) ∧ some k ≠ (Value.slice A7 b7.length c7).ownBlock) ∧ k < w'.heap.size), ⟨Kd.V_mono (Kd.V_bound (Kd.V_lower h1 (Nat.zero_le _))) (fun k hk => ⟨⟨hk.1.1.imp (fun h => h.elim id id) id, hk.1.2⟩, hk.2⟩), Kd.V_mono (Kd.V_bound (Kd.V_lower h2 (Nat.zero_le _))) (fun k hk => ⟨⟨hk.1.1.imp (fun h => h.elim id id) id, hk.1.2⟩, hk.2⟩), fun b hb => hb.2⟩, fun b hb => ⟨hb.1.1, fun hx => hb.1.2 hx.1.symm⟩, trivial⟩ (Chg.of_below hb)⟩
theorem Sep.rNew (h : Sep w0 w L) (a : Int) (n' : Int) (l1' l2' : List S106) (r' wr' fl' e7 : Int) (hf : kilnref3_New.f a = some (n', l1', l2', r', wr', fl', e7)) :
    Calls Try.prog 47 #[.int .i64 a] w fun e w' => ∃ A1' c1' A2' c2', e = .returned (.tuple #[.agg #[.int .i64 n', .slice A1' l1'.length c1', .slice A2' l2'.length c2', .int .i64 r', .int .i64 wr', .int .i64 fl'], .int .i64 e7]) ∧ Sep w0 w' (refT (.slice A1' l1'.length c1') (.slice A2' l2'.length c2') l1' l2' :: L) := by
  refine (kilnref3_New.calls a n' l1' l2' r' wr' fl' e7 w hf).mono ?_
  rintro e w' ⟨v1, v2, he, h1, h2, hb⟩
  obtain ⟨A1', c1', rfl⟩ := Kd.S_slice h1
  obtain ⟨A2', c2', rfl⟩ := Kd.S_slice h2
  exact ⟨A1', c1', A2', c2', he, h.ref_new (b1 := 0) (b2 := 0) h1 h2 hb⟩
theorem Sep.rLoad (h : Sep w0 w L) (k : Nat) (A0 : Option Addr) (c0 : Nat) (l0 : List (List Int)) (hC : Kd.C KB w A0 l0.length l0) (hc : l0.length ≤ c0) (n' : Int) (l1' l2' : List S106) (r' wr' fl' e7 : Int) (hf : kilnref3_Load.f k l0 = some (n', l1', l2', r', wr', fl', e7)) :
    Calls Try.prog 40 #[.slice A0 l0.length c0] w fun e w' => ∃ A1' c1' A2' c2', e = .returned (.tuple #[.agg #[.int .i64 n', .slice A1' l1'.length c1', .slice A2' l2'.length c2', .int .i64 r', .int .i64 wr', .int .i64 fl'], .int .i64 e7]) ∧ Sep w0 w' (refT (.slice A1' l1'.length c1') (.slice A2' l2'.length c2') l1' l2' :: L) := by
  refine (kilnref3_Load.calls k A0 c0 l0 n' l1' l2' r' wr' fl' e7 w hC hc hf).mono ?_
  rintro e w' ⟨v1, v2, he, h1, h2, hb⟩
  obtain ⟨A1', c1', rfl⟩ := Kd.S_slice h1
  obtain ⟨A2', c2', rfl⟩ := Kd.S_slice h2
  exact ⟨A1', c1', A2', c2', he, h.ref_new (b1 := 0) (b2 := 0) h1 h2 hb⟩
end
end Go.Proofs.Ytddnhcnkjcdfgaa.M

namespace Go.Proofs.Ytddnhcnkjcdfgaa.M
open Go.RowKit Go.Maps Go.Proofs.YtddnhcnkjcdfgaaW.PrintWords Go.Proofs.YtddnhcnkjcdfgaaW.PrintLast Go.Proofs.YtddnhcnkjcdfgaaW.PrintMore
open Go.Proofs.Ytddnhcnkjcdfgaa.P hiding S106 k106 rd_T106 at_T106
open Go.Proofs.Ytddnhcnkjcdfgaa.R
set_option linter.unusedVariables false
set_option linter.unusedSimpArgs false
theorem Sep.nest {w0 w w' : World} {L : List Th} {t : Th} (h : Sep w0 w L) (h2 : Sep w w' [t]) : Sep w0 w' (t :: L) := by
  obtain ⟨F, h3, h4⟩ := h2.get
  exact h.push h2.below h3 h4
def zl (n : Nat) : Nat → List (List Int)
  | 0 => List.replicate n []
  | i + 1 => (zl n i).set i zeros
def imL (n : Nat) (l : List S106) : Nat → List (List Int)
  | 0 => zl n n
  | j + 1 => (imL n l j).set (rd_T106 l (j : Int)).f0.toNat (rd_T106 l (j : Int)).f1
def rimg9_T : Bool × List (List Nat × List Nat) := (true, [([], []), ([], []), ([1], [1]), ([], []), ([2, 3], [2, 3]), ([4], [4]), ([5], [5]), ([], []), ([7], [7]), ([], []), ([8, 9], [8, 9]), ([10], [10]), ([11], [11]), ([12], [12]), ([0, 6, 0, 1, 2, 3, 4, 5, 6, 7, 8, 9, 10, 11, 12, 13], [0, 6]), ([14, 13, 13, 0, 1, 2, 3, 4, 5, 6, 7, 8, 9, 10, 11, 12, 13], [13, 14])])
def rimg9_B : List Nat := [0, 0, 2, 0, 14, 30, 62, 0, 128, 0, 896, 1920, 3968, 8064, 16383, 32767]
theorem rimg9_tab : rtab .any (opsOf Try.f54 9) = rimg9_T := by kernel_rfl
theorem rimg9_bits : waitsOk rimg9_T.2 rimg9_B = true := by kernel_rfl
set_option maxHeartbeats 8000000 in
set_option maxRecDepth 100000 in
theorem rImage_calls (A1 : Option Addr) (c1 : Nat) (l1 : List S106) (A2 : Option Addr) (m2 c2 : Nat) (n : Nat) (r wr0 fl : Int) (w : World) (hC : Kd.C k106 w A1 l1.length l1) (hc1 : l1.length ≤ c1) (hn2 : 2 ≤ n) (hnm : n ≤ 65536) (hl : l1.length ≤ 1000000000)
    (hg : ∀ j, j < l1.length → (∃ i : Nat, i < n ∧ (rd_T106 l1 (j : Int)).f0 = (i : Int)) ∧ (rd_T106 l1 (j : Int)).f1.length ≤ 1000000) :
    Calls Try.prog 54 #[.agg #[.int .i64 (n : Int), .slice A1 l1.length c1, .slice A2 m2 c2, .int .i64 r, .int .i64 wr0, .int .i64 fl]] w fun e w' => ∃ go c, e = .returned (.slice (some ⟨go, 0, none⟩) n c) ∧ Sep w w' [ownT KB 28 (.slice (some ⟨go, 0, none⟩) n c) (imL n l1 l1.length)] := by
  have HC := Aside0.mk hC
  have HZ := Aside0.mk (fun W => kilnref3_Zeros.calls zeros W (show kilnref3_Zeros.f = some zeros from if_pos (by decide)))
  have HG := Aside0.mk hg
  have HS0 := Aside0.mk ((Sep.refl w).push_alloc #[.int .i64 (n : Int), .slice A1 l1.length c1, .slice A2 m2 c2, .int .i64 r, .int .i64 wr0, .int .i64 fl] 76)
  clear hC hg
  go_enter Try.func54, Try.ntmps54
  go_upto_region 1 with (fail)
  generalize w.alloc (.cells #[.int .i64 (n : Int), .slice A1 l1.length c1, .slice A2 m2 c2, .int .i64 r, .int .i64 wr0, .int .i64 fl] 76) = w1 at HS0 ⊢
  generalize w.heap.size = gb at HS0 ⊢
  have hb0 : w1.cell? ⟨gb, 0, none⟩ = some (.int .i64 (n : Int)) := blk_cell HS0.out.cells.1 0
  go_upto_region 2 with (at_make; refine Kd.R_make KB (w0 := w1) w1.heap.size 28 rfl (N := 8) rfl 37 (.tmp 7) (.tmp 7) rfl (n : Int) rfl rfl Try.underlying37 (.slice none 0 0) 24 info28 rfl (by decide) (by decide) [] (ok := fun _ => True) (okp := fun _ => False) ⟨_, rfl, Kd.R_nil _ _ _ _ _⟩ (fun _ h => h.elim) trivial (by omega) (by omega) (Below.refl _ _) (Nat.le_refl _) ?_; intro vw w2 hr hb hg hat; have HR2 := Aside0.mk hr; have HB2 := Aside0.mk hb; clear hr hb hg hat)
  have h2_ := HS0.out.push_own HR2.out HB2.out
  rw [Int.toNat_natCast] at h2_
  obtain ⟨bw, cw, e2, _, _, _⟩ := Kd.R_form HR2.out (by rw [List.length_replicate]; omega)
  rw [List.length_replicate, Int.toNat_natCast] at e2
  subst e2
  have HS2 := Aside0.mk h2_
  clear h2_ HR2 HB2 HS0 hb0
  go_wp2
  go_loopg [4] n (fun kq v4 wr => ∃ i : Nat, v4 = .int .i64 i ∧ Aside0 (i + kq = n) ∧ Aside0 (Sep w wr [ownT KB 28 (.slice (some ⟨bw, 0, none⟩) n cw) (zl n i), cellsT gb #[.int .i64 (n : Int), .slice A1 l1.length c1, .slice A2 m2 c2, .int .i64 r, .int .i64 wr0, .int .i64 fl] 76]))
  case atStart => exact ⟨0, rfl, ⟨Nat.zero_add _⟩, HS2⟩
  case round =>
    clear HS2
    obtain ⟨i, rfl, HI0, HS⟩ := hrel
    rename World => wr
    have hb0 : wr.cell? ⟨gb, 0, none⟩ = some (.int .i64 (n : Int)) := blk_cell HS.out.up1.cells.1 0
    by_cases hi : i < n
    · have hib : decide (i < n) = true := decide_eq_true hi
      have hi0 : (0 : Int) ≤ (i : Int) := by omega
      have hi1 : (i : Int) < (n : Int) := by omega
      have HI := Aside0.mk hi
      clear hi
      go_wp2_with (go_at_call 64; (with_reducible refine (HZ.out _).mono ?_); rintro e w5 ⟨v5, rfl, hr, hb⟩; obtain ⟨A5, c5, e5⟩ := Kd.R_slice hr; subst e5; have HS5 := Aside0.mk (HS.out.push_own hr hb); obtain ⟨A_, c_, hsl, hfz, _⟩ := HS5.out.up1.slot i HI.out; clear hr hb)
      have HSn := Aside0.mk (show Sep w _ [ownT KB 28 (.slice (some ⟨bw, 0, none⟩) n cw) (zl n (i + 1)), cellsT gb #[.int .i64 (n : Int), .slice A1 l1.length c1, .slice A2 m2 c2, .int .i64 r, .int .i64 wr0, .int .i64 fl] 76] from HS5.out.put_row i HI.out)
      clear hsl hfz hb0 HS HS5
      go_roundg (n - i - 1)
      case measure => have := HI0.out; have := HI.out; omega
      case rel => exact ⟨i + 1, (by have hi_ := HI.out; have hl_ := hnm; first | rfl | (simp; done)), ⟨by have := HI0.out; have := HI.out; omega⟩, HSn⟩
    · have hib : decide (i < n) = false := decide_eq_false hi
      obtain rfl : n = i := by have := HI0.out; omega
      clear hi
      have HS3 := Aside0.mk (show Sep w wr [ownT KB 28 (.slice (some ⟨bw, 0, none⟩) n cw) (imL n l1 0), cellsT gb #[.int .i64 (n : Int), .slice A1 l1.length c1, .slice A2 m2 c2, .int .i64 r, .int .i64 wr0, .int .i64 fl] 76] from HS.out)
      clear HS
      go_wp2
      go_loopg [5] l1.length (fun kq v5 wr => ∃ j : Nat, v5 = .int .i64 j ∧ Aside0 (j + kq = l1.length) ∧ Aside0 (Sep w wr [ownT KB 28 (.slice (some ⟨bw, 0, none⟩) n cw) (imL n l1 j), cellsT gb #[.int .i64 (n : Int), .slice A1 l1.length c1, .slice A2 m2 c2, .int .i64 r, .int .i64 wr0, .int .i64 fl] 76]))
      case atStart => exact ⟨0, rfl, ⟨Nat.zero_add _⟩, HS3⟩
      case round =>
        clear HS3 hb0 hib
        obtain ⟨j, rfl, HJ0, HS⟩ := hrel
        rename World => wr
        have hb1 : wr.cell? ⟨gb, 1, none⟩ = some (.slice A1 l1.length c1) := blk_cell HS.out.up1.cells.1 1
        by_cases hj : j < l1.length
        · have hjb : decide (j < l1.length) = true := decide_eq_true hj
          have hj0 : (0 : Int) ≤ (j : Int) := by omega
          have hj1 : (j : Int) < (l1.length : Int) := by omega
          obtain ⟨⟨i, hi, hf0⟩, hf1⟩ := HG.out j hj
          obtain ⟨ad, A7, c7, e1, hx0, hx1, hl7, hC7⟩ := at_T106 (Kd.C_below HC.out HS.out.below) (j : Int) hj0 hj1
          subst e1
          rw [hf0] at hx0
          rw [Int.toNat_natCast] at hx0 hx1
          have HK := Aside0.mk (fun W (hW : Below wr.heap.size wr W) => (show W.cell? ⟨gb, 1, none⟩ = some (.slice (some ad) l1.length c1) ∧ W.cell? (ad.add (j * 2)) = some (.int .i64 (i : Int)) ∧ W.cell? ⟨(ad.add (j * 2)).block, (ad.add (j * 2)).off + 1, none⟩ = some (.slice A7 (rd_T106 l1 (j : Int)).f1.length c7) from
            ⟨(hW.cell (World.block_lt_of_cell? wr _ hb1)).trans hb1, (hW.cell (World.block_lt_of_cell? wr _ hx0)).trans hx0, (hW.cell (World.block_lt_of_cell? wr _ hx1)).trans hx1⟩))
          have HCP := Aside0.mk (fun W (hW : Below wr.heap.size wr W) => kilnref3_Copy.calls A7 c7 (rd_T106 l1 (j : Int)).f1 _ W (Kd.C_below hC7 hW) hl7 (show kilnref3_Copy.f _ = some (rd_T106 l1 (j : Int)).f1 from if_pos (by omega)))
          have HF0 := Aside0.mk (show (rd_T106 l1 (j : Int)).f0.toNat = i from by rw [hf0]; rfl)
          have HI := Aside0.mk hi
          have hi0 : (0 : Int) ≤ (i : Int) := by omega
          have hi1 : (i : Int) < (n : Int) := by omega
          have HJ := Aside0.mk hj
          clear hj hi hf0 hx0 hx1 hl7 hC7
          go_upto_region 9 with (fail)
          have HB := Aside0.mk (below_drew1 (Below.refl wr.heap.size wr))
          refine start_ (n := 16) (S := fun W => W.cell? ⟨gb, 1, none⟩ = some (.slice (some ad) l1.length c1) ∧ W.cell? (ad.add (j * 2)) = some (.int .i64 (i : Int)) ∧ W.cell? ⟨(ad.add (j * 2)).block, (ad.add (j * 2)).off + 1, none⟩ = some (.slice A7 (rd_T106 l1 (j : Int)).f1.length c7)) (ds := [15]) (bb 16 0) (by kernel_rfl) rfl rfl (HK.out _ HB.out) (fun hHeld => ?_); refine with_tabW rimg9_tab rimg9_bits (fun HT_ HW_ => ?_)
          generalize wr.drew = wd at hHeld HB ⊢
          refine pure_ (i := 0) (N := (some 26)) (v := ?_) (a' := ?_) (bb 16 1) rfl rfl (any_of HT_.out (by kernel_rfl)) (fun _ _ _ h => h) (Or.inl ⟨by rfl, ?_⟩) ?_ ?_
          rotate_left
          · intro w'
            go_simp
            with_reducible rfl
          rotate_left
          · simp only [Act.put, List.setIfInBounds_toArray, List.set_cons_zero, List.set_cons_succ, i64_w, i32_w]
            rfl
          refine pure_ (i := 1) (N := (some 27)) (v := ?_) (a' := ?_) (bb 16 3) rfl rfl (any_of HT_.out (by kernel_rfl)) (fun _ _ _ h => h) (Or.inl ⟨by rfl, ?_⟩) ?_ ?_
          rotate_left
          · intro w'
            go_simp
            with_reducible rfl
          rotate_left
          · simp only [Act.put, List.setIfInBounds_toArray, List.set_cons_zero, List.set_cons_succ, i64_w, i32_w]
            rfl
          refine take_ (i := 2) (N := (some 28)) (v := ?_) (a' := ?_) (bb 16 7) rfl rfl (take_ofW HT_.out HW_.out (by kernel_rfl)) (fun _ _ _ h => h) (Or.inl ⟨by rfl, ?_⟩) hHeld ?_ ?_
          rotate_left
          · intro w' s0
            (try dsimp only at s0)
            go_simp
            with_reducible rfl
          rotate_left
          · simp only [Act.put, List.setIfInBounds_toArray, List.set_cons_zero, List.set_cons_succ, i64_w, i32_w]
            rfl
          refine pure_ (i := 3) (N := (some 29)) (v := ?_) (a' := ?_) (bb 16 15) rfl rfl (any_of HT_.out (by kernel_rfl)) (fun _ _ _ h => h) (Or.inl ⟨by rfl, ?_⟩) ?_ ?_
          rotate_left
          · intro w'
            go_simp
            with_reducible rfl
          rotate_left
          · simp only [Act.put, List.setIfInBounds_toArray, List.set_cons_zero, List.set_cons_succ, i64_w, i32_w]
            rfl
          refine pure_ (i := 4) (N := (some 30)) (v := ?_) (a' := ?_) (bb 16 31) rfl rfl (any_of HT_.out (by kernel_rfl)) (fun _ _ _ h => h) (Or.inl ⟨by rfl, ?_⟩) ?_ ?_
          rotate_left
          · intro w'
            go_simp
            with_reducible rfl
          rotate_left
          · simp only [Act.put, List.setIfInBounds_toArray, List.set_cons_zero, List.set_cons_succ, i64_w, i32_w]
            rfl
          refine pure_ (i := 5) (N := (some 31)) (v := ?_) (a' := ?_) (bb 16 63) rfl rfl (any_of HT_.out (by kernel_rfl)) (fun _ _ _ h => h) (Or.inl ⟨by rfl, ?_⟩) ?_ ?_
          rotate_left
          · intro w'
            go_simp
            with_reducible rfl
          rotate_left
          · simp only [Act.put, List.setIfInBounds_toArray, List.set_cons_zero, List.set_cons_succ, i64_w, i32_w]
            rfl
          refine take_ (i := 6) (N := (some 32)) (v := ?_) (a' := ?_) (bb 16 127) rfl rfl (take_ofW HT_.out HW_.out (by kernel_rfl)) (fun _ _ _ h => h) (Or.inl ⟨by rfl, ?_⟩) hHeld ?_ ?_
          rotate_left
          · intro w' s0
            (try dsimp only at s0)
            go_simp
            with_reducible rfl
          rotate_left
          · simp only [Act.put, List.setIfInBounds_toArray, List.set_cons_zero, List.set_cons_succ, i64_w, i32_w]
            rfl
          refine pure_ (i := 7) (N := (some 33)) (v := ?_) (a' := ?_) (bb 16 255) rfl rfl (any_of HT_.out (by kernel_rfl)) (fun _ _ _ h => h) (Or.inl ⟨by rfl, ?_⟩) ?_ ?_
          rotate_left
          · intro w'
            go_simp
            with_reducible rfl
          rotate_left
          · simp only [Act.put, List.setIfInBounds_toArray, List.set_cons_zero, List.set_cons_succ, i64_w, i32_w]
            rfl
          refine take_ (i := 8) (N := (some 34)) (v := ?_) (a' := ?_) (bb 16 511) rfl rfl (take_ofW HT_.out HW_.out (by kernel_rfl)) (fun _ _ _ h => h) (Or.inl ⟨by rfl, ?_⟩) hHeld ?_ ?_
          rotate_left
          · intro w' s0
            (try dsimp only at s0)
            go_simp
            with_reducible rfl
          rotate_left
          · simp only [Act.put, List.setIfInBounds_toArray, List.set_cons_zero, List.set_cons_succ, i64_w, i32_w]
            rfl
          refine pure_ (i := 9) (N := (some 35)) (v := ?_) (a' := ?_) (bb 16 1023) rfl rfl (any_of HT_.out (by kernel_rfl)) (fun _ _ _ h => h) (Or.inl ⟨by rfl, ?_⟩) ?_ ?_
          rotate_left
          · intro w'
            go_simp
            with_reducible rfl
          rotate_left
          · simp only [Act.put, List.setIfInBounds_toArray, List.set_cons_zero, List.set_cons_succ, i64_w, i32_w]
            rfl
          refine pure_ (i := 10) (N := (some 36)) (v := ?_) (a' := ?_) (bb 16 2047) rfl rfl (any_of HT_.out (by kernel_rfl)) (fun _ _ _ h => h) (Or.inl ⟨by rfl, ?_⟩) ?_ ?_
          rotate_left
          · intro w'
            go_simp
            with_reducible rfl
          rotate_left
          · simp only [Act.put, List.setIfInBounds_toArray, List.set_cons_zero, List.set_cons_succ, i64_w, i32_w]
            rfl
          refine pure_ (i := 11) (N := (some 37)) (v := ?_) (a' := ?_) (bb 16 4095) rfl rfl (any_of HT_.out (by kernel_rfl)) (fun _ _ _ h => h) (Or.inl ⟨by rfl, ?_⟩) ?_ ?_
          rotate_left
          · intro w'
            go_simp
            with_reducible rfl
          rotate_left
          · simp only [Act.put, List.setIfInBounds_toArray, List.set_cons_zero, List.set_cons_succ, i64_w, i32_w]
            rfl
          refine take_ (i := 12) (N := (some 38)) (v := ?_) (a' := ?_) (bb 16 8191) rfl rfl (take_ofW HT_.out HW_.out (by kernel_rfl)) (fun _ _ _ h => h) (Or.inl ⟨by rfl, ?_⟩) hHeld ?_ ?_
          rotate_left
          · intro w' s0
            (try dsimp only at s0)
            go_simp
            with_reducible rfl
          rotate_left
          · simp only [Act.put, List.setIfInBounds_toArray, List.set_cons_zero, List.set_cons_succ, i64_w, i32_w]
            rfl
          refine one_ (i := 13) (N := (some 39)) (bb 16 16383) rfl rfl (one_of HT_.out (by kernel_rfl)) (by decide) (fun K hK => ?_)
          refine goes_ Try.func55 (by kernel_rfl) rfl #[.slice A7 (rd_T106 l1 (j : Int)).f1.length c7] (by rfl) rfl rfl (by (try simp only [List.map_toArray, List.map_cons, List.map_nil]); first | done | rfl) ?_
          with_reducible refine (HCP.out _ HB.out).mono ?_
          rintro e w6 ⟨v6, rfl, hr, hb⟩
          obtain ⟨A6, c6, e6⟩ := Kd.R_slice hr
          subst e6
          have HB6 := Aside0.mk (show Below wr.heap.size wr w6 from below_step HB.out hb)
          have HS6 := Aside0.mk ((HS.out.step HB.out).push_own hr hb)
          obtain ⟨A_, c_, hsl, hfz, _⟩ := HS6.out.up1.slot i HI.out
          clear hr hb
          refine ⟨_, rfl, ?_⟩
          refine hK.out _ _ (HK.out _ HB6.out) (fun hHeld => ?_)
          clear hK K
          refine norm_ (a' := ?_) ?_ ?_
          rotate_left
          · show Act.put _ (some 39) _ = _
            simp only [Act.put, List.setIfInBounds_toArray, List.set_cons_zero, List.set_cons_succ, i64_w, i32_w]
            rfl
          refine pure_ (i := 14) (N := (some 40)) (v := ?_) (a' := ?_) (bb 16 32767) rfl rfl (any_of HT_.out (by kernel_rfl)) (fun _ _ _ h => h) (Or.inl ⟨by rfl, ?_⟩) ?_ ?_
          rotate_left
          · intro w'
            go_simp
            with_reducible rfl
          rotate_left
          · simp only [Act.put, List.setIfInBounds_toArray, List.set_cons_zero, List.set_cons_succ, i64_w, i32_w]
            rfl
          refine last_ (i := 15) (N := none) (bb 16 65535) rfl rfl (one_of HT_.out (by kernel_rfl)) (by decide) (fun K hK => ?_)
          refine skip_ (w1 := ?_) (by rfl) rfl ?_ ?_
          rotate_left
          · go_simp
            first | rfl | (constructor <;> rfl)
          refine hK.out _ _ ?_
          clear hK K
          refine done_ (done_of HT_.out (by kernel_rfl)) ?_
          have HSn := Aside0.mk (show Sep w _ [ownT KB 28 (.slice (some ⟨bw, 0, none⟩) n cw) (imL n l1 (j + 1)), cellsT gb #[.int .i64 (n : Int), .slice (some ad) l1.length c1, .slice A2 m2 c2, .int .i64 r, .int .i64 wr0, .int .i64 fl] 76] from by
            unfold imL
            rw [HF0.out]
            exact HS6.out.put_row i HI.out)
          clear hHeld HB HB6 HK HCP HS HS6 hsl hfz hb1
          go_wp2
          go_roundg (l1.length - j - 1)
          case measure => have := HJ0.out; have := HJ.out; omega
          case rel => exact ⟨j + 1, (by have hi_ := HJ.out; have hl_ := hl; first | rfl | (simp; done)), ⟨by have := HJ0.out; have := HJ.out; omega⟩, HSn⟩
        · have hjb : decide (j < l1.length) = false := decide_eq_false hj
          obtain rfl : j = l1.length := by have := HJ0.out; omega
          clear hj
          go_wp2
          go_ret
          exact ⟨bw, cw, rfl, HS.out.sel 2 [0] _ rfl (by decide) rfl⟩
end Go.Proofs.Ytddnhcnkjcdfgaa.M

namespace Go.Proofs.Ytddnhcnkjcdfgaa.M
open Go.RowKit Go.Maps Go.Proofs.YtddnhcnkjcdfgaaW.PrintWords Go.Proofs.YtddnhcnkjcdfgaaW.PrintLast Go.Proofs.YtddnhcnkjcdfgaaW.PrintMore
open Go.Proofs.Ytddnhcnkjcdfgaa.P
set_option linter.unusedVariables false
set_option linter.unusedSimpArgs false
def Byt (l : List Int) : Prop := ∀ b ∈ l, 0 ≤ b ∧ b < 256
theorem Byt.get {l : List Int} (h : Byt l) (q : Nat) : 0 ≤ l.getD q 0 ∧ l.getD q 0 < 256 := by
  rw [List.getD_eq_getElem?_getD]
  by_cases e : q < l.length
  · rw [List.getElem?_eq_getElem e]; exact h _ (List.getElem_mem e)
  · rw [List.getElem?_eq_none (by omega)]; decide
theorem Byt.set {l : List Int} (h : Byt l) (q : Nat) (v : Int) (hv : 0 ≤ v ∧ v < 256) : Byt (l.set q v) := by
  intro b hb
  rcases List.mem_or_eq_of_mem_set hb with e | e
  · exact h b e
  · rw [e]; exact hv
theorem byt_zeros : Byt zeros := fun b hb => by rw [List.eq_of_mem_replicate hb]; decide
def BytS (l : List S30) : Prop := ∀ x ∈ l, Byt x.f1
theorem BytS.get {l : List S30} (h : BytS l) (j : Nat) (hj : j < l.length) : Byt (rd_T30 l (j : Int)).f1 := by
  unfold rd_T30
  rw [Int.toNat_natCast, List.getD_eq_getElem?_getD, List.getElem?_eq_getElem hj]
  exact h _ (List.getElem_mem hj)
def Sec (l : List Int) : Prop := l.length = 512 ∧ Byt l
structure DOk (s : DS) : Prop where
  len : s.L.length = s.n
  L : ∀ x ∈ s.L, Sec x
  W : ∀ i, i < s.n → ∀ x ∈ s.W i, Sec x
theorem DOk.getL {s : DS} (h : DOk s) (i : Nat) (hi : i < s.n) : Sec (s.L.getD i []) := by
  rw [List.getD_eq_getElem?_getD, List.getElem?_eq_getElem (by rw [h.len]; exact hi)]
  exact h.L _ (List.getElem_mem _)
theorem DOk.cur {s : DS} (h : DOk s) (i : Nat) (hi : i < s.n) : Sec (s.cur i) := by
  by_cases e : s.W i = []
  · rw [cur_nil e]; exact h.getL i hi
  · rw [cur_last e, List.getD_eq_getElem?_getD, List.getElem?_eq_getElem (by have := List.length_pos_iff.2 e; omega)]
    exact h.W i hi _ (List.getElem_mem _)
theorem DOk.fresh (n : Nat) : DOk (DS.fresh n (List.replicate n zeros)) :=
  ⟨List.length_replicate, fun x hx => by rw [List.eq_of_mem_replicate hx]; exact ⟨zeros_len, byt_zeros⟩, fun i _ x hx => by cases hx⟩
theorem DOk.put {s : DS} (h : DOk s) (i : Nat) (b : List Int) (hb : Sec b) : DOk (s.put i b) :=
  ⟨h.len, h.L, fun j hj x hx => by
    have hx : x ∈ (if j = i then s.W i ++ [b] else s.W j) := hx
    split at hx
    · rename_i e
      rcases List.mem_append.1 hx with h1 | h1
      · rw [← e] at h1; exact h.W j hj x h1
      · rw [List.mem_singleton.1 h1]; exact hb
    · exact h.W j hj x hx⟩
theorem DOk.flush {s : DS} (h : DOk s) : DOk s.flush :=
  ⟨by show ((List.range s.n).map s.cur).length = s.n; rw [List.length_map, List.length_range], fun x hx => by
    obtain ⟨i, hi, rfl⟩ := List.mem_map.1 (show x ∈ (List.range s.n).map s.cur from hx)
    exact h.cur i (List.mem_range.1 hi), fun i _ x hx => by cases hx⟩
theorem getD_set_at (l : List (List Int)) (i : Nat) (v : List Int) (h : i < l.length) : (l.set i v).getD i [] = v := by rw [List.getD_eq_getElem?_getD, List.getElem?_set_self h, Option.getD_some]
theorem same_l0 (l : List (List Int)) (hl : l.length ≤ 1000000) : ∀ m j, j + m = l.length → R.kilnref3_SameImage.l0 (m + 1) l l (j : Int) = some true
  | 0, j, h => by
    unfold R.kilnref3_SameImage.l0
    rw [if_neg (by omega)]
  | m + 1, j, h => by
    unfold R.kilnref3_SameImage.l0
    rw [if_pos (by omega), if_pos (by omega), if_pos (by omega), if_pos rfl, w64 _ (by omega) (by omega)]
    exact same_l0 l hl m (j + 1) (by omega)
theorem same_ok (l : List (List Int)) (hl : l.length ≤ 1000000) : R.kilnref3_SameImage.f (l.length + 1) l l = some true := by
  unfold R.kilnref3_SameImage.f
  rw [if_pos rfl]
  exact same_l0 l hl l.length 0 (by omega)
def BytW (l : List S30) : Prop := ∀ x ∈ l, ∀ b ∈ x.f1, (Lit.int .u8 b).wf = true
theorem BytW.S {l : List S30} (h : BytW l) : BytS l := fun x hx b hb => by
  have h1 := (Lit.wf_int_iff .u8 b).1 (h x hx b hb)
  have h2 : IntKind.min .u8 = 0 := rfl
  have h3 : IntKind.max .u8 = 255 := rfl
  rw [h2, h3] at h1
  omega
end Go.Proofs.Ytddnhcnkjcdfgaa.M
namespace Go.Proofs.Ytddnhcnkjcdfgaa.Bulk
open Go.ChangeShapes Go.WideShapes Go.Proofs.YtddnhcnkjcdfgaaW.PrintWords Go.Proofs.Ytddnhcnkjcdfgaa.M
section
variable {H : Type} {enc : TypeId × Value → H} {W : World} {base : Nat} {spare : Nat → Bool} {held : Bool}
end
end Go.Proofs.Ytddnhcnkjcdfgaa.Bulk

namespace Go.Proofs.Ytddnhcnkjcdfgaa.M
open Go.RowKit Go.Maps Go.Proofs.YtddnhcnkjcdfgaaW.PrintWords Go.Proofs.YtddnhcnkjcdfgaaW.PrintLast Go.Proofs.YtddnhcnkjcdfgaaW.PrintMore
open Go.Proofs.Ytddnhcnkjcdfgaa.P hiding S106 k106 rd_T106 at_T106
open Go.Proofs.Ytddnhcnkjcdfgaa.R
set_option linter.unusedVariables false
set_option linter.unusedSimpArgs false
theorem rd106 (l : List S106) (j : Nat) (h : j < l.length) : rd_T106 l (j : Int) = l[j] := by
  unfold rd_T106
  rw [Int.toNat_natCast, List.getD_eq_getElem?_getD, List.getElem?_eq_getElem h]
  rfl
def wOf (l : List S106) (n : Int) : List (List Int) := (l.filter (fun x => decide (x.f0 = n))).map (·.f1)
theorem wOf_snoc (l : List S106) (x : S106) (n : Int) : wOf (l ++ [x]) n = if x.f0 = n then wOf l n ++ [x.f1] else wOf l n := by
  unfold wOf
  rw [List.filter_append, List.map_append, List.filter_cons]
  by_cases e : x.f0 = n
  · rw [if_pos (by simpa using e), if_pos e]; rfl
  · rw [if_neg (by simpa using e), if_neg e]; simp
def lastR (l : List S106) (n : Int) : List Int := match (wOf l n).getLast? with | some b => b | none => zeros
theorem lastR_snoc (l : List S106) (x : S106) (n : Int) : lastR (l ++ [x]) n = if x.f0 = n then x.f1 else lastR l n := by
  unfold lastR
  rw [wOf_snoc]
  by_cases e : x.f0 = n
  · rw [if_pos e, if_pos e, List.getLast?_concat]
  · rw [if_neg e, if_neg e]
theorem wOf_filter (l : List S106) (a n : Int) (h : n ≠ a) : wOf (l.filter (fun x => decide (x.f0 ≠ a))) n = wOf l n := by
  unfold wOf
  rw [List.filter_filter]
  congr 1
  apply List.filter_congr
  intro x _
  by_cases e : x.f0 = n
  · rw [decide_eq_true e, decide_eq_true (show x.f0 ≠ a from fun e2 => h (e.symm.trans e2))]
    rfl
  · rw [decide_eq_false e, Bool.false_and]
theorem lastR_filter (l : List S106) (a n : Int) (h : n ≠ a) : lastR (l.filter (fun x => decide (x.f0 ≠ a))) n = lastR l n := by
  unfold lastR
  rw [wOf_filter l a n h]
def putR (l : List S106) (n : Int) (b : List Int) : List S106 := l.filter (fun x => decide (x.f0 ≠ n)) ++ [⟨n, b⟩]
theorem lastR_put (l : List S106) (a : Int) (b : List Int) (n : Int) : lastR (putR l a b) n = if a = n then b else lastR l n := by
  unfold putR
  rw [lastR_snoc]
  by_cases e : a = n
  · rw [if_pos e, if_pos e]
  · rw [if_neg e, if_neg e, lastR_filter l a n (fun h => e h.symm)]
theorem take_succ106 (l : List S106) (j : Nat) (h : j < l.length) : l.take (j + 1) = l.take j ++ [l[j]] := List.take_succ_eq_append_getElem h
theorem lasts_l0 (l l2 : List S106) (n a r wr fl : Int) (hl : l.length ≤ 1000000) : ∀ m, m ≤ l.length → ∀ d, kilnref3_lasts.l0 (m + 1 + d) n ((m : Int) - 1) a l l2 r wr fl = some (lastR (l.take m) n)
  | 0, h, d => by
    rw [show 0 + 1 + d = d + 1 by omega]
    unfold kilnref3_lasts.l0
    rw [if_neg (by omega)]
    show (kilnref3_Zeros.f).bind _ = _
    rw [show kilnref3_Zeros.f = some zeros from if_pos (by decide)]
    rfl
  | m + 1, h, d => by
    have ih := lasts_l0 l l2 n a r wr fl hl m (by omega) d
    rw [show m + 1 + 1 + d = (m + 1 + d) + 1 by omega, take_succ106 l m (by omega), lastR_snoc]
    unfold kilnref3_lasts.l0
    rw [show ((m + 1 : Nat) : Int) - 1 = (m : Int) by omega, if_pos (by omega), if_pos (by omega), if_pos (by omega), rd106 l m (by omega)]
    by_cases e : l[m].f0 = n
    · rw [if_pos e, if_pos e]
    · rw [if_neg e, if_neg e, w64 _ (by omega) (by omega)]
      exact ih
theorem lasts_ev (l l2 : List S106) (n a r wr fl : Int) (hl : l.length ≤ 1000000) : ∀ k, l.length + 1 ≤ k → kilnref3_lasts.f k a l l2 r wr fl n = some (lastR l n) := fun k hk => by
  have h := lasts_l0 l l2 n a r wr fl hl l.length (Nat.le_refl _) (k - (l.length + 1))
  rw [show l.length + 1 + (k - (l.length + 1)) = k by omega, List.take_length] at h
  unfold kilnref3_lasts.f
  rw [w64 _ (by omega) (by omega)]
  exact h
def nowR (l1 l2 : List S106) (n : Int) : List Int := match (wOf l2 n).getLast? with | some b => b | none => lastR l1 n
theorem nowR_snoc (l1 l : List S106) (x : S106) (n : Int) : nowR l1 (l ++ [x]) n = if x.f0 = n then x.f1 else nowR l1 l n := by
  unfold nowR
  rw [wOf_snoc]
  by_cases e : x.f0 = n
  · rw [if_pos e, if_pos e, List.getLast?_concat]
  · rw [if_neg e, if_neg e]
def Sho (l : List S106) : Prop := ∀ x ∈ l, x.f1.length ≤ 1000000
theorem copy_ok (b : List Int) (h : b.length ≤ 1000000) : kilnref3_Copy.f b = some b := if_pos (by omega)
theorem now_l0 (l1 l2 : List S106) (n a r wr fl : Int) (h1 : l1.length ≤ 1000000) (h2 : l2.length ≤ 1000000) (hs : Sho l2) (hz : (lastR l1 n).length ≤ 1000000) : ∀ m, m ≤ l2.length → ∀ d, l1.length ≤ d → kilnref3_Now.l0 (m + 1 + (d + 1)) n ((m : Int) - 1) a l1 l2 r wr fl = some (nowR l1 (l2.take m) n)
  | 0, h, d, hd => by
    rw [show 0 + 1 + (d + 1) = (d + 1) + 1 by omega]
    unfold kilnref3_Now.l0
    rw [if_neg (by omega), lasts_ev l1 l2 n a r wr fl h1 (d + 1) (by omega), Option.bind_some, copy_ok _ hz]
    rfl
  | m + 1, h, d, hd => by
    have ih := now_l0 l1 l2 n a r wr fl h1 h2 hs hz m (by omega) d hd
    rw [show m + 1 + 1 + (d + 1) = (m + 1 + (d + 1)) + 1 by omega, take_succ106 l2 m (by omega), nowR_snoc]
    unfold kilnref3_Now.l0
    rw [show ((m + 1 : Nat) : Int) - 1 = (m : Int) by omega, if_pos (by omega), if_pos (by omega), if_pos (by omega), rd106 l2 m (by omega)]
    by_cases e : l2[m].f0 = n
    · rw [if_pos e, if_pos e, copy_ok _ (hs _ (List.getElem_mem _))]
      rfl
    · rw [if_neg e, if_neg e, w64 _ (by omega) (by omega)]
      exact ih
theorem now_ev (l1 l2 : List S106) (n a r wr fl : Int) (h1 : l1.length ≤ 1000000) (h2 : l2.length ≤ 1000000) (hs : Sho l2) (hz : (lastR l1 n).length ≤ 1000000) : ∀ k, l1.length + l2.length + 2 ≤ k → kilnref3_Now.f k a l1 l2 r wr fl n = some (nowR l1 l2 n) := fun k hk => by
  have h := now_l0 l1 l2 n a r wr fl h1 h2 hs hz l2.length (Nat.le_refl _) (k - (l2.length + 2)) (by omega)
  rw [show l2.length + 1 + (k - (l2.length + 2) + 1) = k by omega, List.take_length] at h
  unfold kilnref3_Now.f
  rw [w64 _ (by omega) (by omega)]
  exact h
end Go.Proofs.Ytddnhcnkjcdfgaa.M

namespace Go.Proofs.Ytddnhcnkjcdfgaa.M
open Go.RowKit Go.Maps Go.Proofs.YtddnhcnkjcdfgaaW.PrintWords Go.Proofs.YtddnhcnkjcdfgaaW.PrintLast Go.Proofs.YtddnhcnkjcdfgaaW.PrintMore
open Go.Proofs.Ytddnhcnkjcdfgaa.P hiding S106 k106 rd_T106 at_T106
open Go.Proofs.Ytddnhcnkjcdfgaa.R
set_option linter.unusedVariables false
set_option linter.unusedSimpArgs false
theorem read_ev (l1 l2 : List S106) (n i : Nat) (hi : i < n) (r wr fl : Int) (h1 : l1.length ≤ 1000000) (h2 : l2.length ≤ 1000000) (hs : Sho l2) (hz : (lastR l1 (i : Int)).length ≤ 1000000) : ∀ k, l1.length + l2.length + 2 ≤ k → kilnref3_Read.f k (n : Int) l1 l2 r wr fl (i : Int) = some ((n : Int), l1, l2, wrap64 (r + 1), wr, fl, nowR l1 l2 (i : Int), 0) := fun k hk => by
  unfold kilnref3_Read.f
  rw [if_neg (by omega), if_neg (by omega), now_ev l1 l2 (i : Int) (n : Int) _ wr fl h1 h2 hs hz k hk]
  rfl
theorem read_no (l1 l2 : List S106) (n : Nat) (a r wr fl : Int) (ha : ¬ (0 ≤ a ∧ a < (n : Int))) (k : Nat) : kilnref3_Read.f k (n : Int) l1 l2 r wr fl a = some ((n : Int), l1, l2, r, wr, fl, [], 31) := by
  unfold kilnref3_Read.f
  by_cases h : a < 0
  · rw [if_pos h]
  · rw [if_neg h, if_pos (by omega)]
def flushR (l1 : List S106) : List S106 → List S106 := fun l2 => l2.foldl (fun l x => putR l x.f0 x.f1) l1
theorem flushR_snoc (l1 l : List S106) (x : S106) : flushR l1 (l ++ [x]) = putR (flushR l1 l) x.f0 x.f1 := by unfold flushR; rw [List.foldl_append]; rfl
theorem lastR_flush (l1 : List S106) (n : Int) (l2 : List S106) : ∀ m, m ≤ l2.length → lastR (flushR l1 (l2.take m)) n = nowR l1 (l2.take m) n
  | 0, _ => rfl
  | m + 1, h => by
    rw [take_succ106 l2 m (by omega), flushR_snoc, lastR_put, nowR_snoc, lastR_flush l1 n l2 m (by omega)]
end Go.Proofs.Ytddnhcnkjcdfgaa.M

namespace Go.Proofs.Ytddnhcnkjcdfgaa.M
open Go.RowKit Go.Maps Go.Proofs.YtddnhcnkjcdfgaaW.PrintWords Go.Proofs.YtddnhcnkjcdfgaaW.PrintLast Go.Proofs.YtddnhcnkjcdfgaaW.PrintMore
open Go.Proofs.Ytddnhcnkjcdfgaa.P hiding S106 k106 rd_T106 at_T106
open Go.Proofs.Ytddnhcnkjcdfgaa.R
set_option linter.unusedVariables false
set_option linter.unusedSimpArgs false
def Ent (n : Nat) (x : S106) : Prop := (∃ i : Nat, i < n ∧ x.f0 = (i : Int)) ∧ x.f1.length = 512
structure Rl (s : DS) (l1 l2 : List S106) : Prop where
  len : s.L.length = s.n
  e1 : ∀ x ∈ l1, Ent s.n x
  e2 : ∀ x ∈ l2, Ent s.n x
  hL : ∀ i, i < s.n → lastR l1 (i : Int) = s.L.getD i []
  hW : ∀ i, i < s.n → wOf l2 (i : Int) = s.W i
theorem mem_wOf {l : List S106} {n : Int} {b : List Int} (h : b ∈ wOf l n) : ∃ x ∈ l, x.f0 = n ∧ x.f1 = b := by
  unfold wOf at h
  obtain ⟨x, hx, rfl⟩ := List.mem_map.1 h
  obtain ⟨h1, h2⟩ := List.mem_filter.1 hx
  exact ⟨x, h1, by simpa using h2, rfl⟩
theorem lastR_len {l : List S106} {n : Nat} (h : ∀ x ∈ l, Ent n x) (a : Int) : (lastR l a).length = 512 := by
  unfold lastR
  cases e : (wOf l a).getLast? with
  | none => exact zeros_len
  | some b =>
    obtain ⟨x, hx, _, rfl⟩ := mem_wOf (List.mem_of_getLast? e)
    exact (h x hx).2
theorem putR_ent' {l : List S106} {n : Nat} (h : ∀ x ∈ l, Ent n x) (y : S106) (hy : Ent n y) : ∀ x ∈ putR l y.f0 y.f1, Ent n x := by
  intro x hx
  unfold putR at hx
  rcases List.mem_append.1 hx with hx | hx
  · exact h x (List.mem_filter.1 hx).1
  · rw [List.mem_singleton.1 hx]; exact hy
variable {s : DS} {l1 l2 : List S106}
theorem Rl.now (h : Rl s l1 l2) (i : Nat) (hi : i < s.n) : nowR l1 l2 (i : Int) = s.cur i := by
  unfold nowR DS.cur
  rw [h.hW i hi]
  cases (s.W i).getLast? with
  | none => exact h.hL i hi
  | some b => rfl
theorem Rl.sho (h : Rl s l1 l2) : Sho l2 := fun x hx => by rw [(h.e2 x hx).2]; decide
theorem Rl.reads (h : Rl s l1 l2) : Rl s.reads l1 l2 := ⟨h.len, h.e1, h.e2, h.hL, h.hW⟩
theorem Rl.put (h : Rl s l1 l2) (i : Nat) (hi : i < s.n) (b : List Int) (hb : b.length = 512) : Rl (s.put i b) l1 (l2 ++ [⟨(i : Int), b⟩]) :=
  ⟨h.len, h.e1, fun x hx => by
    rcases List.mem_append.1 hx with hx | hx
    · exact h.e2 x hx
    · rw [List.mem_singleton.1 hx]; exact ⟨⟨i, hi, rfl⟩, hb⟩, h.hL, fun j hj => by
    rw [wOf_snoc, h.hW j hj]
    show (if (i : Int) = (j : Int) then s.W j ++ [b] else s.W j) = (if j = i then s.W i ++ [b] else s.W j)
    by_cases e : j = i
    · subst e; rw [if_pos rfl, if_pos rfl]
    · rw [if_neg (by omega), if_neg e]⟩
theorem flushR_ent {n : Nat} : ∀ (l2 l1 : List S106), (∀ x ∈ l1, Ent n x) → (∀ x ∈ l2, Ent n x) → ∀ x ∈ flushR l1 l2, Ent n x
  | [], l1, h1, _ => h1
  | y :: l2, l1, h1, h2 => flushR_ent l2 (putR l1 y.f0 y.f1) (putR_ent' h1 y (h2 y List.mem_cons_self)) (fun x hx => h2 x (List.mem_cons_of_mem _ hx))
theorem Rl.flush (h : Rl s l1 l2) : Rl s.flush (flushR l1 l2) [] :=
  ⟨by show ((List.range s.n).map s.cur).length = s.n; rw [List.length_map, List.length_range], flushR_ent l2 l1 h.e1 h.e2, fun x hx => (by cases hx), fun i hi => by
    have h1 := lastR_flush l1 (i : Int) l2 l2.length (Nat.le_refl _)
    rw [List.take_length, h.now i hi] at h1
    rw [h1]
    show _ = ((List.range s.n).map s.cur).getD i []
    rw [List.getD_eq_getElem?_getD, List.getElem?_map, List.getElem?_range (show i < s.n from hi)]
    rfl, fun i hi => rfl⟩
theorem zl_get (n : Nat) : ∀ m, m ≤ n → (zl n m).length = n ∧ ∀ i, i < m → (zl n m).getD i [] = zeros
  | 0, _ => ⟨List.length_replicate, fun i hi => absurd hi (Nat.not_lt_zero _)⟩
  | m + 1, hm => by
    obtain ⟨h1, h2⟩ := zl_get n m (by omega)
    unfold zl
    refine ⟨by rw [List.length_set, h1], fun i hi => ?_⟩
    by_cases e : m = i
    · subst e
      exact getD_set_at _ _ _ (by rw [h1]; omega)
    · rw [List.getD_eq_getElem?_getD, List.getElem?_set_ne e, ← List.getD_eq_getElem?_getD]
      exact h2 i (by omega)
theorem imL_get (n : Nat) (l : List S106) (hl : ∀ x ∈ l, Ent n x) : ∀ j, j ≤ l.length → (imL n l j).length = n ∧ ∀ i, i < n → (imL n l j).getD i [] = lastR (l.take j) (i : Int)
  | 0, _ => ⟨(zl_get n n (Nat.le_refl _)).1, (zl_get n n (Nat.le_refl _)).2⟩
  | j + 1, hj => by
    obtain ⟨h1, h2⟩ := imL_get n l hl j (by omega)
    obtain ⟨⟨q, hq, e⟩, _⟩ := hl l[j] (List.getElem_mem _)
    rw [imL.eq_2, rd106 l j (by omega), take_succ106 l j (by omega), e, Int.toNat_natCast]
    refine ⟨by rw [List.length_set, h1], fun i hi => ?_⟩
    rw [lastR_snoc, e]
    by_cases e2 : q = i
    · subst e2
      rw [if_pos rfl, getD_set_at _ _ _ (by rw [h1]; exact hi)]
    · rw [if_neg (by omega), List.getD_eq_getElem?_getD, List.getElem?_set_ne e2, ← List.getD_eq_getElem?_getD]
      exact h2 i hi
theorem ext_getD (a b : List (List Int)) (h : a.length = b.length) (h2 : ∀ i, i < b.length → a.getD i [] = b.getD i []) : a = b := by
  refine List.ext_getElem h (fun i h3 h4 => ?_)
  have := h2 i h4
  rw [List.getD_eq_getElem?_getD, List.getD_eq_getElem?_getD, List.getElem?_eq_getElem h3, List.getElem?_eq_getElem h4] at this
  exact this
theorem Rl.image (h : Rl s l1 l2) : imL s.n l1 l1.length = s.L := by
  obtain ⟨h1, h2⟩ := imL_get s.n l1 h.e1 l1.length (Nat.le_refl _)
  refine ext_getD _ _ (by rw [h1, h.len]) (fun i hi => ?_)
  rw [h.len] at hi
  rw [h2 i hi, List.take_length, h.hL i hi]
theorem Rl.fresh (n : Nat) : Rl (DS.fresh n (List.replicate n zeros)) [] [] :=
  ⟨List.length_replicate, fun x hx => (by cases hx), fun x hx => (by cases hx), fun i hi => by
    show zeros = (List.replicate n zeros).getD i []
    rw [List.getD_eq_getElem?_getD, List.getElem?_replicate, if_pos (show i < n from hi)]
    rfl, fun i hi => rfl⟩
def ldR (b : List (List Int)) : Nat → List S106
  | 0 => []
  | j + 1 => ldR b j ++ [⟨(j : Int), b.getD j []⟩]
theorem ldR_len (b : List (List Int)) : ∀ j, (ldR b j).length = j
  | 0 => rfl
  | j + 1 => by unfold ldR; rw [List.length_append, ldR_len b j]; rfl
theorem rd_L2_at (b : List (List Int)) (j : Nat) : R.rd_L2 b (j : Int) = b.getD j [] := by unfold R.rd_L2; rw [Int.toNat_natCast]
def FirstBad (b : List (List Int)) (q : Nat) : Prop := q < b.length ∧ (b.getD q []).length ≠ 512 ∧ ∀ i, i < q → (b.getD i []).length = 512
theorem load_l0 (b : List (List Int)) (a r wr fl : Int) (hb : b.length ≤ 65536) (hg : ∀ i, i < b.length → (b.getD i []).length = 512) : ∀ m j, j + m = b.length → ∀ d, kilnref3_Load.l0 (m + 1 + d) b (j : Int) a (ldR b j) r wr fl = some (a, ldR b b.length, [], r, wr, fl, 0)
  | 0, j, h, d => by
    obtain rfl : j = b.length := by omega
    rw [show 0 + 1 + d = d + 1 by omega, kilnref3_Load.l0.eq_2, if_neg (by omega)]
  | m + 1, j, h, d => by
    have ih := load_l0 b a r wr fl hb hg m (j + 1) (by omega) d
    have hl := hg j (by omega)
    rw [show m + 1 + 1 + d = (m + 1 + d) + 1 by omega, kilnref3_Load.l0.eq_2, if_pos (by omega), if_pos (by omega), rd_L2_at, if_pos (by omega), copy_ok _ (by omega), Option.bind_some, if_pos (by rw [ldR_len]; omega), w64 _ (by omega) (by omega)]
    exact ih
theorem load_bad (b : List (List Int)) (a r wr fl : Int) (hb : b.length ≤ 65536) (q : Nat) (hq : FirstBad b q) : ∀ m j, j + m = q → ∀ d, kilnref3_Load.l0 (m + 1 + d) b (j : Int) a (ldR b j) r wr fl = some (0, [], [], 0, 0, 0, 32)
  | 0, j, h, d => by
    obtain rfl : j = q := by omega
    have h1 := hq.1
    have h2 := hq.2.1
    rw [show 0 + 1 + d = d + 1 by omega, kilnref3_Load.l0.eq_2, if_pos (by omega), if_pos (by omega), rd_L2_at, if_neg (by omega)]
  | m + 1, j, h, d => by
    have ih := load_bad b a r wr fl hb q hq m (j + 1) (by omega) d
    have hl := hq.2.2 j (by omega)
    have h1 := hq.1
    rw [show m + 1 + 1 + d = (m + 1 + d) + 1 by omega, kilnref3_Load.l0.eq_2, if_pos (by omega), if_pos (by omega), rd_L2_at, if_pos (by omega), copy_ok _ (by omega), Option.bind_some, if_pos (by rw [ldR_len]; omega), w64 _ (by omega) (by omega)]
    exact ih
theorem load_ev (b : List (List Int)) (h2 : 2 ≤ b.length) (hb : b.length ≤ 65536) (hg : ∀ i, i < b.length → (b.getD i []).length = 512) : ∃ k, kilnref3_Load.f k b = some ((b.length : Int), ldR b b.length, [], 0, 0, 0, 0) := by
  refine ⟨b.length + 1 + 1, ?_⟩
  unfold kilnref3_Load.f
  rw [if_neg (by omega), decide_eq_false (by omega), kilnref3_Load.j0.eq_2, if_neg (by decide)]
  exact load_l0 b _ 0 0 0 hb hg b.length 0 (by omega) 0
theorem load_ev32 (b : List (List Int)) (h2 : 2 ≤ b.length) (hb : b.length ≤ 65536) (q : Nat) (hq : FirstBad b q) : ∃ k, kilnref3_Load.f k b = some (0, [], [], 0, 0, 0, 32) := by
  refine ⟨q + 1 + 1, ?_⟩
  unfold kilnref3_Load.f
  rw [if_neg (by omega), decide_eq_false (by omega), kilnref3_Load.j0.eq_2, if_neg (by decide)]
  exact load_bad b _ 0 0 0 hb q hq q 0 (by omega) 0
theorem load_ev30 (b : List (List Int)) (h : b.length < 2 ∨ 65536 < b.length) : kilnref3_Load.f 1 b = some (0, [], [], 0, 0, 0, 30) := by
  unfold kilnref3_Load.f
  by_cases e : (b.length : Int) < 2
  · rw [if_pos e, kilnref3_Load.j0.eq_2, if_pos rfl]
  · rw [if_neg e, decide_eq_true (by omega), kilnref3_Load.j0.eq_2, if_pos rfl]
theorem first_bad (b : List (List Int)) (h : ¬ ∀ i, i < b.length → (b.getD i []).length = 512) : ∃ q, FirstBad b q := by
  have : ∀ m, m ≤ b.length → (∀ i, i < m → (b.getD i []).length = 512) ∨ ∃ q, FirstBad b q := by
    intro m
    induction m with
    | zero => exact fun _ => .inl (fun i hi => absurd hi (Nat.not_lt_zero _))
    | succ m ih =>
      intro hm
      rcases ih (by omega) with h1 | h1
      · by_cases e : (b.getD m []).length = 512
        · refine .inl (fun i hi => ?_)
          by_cases e2 : i = m
          · rw [e2]; exact e
          · exact h1 i (by omega)
        · exact .inr ⟨m, by omega, e, h1⟩
      · exact .inr h1
  exact (this b.length (Nat.le_refl _)).resolve_left h
theorem ldR_ent (b : List (List Int)) (hg : ∀ i, i < b.length → (b.getD i []).length = 512) : ∀ j, j ≤ b.length → (∀ x ∈ ldR b j, Ent b.length x) ∧ ∀ i : Nat, lastR (ldR b j) (i : Int) = if i < j then b.getD i [] else zeros
  | 0, _ => ⟨fun x hx => (by cases hx), fun i => by rw [if_neg (Nat.not_lt_zero _)]; rfl⟩
  | j + 1, hj => by
    obtain ⟨h1, h2⟩ := ldR_ent b hg j (by omega)
    unfold ldR
    refine ⟨fun x hx => ?_, fun i => ?_⟩
    · rcases List.mem_append.1 hx with hx | hx
      · exact h1 x hx
      · rw [List.mem_singleton.1 hx]; exact ⟨⟨j, by omega, rfl⟩, hg j (by omega)⟩
    · rw [lastR_snoc, h2 i]
      show (if (j : Int) = (i : Int) then b.getD j [] else _) = _
      by_cases e : j = i
      · subst e; rw [if_pos rfl, if_pos (by omega)]
      · rw [if_neg (by omega)]
        by_cases e2 : i < j
        · rw [if_pos e2, if_pos (by omega)]
        · rw [if_neg e2, if_neg (by omega)]
theorem Rl.load (b : List (List Int)) (hg : ∀ i, i < b.length → (b.getD i []).length = 512) : Rl (DS.fresh b.length b) (ldR b b.length) [] := by
  obtain ⟨h1, h2⟩ := ldR_ent b hg b.length (Nat.le_refl _)
  refine ⟨rfl, h1, fun x hx => (by cases hx), fun i hi => ?_, fun i hi => rfl⟩
  rw [h2 i, if_pos (show i < b.length from hi)]
  rfl
end Go.Proofs.Ytddnhcnkjcdfgaa.M

namespace Go.Proofs.Ytddnhcnkjcdfgaa.M
open Go.RowKit Go.Maps Go.Proofs.YtddnhcnkjcdfgaaW.PrintWords Go.Proofs.YtddnhcnkjcdfgaaW.PrintLast Go.Proofs.YtddnhcnkjcdfgaaW.PrintMore
open Go.Proofs.Ytddnhcnkjcdfgaa.P hiding S106 k106 rd_T106 at_T106
open Go.Proofs.Ytddnhcnkjcdfgaa.R
set_option linter.unusedVariables false
set_option linter.unusedSimpArgs false
def prC (g : Nat) (s : DS) (v1 v2 : Value) : Array Value := #[.pointer (some ⟨g, 0, none⟩), .int .i64 (s.n : Int), v1, v2, .int .i64 s.r, .int .i64 s.wr, .int .i64 s.fl]
def prL (gp g : Nat) (s : DS) (v1 v2 : Value) (l1 l2 : List S106) : List Th := [cellsT gp (prC g s v1 v2) 78, dkT g s, refT v1 v2 l1 l2]
theorem ref_new_f (n : Nat) (h2 : 2 ≤ n) (hm : n ≤ 65536) : kilnref3_New.f (n : Int) = some ((n : Int), [], [], 0, 0, 0, 0) := by
  unfold kilnref3_New.f
  rw [if_neg (by omega), if_neg (by omega)]
theorem ref_new_no (a : Int) (h : a < 2 ∨ 65536 < a) : kilnref3_New.f a = some (0, [], [], 0, 0, 0, 30) := by
  unfold kilnref3_New.f
  by_cases e : a < 2
  · rw [if_pos e]
  · rw [if_neg e, if_pos (by omega)]
set_option maxHeartbeats 8000000 in
set_option maxRecDepth 100000 in
theorem started_yes (n : Nat) (h2 : 2 ≤ n) (hm : n ≤ 65536) (w : World) :
    Calls Try.prog 37 #[.int .i64 (n : Int)] w fun e w' => ∃ gp g A1 c1 A2 c2, e = .returned (.tuple #[.pointer (some ⟨gp, 0, none⟩), .bool true]) ∧ Sep w w' (prL gp g (DS.fresh n (List.replicate n zeros)) (.slice A1 0 c1) (.slice A2 0 c2) [] []) := by
  have HN := Aside0.mk (Sep.new (Sep.refl w) n h2 hm)
  have HR := Aside0.mk (fun W (L : List Th) (h : Sep w W L) => Sep.rNew h (n : Int) (n : Int) [] [] 0 0 0 0 (ref_new_f n h2 hm))
  clear h2 hm
  go_enter Try.func37, Try.ntmps37
  go_upto_region 3 with (first
    | (go_at_call 21; (with_reducible refine HN.out.mono ?_); rintro e w1 ⟨g, rfl, h⟩; have HS1 := Aside0.mk h; clear h)
    | (go_at_call 47; (with_reducible refine (HR.out _ _ HS1.out).mono ?_); rintro e w2 ⟨A1, c1, A2, c2, rfl, h⟩; have HS2 := Aside0.mk h; clear h))
  have HS3 := Aside0.mk (HS2.out.push_alloc #[.int .i64 (n : Int), .slice A1 0 c1, .slice A2 0 c2, .int .i64 0, .int .i64 0, .int .i64 0] 76)
  clear HN HR HS1 HS2
  have hd := blk_cell HS3.out.cells.1
  generalize w2.alloc (.cells #[.int .i64 (n : Int), .slice A1 0 c1, .slice A2 0 c2, .int .i64 0, .int .i64 0, .int .i64 0] 76) = w3 at HS3 hd ⊢
  generalize w2.heap.size = gd at HS3 hd ⊢
  have hd0 : w3.cell? ⟨gd, 0, none⟩ = some (.int .i64 (n : Int)) := hd 0
  have hd1 : w3.cell? ⟨gd, 1, none⟩ = some (.slice A1 0 c1) := hd 1
  have hd2 : w3.cell? ⟨gd, 2, none⟩ = some (.slice A2 0 c2) := hd 2
  have hd3 : w3.cell? ⟨gd, 3, none⟩ = some (.int .i64 0) := hd 3
  have hd4 : w3.cell? ⟨gd, 4, none⟩ = some (.int .i64 0) := hd 4
  have hd5 : w3.cell? ⟨gd, 5, none⟩ = some (.int .i64 0) := hd 5
  clear hd
  go_wp2
  go_ret2
  exact ⟨_, g, A1, c1, A2, c2, rfl, (HS3.out.push_alloc (prC g (DS.fresh n (List.replicate n zeros)) (.slice A1 0 c1) (.slice A2 0 c2)) 78).sel 4 [0, 3, 2] _ rfl (by decide) rfl⟩
set_option maxHeartbeats 8000000 in
set_option maxRecDepth 100000 in
theorem started_no (n : Int) (hn : ¬ (2 ≤ n ∧ n ≤ 65536)) (w : World) :
    Calls Try.prog 37 #[.int .i64 n] w fun e w' => e = .returned (.tuple #[.pointer none, .bool true]) ∧ Below w.heap.size w w' := by
  have HN := Aside0.mk (new_none n w hn)
  have HR := Aside0.mk (fun W (L : List Th) (h : Sep w W L) => Sep.rNew h n 0 [] [] 0 0 0 30 (ref_new_no n (by omega)))
  clear hn
  go_enter Try.func37, Try.ntmps37
  go_upto_region 3 with (first
    | (go_at_call 21; (with_reducible refine HN.out.mono ?_); rintro e w1 ⟨rfl, rfl⟩)
    | (go_at_call 47; (with_reducible refine (HR.out _ _ (Sep.refl _)).mono ?_); rintro e w2 ⟨A1, c1, A2, c2, rfl, h⟩; have HS2 := Aside0.mk h; clear h))
  have HB := Aside0.mk (below_alloc HS2.out.below (.cells #[.int .i64 0, .slice A1 0 c1, .slice A2 0 c2, .int .i64 0, .int .i64 0, .int .i64 0] 76))
  clear HN HR HS2
  generalize w2.alloc (.cells #[.int .i64 0, .slice A1 0 c1, .slice A2 0 c2, .int .i64 0, .int .i64 0, .int .i64 0] 76) = w3 at HB ⊢
  generalize w2.heap.size = gd at HB ⊢
  go_wp2
  go_ret2
  exact ⟨rfl, HB.out⟩
end Go.Proofs.Ytddnhcnkjcdfgaa.M

namespace Go.Proofs.Ytddnhcnkjcdfgaa.M
open Go.RowKit Go.Maps Go.Proofs.YtddnhcnkjcdfgaaW.PrintWords Go.Proofs.YtddnhcnkjcdfgaaW.PrintLast Go.Proofs.YtddnhcnkjcdfgaaW.PrintMore
open Go.Proofs.Ytddnhcnkjcdfgaa.P hiding S106 k106 rd_T106 at_T106
open Go.Proofs.Ytddnhcnkjcdfgaa.R
set_option linter.unusedVariables false
set_option linter.unusedSimpArgs false
variable {w0 : World} {L : List Th}
theorem Sep.cset {w : World} {g e : Nat} {cs : Array Value} (h : Sep w0 w (cellsT g cs e :: L)) (i : Nat) (v : Value) : Sep w0 (w.setCell ⟨g, i, none⟩ v) (cellsT g (cs.setIfInBounds i v) e :: L) := by
  obtain ⟨F, ⟨h1, h2⟩, h3, h4⟩ := h.open1
  exact h4 (cellsT g _ e) _ F ⟨blk_set h1 i v, h2⟩ (fun b hb => .inl hb) ((Chg.refl F w).setCell ((h2 g).2 rfl) i v)
theorem Sep.cset6 {w : World} {g e : Nat} {a0 a1 a2 a3 a4 a5 a6 : Value} (h : Sep w0 w (cellsT g #[a0, a1, a2, a3, a4, a5, a6] e :: L)) (b1 b2 b3 b4 b5 b6 : Value) :
    Sep w0 ((((((w.setCell ⟨g, 1, none⟩ b1).setCell ⟨g, 2, none⟩ b2).setCell ⟨g, 3, none⟩ b3).setCell ⟨g, 4, none⟩ b4).setCell ⟨g, 5, none⟩ b5).setCell ⟨g, 6, none⟩ b6) (cellsT g #[a0, b1, b2, b3, b4, b5, b6] e :: L) :=
  (((((h.cset 1 b1).cset 2 b2).cset 3 b3).cset 4 b4).cset 5 b5).cset 6 b6
end Go.Proofs.Ytddnhcnkjcdfgaa.M

namespace Go.Proofs.Ytddnhcnkjcdfgaa.M
open Go.RowKit Go.Maps Go.Proofs.YtddnhcnkjcdfgaaW.PrintWords Go.Proofs.YtddnhcnkjcdfgaaW.PrintLast Go.Proofs.YtddnhcnkjcdfgaaW.PrintMore
open Go.Proofs.Ytddnhcnkjcdfgaa.P hiding S106 k106 rd_T106 at_T106
open Go.Proofs.Ytddnhcnkjcdfgaa.R
set_option linter.unusedVariables false
set_option linter.unusedSimpArgs false
variable {w0 : World} {L : List Th}
theorem pr_held {W : World} {gp gb : Nat} {a0 a1 a2 a3 a4 a5 a6 b0 b1 b2 b3 b4 b5 : Value} (h : Sep w0 W (cellsT gb #[b0, b1, b2, b3, b4, b5] 73 :: cellsT gp #[a0, a1, a2, a3, a4, a5, a6] 78 :: L)) :
    W.cell? ⟨gp, 1, none⟩ = some a1 ∧ W.cell? ⟨gp, 2, none⟩ = some a2 ∧ W.cell? ⟨gp, 3, none⟩ = some a3 ∧ W.cell? ⟨gp, 4, none⟩ = some a4 ∧ W.cell? ⟨gp, 5, none⟩ = some a5 ∧ W.cell? ⟨gp, 6, none⟩ = some a6 ∧ W.cell? ⟨gb, 1, none⟩ = some b1 :=
  ⟨blk_cell h.up1.cells.1 1, blk_cell h.up1.cells.1 2, blk_cell h.up1.cells.1 3, blk_cell h.up1.cells.1 4, blk_cell h.up1.cells.1 5, blk_cell h.up1.cells.1 6, blk_cell h.cells.1 1⟩
theorem Sep.up5 {w : World} {a b c d e f : Th} (h : Sep w0 w (a :: b :: c :: d :: e :: f :: L)) : Sep w0 w (f :: a :: b :: c :: d :: e :: L) := h.perm (List.perm_middle (l₁ := [a, b, c, d, e]))
theorem Sep.up6 {w : World} {a b c d e f g : Th} (h : Sep w0 w (a :: b :: c :: d :: e :: f :: g :: L)) : Sep w0 w (g :: a :: b :: c :: d :: e :: f :: L) := h.perm (List.perm_middle (l₁ := [a, b, c, d, e, f]))
theorem Sep.cset60 {w : World} {g e : Nat} {a1 a2 a3 a4 a5 a6 : Value} (h : Sep w0 w (cellsT g #[a1, a2, a3, a4, a5, a6] e :: L)) (b1 b2 b3 b4 b5 b6 : Value) :
    Sep w0 ((((((w.setCell ⟨g, 0, none⟩ b1).setCell ⟨g, 1, none⟩ b2).setCell ⟨g, 2, none⟩ b3).setCell ⟨g, 3, none⟩ b4).setCell ⟨g, 4, none⟩ b5).setCell ⟨g, 5, none⟩ b6) (cellsT g #[b1, b2, b3, b4, b5, b6] e :: L) :=
  (((((h.cset 0 b1).cset 1 b2).cset 2 b3).cset 3 b4).cset 4 b5).cset 5 b6
def does3_T : Bool × List (List Nat × List Nat) := (true, [([], []), ([0], [0]), ([1], [1]), ([2], [2]), ([], []), ([4], [4]), ([3, 5], [3, 5]), ([6], [6]), ([7], [7]), ([7], [7]), ([7], [7]), ([], []), ([11, 8, 6, 0, 1, 2, 3, 4, 5, 6, 7, 8, 11], [8, 11]), ([9, 12, 0, 1, 2, 3, 4, 5, 6, 7, 8, 9, 11, 12], [9]), ([10, 13, 0, 1, 2, 3, 4, 5, 6, 7, 8, 9, 10, 11, 12, 13], [10])])
def does3_B : List Nat := [0, 1, 3, 7, 0, 16, 63, 127, 255, 255, 255, 0, 2559, 7167, 16383]
theorem does3_tab : rtab .any (opsOf Try.f38 3) = does3_T := by kernel_rfl
theorem does3_bits : waitsOk does3_T.2 does3_B = true := by kernel_rfl
def does4_T : Bool × List (List Nat × List Nat) := (true, [([], []), ([0], [0]), ([1], [1]), ([2], [2]), ([], []), ([4], [4]), ([3, 5], [3, 5]), ([6], [6]), ([7], [7]), ([7], [7]), ([8, 6, 0, 1, 2, 3, 4, 5, 6, 7, 8], [8]), ([9, 10, 0, 1, 2, 3, 4, 5, 6, 7, 8, 9, 10], [9])])
def does4_B : List Nat := [0, 1, 3, 7, 0, 16, 63, 127, 255, 255, 511, 2047]
theorem does4_tab : rtab .any (opsOf Try.f38 4) = does4_T := by kernel_rfl
theorem does4_bits : waitsOk does4_T.2 does4_B = true := by kernel_rfl
set_option maxHeartbeats 8000000 in
set_option maxRecDepth 100000 in
theorem does_read (gp g : Nat) (s : DS) (A1 : Option Addr) (c1 : Nat) (A2 : Option Addr) (c2 : Nat) (l1 l2 : List S106) (w : World)
    (h : Sep w0 w (cellsT gp (prC g s (.slice A1 l1.length c1) (.slice A2 l2.length c2)) 78 :: dkT g s :: refT (.slice A1 l1.length c1) (.slice A2 l2.length c2) l1 l2 :: L)) (hl : l1.length + l2.length ≤ 1000000) (hR : Rl s l1 l2) (i : Nat) (hi : i < s.n)
    (t fl : Int) (dv fv : Value) :
    Calls Try.prog 38 #[.pointer (some ⟨gp, 0, none⟩), .agg #[.int .i64 0, .int .i64 (i : Int), .int .i64 t, dv, .int .i64 fl, fv]] w fun e w' => e = .returned (.bool true) ∧ ∃ A1' c1' A2' c2',
      Sep w0 w' (cellsT gp (prC g s.reads (.slice A1' l1.length c1') (.slice A2' l2.length c2')) 78 :: dkT g s.reads :: refT (.slice A1' l1.length c1') (.slice A2' l2.length c2') l1 l2 :: L) := by
  have HS0 := Aside0.mk (h.push_alloc #[.int .i64 0, .int .i64 (i : Int), .int .i64 t, dv, .int .i64 fl, fv] 73)
  have hk0 := read_ev l1 l2 s.n i hi s.r s.wr s.fl (by omega) (by omega) hR.sho (by rw [lastR_len hR.e1]; decide) (l1.length + l2.length + 2) (Nat.le_refl _)
  rw [hR.now i hi] at hk0
  generalize hk00 : l1.length + l2.length + 2 = k0 at hk0
  have HRF := Aside0.mk hk0
  have HI := Aside0.mk hi
  clear h hl hk0 hk00 hR
  go_enter Try.func38, Try.ntmps38
  go_upto_region 1 with (fail)
  generalize w.alloc (.cells #[.int .i64 0, .int .i64 (i : Int), .int .i64 t, dv, .int .i64 fl, fv] 73) = w1 at HS0 ⊢
  generalize w.heap.size = gb at HS0 ⊢
  have hk : w1.cell? ⟨gb, 0, none⟩ = some (.int .i64 0) := blk_cell HS0.out.cells.1 0
  go_upto_region 3 with (fail)
  have HS1 := Aside0.mk (HS0.out.step (below_drew1 (Below.refl w1.heap.size w1)))
  clear hk
  refine start_ (n := 15) (S := fun W => W.cell? ⟨gp, 1, none⟩ = some (.int .i64 (s.n : Int)) ∧ W.cell? ⟨gp, 2, none⟩ = some (.slice A1 l1.length c1) ∧ W.cell? ⟨gp, 3, none⟩ = some (.slice A2 l2.length c2) ∧ W.cell? ⟨gp, 4, none⟩ = some (.int .i64 s.r) ∧ W.cell? ⟨gp, 5, none⟩ = some (.int .i64 s.wr) ∧ W.cell? ⟨gp, 6, none⟩ = some (.int .i64 s.fl) ∧ W.cell? ⟨gb, 1, none⟩ = some (.int .i64 (i : Int))) (ds := [12]) (bb 15 0) (by kernel_rfl) rfl rfl ((pr_held HS1.out)) (fun hHeld => ?_); refine with_tabW does3_tab does3_bits (fun HT_ HW_ => ?_)
  generalize w1.drew = wd at hHeld HS1 ⊢
  refine pure_ (i := 0) (N := (some 25)) (v := ?_) (a' := ?_) (bb 15 1) rfl rfl (any_of HT_.out (by kernel_rfl)) (fun _ _ _ h => h) (Or.inl ⟨by rfl, ?_⟩) ?_ ?_
  rotate_left
  · intro w'
    go_simp
    with_reducible rfl
  rotate_left
  · simp only [Act.put, List.setIfInBounds_toArray, List.set_cons_zero, List.set_cons_succ, i64_w, i32_w]
    rfl
  refine pure_ (i := 1) (N := (some 26)) (v := ?_) (a' := ?_) (bb 15 3) rfl rfl (any_of HT_.out (by kernel_rfl)) (fun _ _ _ h => h) (Or.inl ⟨by rfl, ?_⟩) ?_ ?_
  rotate_left
  · intro w'
    go_simp
    with_reducible rfl
  rotate_left
  · simp only [Act.put, List.setIfInBounds_toArray, List.set_cons_zero, List.set_cons_succ, i64_w, i32_w]
    rfl
  refine pure_ (i := 2) (N := (some 27)) (v := ?_) (a' := ?_) (bb 15 7) rfl rfl (any_of HT_.out (by kernel_rfl)) (fun _ _ _ h => h) (Or.inl ⟨by rfl, ?_⟩) ?_ ?_
  rotate_left
  · intro w'
    go_simp
    with_reducible rfl
  rotate_left
  · simp only [Act.put, List.setIfInBounds_toArray, List.set_cons_zero, List.set_cons_succ, i64_w, i32_w]
    rfl
  refine take_ (i := 3) (N := (some 28)) (v := ?_) (a' := ?_) (bb 15 15) rfl rfl (take_ofW HT_.out HW_.out (by kernel_rfl)) (fun _ _ _ h => h) (Or.inl ⟨by rfl, ?_⟩) hHeld ?_ ?_
  rotate_left
  · intro w' s0
    (try dsimp only at s0)
    go_simp
    with_reducible rfl
  rotate_left
  · simp only [Act.put, List.setIfInBounds_toArray, List.set_cons_zero, List.set_cons_succ, i64_w, i32_w]
    rfl
  refine pure_ (i := 4) (N := (some 29)) (v := ?_) (a' := ?_) (bb 15 31) rfl rfl (any_of HT_.out (by kernel_rfl)) (fun _ _ _ h => h) (Or.inl ⟨by rfl, ?_⟩) ?_ ?_
  rotate_left
  · intro w'
    go_simp
    with_reducible rfl
  rotate_left
  · simp only [Act.put, List.setIfInBounds_toArray, List.set_cons_zero, List.set_cons_succ, i64_w, i32_w]
    rfl
  refine take_ (i := 5) (N := (some 30)) (v := ?_) (a' := ?_) (bb 15 63) rfl rfl (take_ofW HT_.out HW_.out (by kernel_rfl)) (fun _ _ _ h => h) (Or.inl ⟨by rfl, ?_⟩) hHeld ?_ ?_
  rotate_left
  · intro w' s0
    (try dsimp only at s0)
    go_simp
    with_reducible rfl
  rotate_left
  · simp only [Act.put, List.setIfInBounds_toArray, List.set_cons_zero, List.set_cons_succ, i64_w, i32_w]
    rfl
  clear HS0
  refine two_ (i := 6) (j := 11) (Ni := some 31) (Nj := some 5) (bb 15 127) (bb 15 2111) rfl rfl rfl rfl (two_of HT_.out (by kernel_rfl)) (by decide) (by decide) (fun K hK => ?_) (fun K hK => ?_)
  case refine_1 =>
    refine goes_ Try.func48 (by kernel_rfl) rfl #[.agg #[.int .i64 (s.n : Int), .slice A1 l1.length c1, .slice A2 l2.length c2, .int .i64 s.r, .int .i64 s.wr, .int .i64 s.fl], .int .i64 (i : Int)] (by rfl) rfl rfl (by (try simp only [List.map_toArray, List.map_cons, List.map_nil]); first | done | rfl) ?_
    with_reducible refine (Sep.rRead HS1.out.up3 k0 _ _ _ _ _ _ _ _ _ _ _ _ _ HRF.out).mono ?_
    rintro e w2 ⟨A1', c1', A2', c2', A7, c7, rfl, h⟩
    have HS2 := Aside0.mk h
    clear h
    refine ⟨_, rfl, ?_⟩
    refine hK.out _ _ (pr_held HS2.out.up3.up3) (fun hHeld => ?_)
    clear hK K
    refine norm_ (a' := ?_) ?_ ?_
    rotate_left
    · show Act.put _ (some 31) _ = _
      simp only [Act.put, List.setIfInBounds_toArray, List.set_cons_zero, List.set_cons_succ, i64_w, i32_w]
      rfl
    refine pure_ (i := 7) (N := (some 24)) (v := ?_) (a' := ?_) (bb 15 255) rfl rfl (any_of HT_.out (by kernel_rfl)) (fun _ _ _ h => h) (Or.inl ⟨by rfl, ?_⟩) ?_ ?_
    rotate_left
    · intro w'
      go_simp
      with_reducible rfl
    rotate_left
    · simp only [Act.put, List.setIfInBounds_toArray, List.set_cons_zero, List.set_cons_succ, i64_w, i32_w]
      rfl
    refine pure_ (i := 8) (N := (some 32)) (v := ?_) (a' := ?_) (bb 15 511) rfl rfl (any_of HT_.out (by kernel_rfl)) (fun _ _ _ h => h) (Or.inl ⟨by rfl, ?_⟩) ?_ ?_
    rotate_left
    · intro w'
      go_simp
      with_reducible rfl
    rotate_left
    · simp only [Act.put, List.setIfInBounds_toArray, List.set_cons_zero, List.set_cons_succ, i64_w, i32_w]
      rfl
    refine pure_ (i := 9) (N := (some 33)) (v := ?_) (a' := ?_) (bb 15 1023) rfl rfl (any_of HT_.out (by kernel_rfl)) (fun _ _ _ h => h) (Or.inl ⟨by rfl, ?_⟩) ?_ ?_
    rotate_left
    · intro w'
      go_simp
      with_reducible rfl
    rotate_left
    · simp only [Act.put, List.setIfInBounds_toArray, List.set_cons_zero, List.set_cons_succ, i64_w, i32_w]
      rfl
    refine pure_ (i := 10) (N := (some 34)) (v := ?_) (a' := ?_) (bb 15 2047) rfl rfl (any_of HT_.out (by kernel_rfl)) (fun _ _ _ h => h) (Or.inl ⟨by rfl, ?_⟩) ?_ ?_
    rotate_left
    · intro w'
      go_simp
      with_reducible rfl
    rotate_left
    · simp only [Act.put, List.setIfInBounds_toArray, List.set_cons_zero, List.set_cons_succ, i64_w, i32_w]
      rfl
    refine one_ (i := 11) (N := (some 5)) (bb 15 4095) rfl rfl (one_of HT_.out (by kernel_rfl)) (by decide) (fun K hK => ?_)
    refine value_ (w1 := ?_) (v := ?_) (by rfl) rfl ?_ ?_
    rotate_left 2
    · go_simp
      constructor
      · rfl
      · rfl
    have HS3 := Aside0.mk (HS2.out.push_alloc #[.int .i64 0, .slice none 0 0, .slice none 0 0, .int .i64 0, .int .i64 0, .int .i64 0] 76)
    generalize w2.alloc (.cells #[.int .i64 0, .slice none 0 0, .slice none 0 0, .int .i64 0, .int .i64 0, .int .i64 0] 76) = w3 at HS3 ⊢
    generalize w2.heap.size = gd at HS3 ⊢
    have hz := blk_cell HS3.out.cells.1
    have hz0 : w3.cell? ⟨gd, 0, none⟩ = some (.int .i64 0) := hz 0
    have hz1 : w3.cell? ⟨gd, 1, none⟩ = some (.slice none 0 0) := hz 1
    have hz2 : w3.cell? ⟨gd, 2, none⟩ = some (.slice none 0 0) := hz 2
    have hz3 : w3.cell? ⟨gd, 3, none⟩ = some (.int .i64 0) := hz 3
    have hz4 : w3.cell? ⟨gd, 4, none⟩ = some (.int .i64 0) := hz 4
    have hz5 : w3.cell? ⟨gd, 5, none⟩ = some (.int .i64 0) := hz 5
    have hf := blk_frozen HS3.out.cells.1
    have hf0 := hf 0
    have hf1 := hf 1
    have hf2 := hf 2
    have hf3 := hf 3
    have hf4 := hf 4
    have hf5 := hf 5
    clear hz hf
    refine hK.out _ _ (pr_held HS3.out.up4.up4) (fun hHeld => ?_)
    clear hK K
    refine norm_ (a' := ?_) ?_ ?_
    rotate_left
    · show Act.put _ (some 5) _ = _
      simp only [Act.put, List.setIfInBounds_toArray, List.set_cons_zero, List.set_cons_succ, i64_w, i32_w]
      rfl
    refine last_ (i := 12) (N := none) (bb 15 8191) rfl rfl (one_of HT_.out (by kernel_rfl)) (by decide) (fun K hK => ?_)
    refine skip_ (w1 := ?_) (by rfl) rfl ?_ ?_
    rotate_left
    · go_simp
      first | rfl | (constructor <;> rfl)
    refine hK.out _ _ ?_
    clear hK K
    refine pure_ (i := 13) (N := (some 6)) (v := ?_) (a' := ?_) (bb 15 16383) rfl rfl (any_of HT_.out (by kernel_rfl)) (fun _ _ _ h => h) (Or.inl ⟨by rfl, ?_⟩) ?_ ?_
    rotate_left
    · intro w'
      go_simp
      with_reducible rfl
    rotate_left
    · simp only [Act.put, List.setIfInBounds_toArray, List.set_cons_zero, List.set_cons_succ, i64_w, i32_w]
      rfl
    refine pure_ (i := 14) (N := (some 7)) (v := ?_) (a' := ?_) (bb 15 32767) rfl rfl (any_of HT_.out (by kernel_rfl)) (fun _ _ _ h => h) (Or.inl ⟨by rfl, ?_⟩) ?_ ?_
    rotate_left
    · intro w'
      go_simp
      with_reducible rfl
    rotate_left
    · simp only [Act.put, List.setIfInBounds_toArray, List.set_cons_zero, List.set_cons_succ, i64_w, i32_w]
      rfl
    refine done_ (done_of HT_.out (by kernel_rfl)) ?_
    have HS4 := Aside0.mk (HS3.out.cset60 (.int .i64 (s.n : Int)) (.slice A1' l1.length c1') (.slice A2' l2.length c2') (.int .i64 (wrap64 (s.r + 1))) (.int .i64 s.wr) (.int .i64 s.fl))
    clear HS1 HS2 HS3 HRF hHeld hz0 hz1 hz2 hz3 hz4 hz5 hf0 hf1 hf2 hf3 hf4 hf5
    generalize ((((((w3.setCell ⟨gd, 0, none⟩ (.int .i64 (s.n : Int))).setCell ⟨gd, 1, none⟩ (.slice A1' l1.length c1')).setCell ⟨gd, 2, none⟩ (.slice A2' l2.length c2')).setCell ⟨gd, 3, none⟩ (.int .i64 (wrap64 (s.r + 1)))).setCell ⟨gd, 4, none⟩ (.int .i64 s.wr)).setCell ⟨gd, 5, none⟩ (.int .i64 s.fl)) = w4 at HS4 ⊢
    go_upto_region 4 with (fail)
    have HS5 := Aside0.mk (HS4.out.step (below_drew1 (Below.refl w4.heap.size w4)))
    clear HS4
    refine start_ (n := 12) (S := fun W => W.cell? ⟨gp, 0, none⟩ = some (.pointer (some ⟨g, 0, none⟩)) ∧ W.cell? ⟨gb, 1, none⟩ = some (.int .i64 (i : Int))) (ds := [6]) (bb 12 0) (by kernel_rfl) rfl rfl (⟨blk_cell HS5.out.up4.cells.1 0, blk_cell HS5.out.up3.cells.1 1⟩) (fun hHeld => ?_); refine with_tabW does4_tab does4_bits (fun HT_ HW_ => ?_)
    generalize w4.drew = wd4 at hHeld HS5 ⊢
    refine pure_ (i := 0) (N := (some 36)) (v := ?_) (a' := ?_) (bb 12 1) rfl rfl (any_of HT_.out (by kernel_rfl)) (fun _ _ _ h => h) (Or.inl ⟨by rfl, ?_⟩) ?_ ?_
    rotate_left
    · intro w'
      go_simp
      with_reducible rfl
    rotate_left
    · simp only [Act.put, List.setIfInBounds_toArray, List.set_cons_zero, List.set_cons_succ, i64_w, i32_w]
      rfl
    refine pure_ (i := 1) (N := (some 37)) (v := ?_) (a' := ?_) (bb 12 3) rfl rfl (any_of HT_.out (by kernel_rfl)) (fun _ _ _ h => h) (Or.inl ⟨by rfl, ?_⟩) ?_ ?_
    rotate_left
    · intro w'
      go_simp
      with_reducible rfl
    rotate_left
    · simp only [Act.put, List.setIfInBounds_toArray, List.set_cons_zero, List.set_cons_succ, i64_w, i32_w]
      rfl
    refine pure_ (i := 2) (N := (some 38)) (v := ?_) (a' := ?_) (bb 12 7) rfl rfl (any_of HT_.out (by kernel_rfl)) (fun _ _ _ h => h) (Or.inl ⟨by rfl, ?_⟩) ?_ ?_
    rotate_left
    · intro w'
      go_simp
      with_reducible rfl
    rotate_left
    · simp only [Act.put, List.setIfInBounds_toArray, List.set_cons_zero, List.set_cons_succ, i64_w, i32_w]
      rfl
    refine take_ (i := 3) (N := (some 39)) (v := ?_) (a' := ?_) (bb 12 15) rfl rfl (take_ofW HT_.out HW_.out (by kernel_rfl)) (fun _ _ _ h => h) (Or.inl ⟨by rfl, ?_⟩) hHeld ?_ ?_
    rotate_left
    · intro w' s0
      (try dsimp only at s0)
      go_simp
      with_reducible rfl
    rotate_left
    · simp only [Act.put, List.setIfInBounds_toArray, List.set_cons_zero, List.set_cons_succ, i64_w, i32_w]
      rfl
    refine pure_ (i := 4) (N := (some 40)) (v := ?_) (a' := ?_) (bb 12 31) rfl rfl (any_of HT_.out (by kernel_rfl)) (fun _ _ _ h => h) (Or.inl ⟨by rfl, ?_⟩) ?_ ?_
    rotate_left
    · intro w'
      go_simp
      with_reducible rfl
    rotate_left
    · simp only [Act.put, List.setIfInBounds_toArray, List.set_cons_zero, List.set_cons_succ, i64_w, i32_w]
      rfl
    refine take_ (i := 5) (N := (some 41)) (v := ?_) (a' := ?_) (bb 12 63) rfl rfl (take_ofW HT_.out HW_.out (by kernel_rfl)) (fun _ _ _ h => h) (Or.inl ⟨by rfl, ?_⟩) hHeld ?_ ?_
    rotate_left
    · intro w' s0
      (try dsimp only at s0)
      go_simp
      with_reducible rfl
    rotate_left
    · simp only [Act.put, List.setIfInBounds_toArray, List.set_cons_zero, List.set_cons_succ, i64_w, i32_w]
      rfl
    refine last_ (i := 6) (N := (some 42)) (bb 12 127) rfl rfl (one_of HT_.out (by kernel_rfl)) (by decide) (fun K hK => ?_)
    refine goes_ Try.func25 (by kernel_rfl) rfl #[.pointer (some ⟨g, 0, none⟩), .int .i64 (i : Int)] (by rfl) rfl rfl (by (try simp only [List.map_toArray, List.map_cons, List.map_nil]); first | done | rfl) ?_
    with_reducible refine (Sep.read HS5.out.up5 i HI.out).mono ?_
    rintro e w5 ⟨v8, rfl, h⟩
    obtain ⟨A8, c8, e8⟩ := h.own_slice
    subst e8
    have HS6 := Aside0.mk h
    clear h
    refine ⟨_, rfl, ?_⟩
    refine hK.out _ _ ?_
    clear hK K
    refine norm_ (a' := ?_) ?_ ?_
    rotate_left
    · show Act.put _ (some 42) _ = _
      simp only [Act.put, List.setIfInBounds_toArray, List.set_cons_zero, List.set_cons_succ, i64_w, i32_w]
      rfl
    refine pure_ (i := 7) (N := (some 35)) (v := ?_) (a' := ?_) (bb 12 255) rfl rfl (any_of HT_.out (by kernel_rfl)) (fun _ _ _ h => h) (Or.inl ⟨by rfl, ?_⟩) ?_ ?_
    rotate_left
    · intro w'
      go_simp
      with_reducible rfl
    rotate_left
    · simp only [Act.put, List.setIfInBounds_toArray, List.set_cons_zero, List.set_cons_succ, i64_w, i32_w]
      rfl
    refine pure_ (i := 8) (N := (some 43)) (v := ?_) (a' := ?_) (bb 12 511) rfl rfl (any_of HT_.out (by kernel_rfl)) (fun _ _ _ h => h) (Or.inl ⟨by rfl, ?_⟩) ?_ ?_
    rotate_left
    · intro w'
      go_simp
      with_reducible rfl
    rotate_left
    · simp only [Act.put, List.setIfInBounds_toArray, List.set_cons_zero, List.set_cons_succ, i64_w, i32_w]
      rfl
    refine pure_ (i := 9) (N := (some 44)) (v := ?_) (a' := ?_) (bb 12 1023) rfl rfl (any_of HT_.out (by kernel_rfl)) (fun _ _ _ h => h) (Or.inl ⟨by rfl, ?_⟩) ?_ ?_
    rotate_left
    · intro w'
      go_simp
      with_reducible rfl
    rotate_left
    · simp only [Act.put, List.setIfInBounds_toArray, List.set_cons_zero, List.set_cons_succ, i64_w, i32_w]
      rfl
    refine pure_ (i := 10) (N := (some 8)) (v := ?_) (a' := ?_) (bb 12 2047) rfl rfl (any_of HT_.out (by kernel_rfl)) (fun _ _ _ h => h) (Or.inl ⟨by rfl, ?_⟩) ?_ ?_
    rotate_left
    · intro w'
      go_simp
      with_reducible rfl
    rotate_left
    · simp only [Act.put, List.setIfInBounds_toArray, List.set_cons_zero, List.set_cons_succ, i64_w, i32_w]
      rfl
    refine pure_ (i := 11) (N := (some 9)) (v := ?_) (a' := ?_) (bb 12 4095) rfl rfl (any_of HT_.out (by kernel_rfl)) (fun _ _ _ h => h) (Or.inl ⟨by rfl, ?_⟩) ?_ ?_
    rotate_left
    · intro w'
      go_simp
      with_reducible rfl
    rotate_left
    · simp only [Act.put, List.setIfInBounds_toArray, List.set_cons_zero, List.set_cons_succ, i64_w, i32_w]
      rfl
    refine done_ (done_of HT_.out (by kernel_rfl)) ?_
    clear HS5
    have hd := blk_cell HS6.out.up2.cells.1
    have hd0 : w5.cell? ⟨gd, 0, none⟩ = some (.int .i64 (s.n : Int)) := hd 0
    have hd1 : w5.cell? ⟨gd, 1, none⟩ = some (.slice A1' l1.length c1') := hd 1
    have hd2 : w5.cell? ⟨gd, 2, none⟩ = some (.slice A2' l2.length c2') := hd 2
    have hd3 : w5.cell? ⟨gd, 3, none⟩ = some (.int .i64 (wrap64 (s.r + 1))) := hd 3
    have hd4 : w5.cell? ⟨gd, 4, none⟩ = some (.int .i64 s.wr) := hd 4
    have hd5 : w5.cell? ⟨gd, 5, none⟩ = some (.int .i64 s.fl) := hd 5
    have hp := blk_cell HS6.out.up6.cells.1
    have hp1 : w5.cell? ⟨gp, 1, none⟩ = some (.int .i64 (s.n : Int)) := hp 1
    have hp2 : w5.cell? ⟨gp, 2, none⟩ = some (.slice A1 l1.length c1) := hp 2
    have hp3 : w5.cell? ⟨gp, 3, none⟩ = some (.slice A2 l2.length c2) := hp 3
    have hp4 : w5.cell? ⟨gp, 4, none⟩ = some (.int .i64 s.r) := hp 4
    have hp5 : w5.cell? ⟨gp, 5, none⟩ = some (.int .i64 s.wr) := hp 5
    have hp6 : w5.cell? ⟨gp, 6, none⟩ = some (.int .i64 s.fl) := hp 6
    have hf := blk_frozen HS6.out.up6.cells.1
    have hf1 := hf 1
    have hf2 := hf 2
    have hf3 := hf 3
    have hf4 := hf 4
    have hf5 := hf 5
    have hf6 := hf 6
    clear hd hp hf
    go_upto_region 6 with (fail)
    clear hd0 hd1 hd2 hd3 hd4 hd5 hp1 hp2 hp3 hp4 hp5 hp6 hf1 hf2 hf3 hf4 hf5 hf6
    have HS7 := Aside0.mk (HS6.out.up6.cset6 (.int .i64 (s.n : Int)) (.slice A1' l1.length c1') (.slice A2' l2.length c2') (.int .i64 (wrap64 (s.r + 1))) (.int .i64 s.wr) (.int .i64 s.fl))
    clear HS6
    generalize ((((((w5.setCell ⟨gp, 1, none⟩ (.int .i64 (s.n : Int))).setCell ⟨gp, 2, none⟩ (.slice A1' l1.length c1')).setCell ⟨gp, 3, none⟩ (.slice A2' l2.length c2')).setCell ⟨gp, 4, none⟩ (.int .i64 (wrap64 (s.r + 1)))).setCell ⟨gp, 5, none⟩ (.int .i64 s.wr)).setCell ⟨gp, 6, none⟩ (.int .i64 s.fl)) = w6 at HS7 ⊢
    have hcv1 := (show (convert 28 9 (.slice A8 (s.cur i).length c8)).run Try.prog w6 = .ok (.string (strOfNums (s.cur i))) w6 from Kd.C_string (P := Try.prog) Try.underlying28 Try.underlying5 Try.underlying9 HS7.out.up1.own_C.1)
    have hcv2 := (show (convert 28 9 (.slice A7 (s.cur i).length c7)).run Try.prog w6 = .ok (.string (strOfNums (s.cur i))) w6 from Kd.C_string (P := Try.prog) Try.underlying28 Try.underlying5 Try.underlying9 HS7.out.up4.own_C.1)
    have c9b0 : ((strOfNums (s.cur i)).toList == (strOfNums (s.cur i)).toList) = true := beq_iff_eq.mpr rfl
    go_wp2
    go_ret
    exact ⟨rfl, A1', c1', A2', c2', HS7.out.up1.drop.up2.drop.up2.drop.up3.drop⟩
  case refine_2 =>
    refine value_ (w1 := ?_) (v := ?_) (by rfl) rfl ?_ ?_
    rotate_left 2
    · go_simp
      constructor
      · rfl
      · rfl
    have HS2 := Aside0.mk (HS1.out.push_alloc #[.int .i64 0, .slice none 0 0, .slice none 0 0, .int .i64 0, .int .i64 0, .int .i64 0] 76)
    generalize wd.alloc (.cells #[.int .i64 0, .slice none 0 0, .slice none 0 0, .int .i64 0, .int .i64 0, .int .i64 0] 76) = w2 at HS2 ⊢
    generalize wd.heap.size = gd at HS2 ⊢
    refine hK.out _ _ (pr_held HS2.out.up2.up2) (fun hHeld => ?_)
    clear hK K
    refine norm_ (a' := ?_) ?_ ?_
    rotate_left
    · show Act.put _ (some 5) _ = _
      simp only [Act.put, List.setIfInBounds_toArray, List.set_cons_zero, List.set_cons_succ, i64_w, i32_w]
      rfl
    refine one_ (i := 6) (N := (some 31)) (bb 15 2175) rfl rfl (one_of HT_.out (by kernel_rfl)) (by decide) (fun K hK => ?_)
    refine goes_ Try.func48 (by kernel_rfl) rfl #[.agg #[.int .i64 (s.n : Int), .slice A1 l1.length c1, .slice A2 l2.length c2, .int .i64 s.r, .int .i64 s.wr, .int .i64 s.fl], .int .i64 (i : Int)] (by rfl) rfl rfl (by (try simp only [List.map_toArray, List.map_cons, List.map_nil]); first | done | rfl) ?_
    with_reducible refine (Sep.rRead HS2.out.up4 k0 _ _ _ _ _ _ _ _ _ _ _ _ _ HRF.out).mono ?_
    rintro e w3 ⟨A1', c1', A2', c2', A7, c7, rfl, h⟩
    have HS3 := Aside0.mk h.up2
    clear h
    have hz := blk_cell HS3.out.cells.1
    have hz0 : w3.cell? ⟨gd, 0, none⟩ = some (.int .i64 0) := hz 0
    have hz1 : w3.cell? ⟨gd, 1, none⟩ = some (.slice none 0 0) := hz 1
    have hz2 : w3.cell? ⟨gd, 2, none⟩ = some (.slice none 0 0) := hz 2
    have hz3 : w3.cell? ⟨gd, 3, none⟩ = some (.int .i64 0) := hz 3
    have hz4 : w3.cell? ⟨gd, 4, none⟩ = some (.int .i64 0) := hz 4
    have hz5 : w3.cell? ⟨gd, 5, none⟩ = some (.int .i64 0) := hz 5
    have hf := blk_frozen HS3.out.cells.1
    have hf0 := hf 0
    have hf1 := hf 1
    have hf2 := hf 2
    have hf3 := hf 3
    have hf4 := hf 4
    have hf5 := hf 5
    clear hz hf
    refine ⟨_, rfl, ?_⟩
    refine hK.out _ _ (pr_held HS3.out.up4.up4) (fun hHeld => ?_)
    clear hK K
    refine norm_ (a' := ?_) ?_ ?_
    rotate_left
    · show Act.put _ (some 31) _ = _
      simp only [Act.put, List.setIfInBounds_toArray, List.set_cons_zero, List.set_cons_succ, i64_w, i32_w]
      rfl
    refine pure_ (i := 7) (N := (some 24)) (v := ?_) (a' := ?_) (bb 15 2303) rfl rfl (any_of HT_.out (by kernel_rfl)) (fun _ _ _ h => h) (Or.inl ⟨by rfl, ?_⟩) ?_ ?_
    rotate_left
    · intro w'
      go_simp
      with_reducible rfl
    rotate_left
    · simp only [Act.put, List.setIfInBounds_toArray, List.set_cons_zero, List.set_cons_succ, i64_w, i32_w]
      rfl
    refine pure_ (i := 8) (N := (some 32)) (v := ?_) (a' := ?_) (bb 15 2559) rfl rfl (any_of HT_.out (by kernel_rfl)) (fun _ _ _ h => h) (Or.inl ⟨by rfl, ?_⟩) ?_ ?_
    rotate_left
    · intro w'
      go_simp
      with_reducible rfl
    rotate_left
    · simp only [Act.put, List.setIfInBounds_toArray, List.set_cons_zero, List.set_cons_succ, i64_w, i32_w]
      rfl
    refine pure_ (i := 9) (N := (some 33)) (v := ?_) (a' := ?_) (bb 15 3071) rfl rfl (any_of HT_.out (by kernel_rfl)) (fun _ _ _ h => h) (Or.inl ⟨by rfl, ?_⟩) ?_ ?_
    rotate_left
    · intro w'
      go_simp
      with_reducible rfl
    rotate_left
    · simp only [Act.put, List.setIfInBounds_toArray, List.set_cons_zero, List.set_cons_succ, i64_w, i32_w]
      rfl
    refine pure_ (i := 10) (N := (some 34)) (v := ?_) (a' := ?_) (bb 15 4095) rfl rfl (any_of HT_.out (by kernel_rfl)) (fun _ _ _ h => h) (Or.inl ⟨by rfl, ?_⟩) ?_ ?_
    rotate_left
    · intro w'
      go_simp
      with_reducible rfl
    rotate_left
    · simp only [Act.put, List.setIfInBounds_toArray, List.set_cons_zero, List.set_cons_succ, i64_w, i32_w]
      rfl
    refine last_ (i := 12) (N := none) (bb 15 8191) rfl rfl (one_of HT_.out (by kernel_rfl)) (by decide) (fun K hK => ?_)
    refine skip_ (w1 := ?_) (by rfl) rfl ?_ ?_
    rotate_left
    · go_simp
      first | rfl | (constructor <;> rfl)
    refine hK.out _ _ ?_
    clear hK K
    refine pure_ (i := 13) (N := (some 6)) (v := ?_) (a' := ?_) (bb 15 16383) rfl rfl (any_of HT_.out (by kernel_rfl)) (fun _ _ _ h => h) (Or.inl ⟨by rfl, ?_⟩) ?_ ?_
    rotate_left
    · intro w'
      go_simp
      with_reducible rfl
    rotate_left
    · simp only [Act.put, List.setIfInBounds_toArray, List.set_cons_zero, List.set_cons_succ, i64_w, i32_w]
      rfl
    refine pure_ (i := 14) (N := (some 7)) (v := ?_) (a' := ?_) (bb 15 32767) rfl rfl (any_of HT_.out (by kernel_rfl)) (fun _ _ _ h => h) (Or.inl ⟨by rfl, ?_⟩) ?_ ?_
    rotate_left
    · intro w'
      go_simp
      with_reducible rfl
    rotate_left
    · simp only [Act.put, List.setIfInBounds_toArray, List.set_cons_zero, List.set_cons_succ, i64_w, i32_w]
      rfl
    refine done_ (done_of HT_.out (by kernel_rfl)) ?_
    have HS4 := Aside0.mk (HS3.out.cset60 (.int .i64 (s.n : Int)) (.slice A1' l1.length c1') (.slice A2' l2.length c2') (.int .i64 (wrap64 (s.r + 1))) (.int .i64 s.wr) (.int .i64 s.fl))
    clear HS1 HS2 HS3 HRF hHeld hz0 hz1 hz2 hz3 hz4 hz5 hf0 hf1 hf2 hf3 hf4 hf5
    generalize ((((((w3.setCell ⟨gd, 0, none⟩ (.int .i64 (s.n : Int))).setCell ⟨gd, 1, none⟩ (.slice A1' l1.length c1')).setCell ⟨gd, 2, none⟩ (.slice A2' l2.length c2')).setCell ⟨gd, 3, none⟩ (.int .i64 (wrap64 (s.r + 1)))).setCell ⟨gd, 4, none⟩ (.int .i64 s.wr)).setCell ⟨gd, 5, none⟩ (.int .i64 s.fl)) = w4 at HS4 ⊢
    go_upto_region 4 with (fail)
    have HS5 := Aside0.mk (HS4.out.step (below_drew1 (Below.refl w4.heap.size w4)))
    clear HS4
    refine start_ (n := 12) (S := fun W => W.cell? ⟨gp, 0, none⟩ = some (.pointer (some ⟨g, 0, none⟩)) ∧ W.cell? ⟨gb, 1, none⟩ = some (.int .i64 (i : Int))) (ds := [6]) (bb 12 0) (by kernel_rfl) rfl rfl (⟨blk_cell HS5.out.up4.cells.1 0, blk_cell HS5.out.up3.cells.1 1⟩) (fun hHeld => ?_); refine with_tabW does4_tab does4_bits (fun HT_ HW_ => ?_)
    generalize w4.drew = wd4 at hHeld HS5 ⊢
    refine pure_ (i := 0) (N := (some 36)) (v := ?_) (a' := ?_) (bb 12 1) rfl rfl (any_of HT_.out (by kernel_rfl)) (fun _ _ _ h => h) (Or.inl ⟨by rfl, ?_⟩) ?_ ?_
    rotate_left
    · intro w'
      go_simp
      with_reducible rfl
    rotate_left
    · simp only [Act.put, List.setIfInBounds_toArray, List.set_cons_zero, List.set_cons_succ, i64_w, i32_w]
      rfl
    refine pure_ (i := 1) (N := (some 37)) (v := ?_) (a' := ?_) (bb 12 3) rfl rfl (any_of HT_.out (by kernel_rfl)) (fun _ _ _ h => h) (Or.inl ⟨by rfl, ?_⟩) ?_ ?_
    rotate_left
    · intro w'
      go_simp
      with_reducible rfl
    rotate_left
    · simp only [Act.put, List.setIfInBounds_toArray, List.set_cons_zero, List.set_cons_succ, i64_w, i32_w]
      rfl
    refine pure_ (i := 2) (N := (some 38)) (v := ?_) (a' := ?_) (bb 12 7) rfl rfl (any_of HT_.out (by kernel_rfl)) (fun _ _ _ h => h) (Or.inl ⟨by rfl, ?_⟩) ?_ ?_
    rotate_left
    · intro w'
      go_simp
      with_reducible rfl
    rotate_left
    · simp only [Act.put, List.setIfInBounds_toArray, List.set_cons_zero, List.set_cons_succ, i64_w, i32_w]
      rfl
    refine take_ (i := 3) (N := (some 39)) (v := ?_) (a' := ?_) (bb 12 15) rfl rfl (take_ofW HT_.out HW_.out (by kernel_rfl)) (fun _ _ _ h => h) (Or.inl ⟨by rfl, ?_⟩) hHeld ?_ ?_
    rotate_left
    · intro w' s0
      (try dsimp only at s0)
      go_simp
      with_reducible rfl
    rotate_left
    · simp only [Act.put, List.setIfInBounds_toArray, List.set_cons_zero, List.set_cons_succ, i64_w, i32_w]
      rfl
    refine pure_ (i := 4) (N := (some 40)) (v := ?_) (a' := ?_) (bb 12 31) rfl rfl (any_of HT_.out (by kernel_rfl)) (fun _ _ _ h => h) (Or.inl ⟨by rfl, ?_⟩) ?_ ?_
    rotate_left
    · intro w'
      go_simp
      with_reducible rfl
    rotate_left
    · simp only [Act.put, List.setIfInBounds_toArray, List.set_cons_zero, List.set_cons_succ, i64_w, i32_w]
      rfl
    refine take_ (i := 5) (N := (some 41)) (v := ?_) (a' := ?_) (bb 12 63) rfl rfl (take_ofW HT_.out HW_.out (by kernel_rfl)) (fun _ _ _ h => h) (Or.inl ⟨by rfl, ?_⟩) hHeld ?_ ?_
    rotate_left
    · intro w' s0
      (try dsimp only at s0)
      go_simp
      with_reducible rfl
    rotate_left
    · simp only [Act.put, List.setIfInBounds_toArray, List.set_cons_zero, List.set_cons_succ, i64_w, i32_w]
      rfl
    refine last_ (i := 6) (N := (some 42)) (bb 12 127) rfl rfl (one_of HT_.out (by kernel_rfl)) (by decide) (fun K hK => ?_)
    refine goes_ Try.func25 (by kernel_rfl) rfl #[.pointer (some ⟨g, 0, none⟩), .int .i64 (i : Int)] (by rfl) rfl rfl (by (try simp only [List.map_toArray, List.map_cons, List.map_nil]); first | done | rfl) ?_
    with_reducible refine (Sep.read HS5.out.up5 i HI.out).mono ?_
    rintro e w5 ⟨v8, rfl, h⟩
    obtain ⟨A8, c8, e8⟩ := h.own_slice
    subst e8
    have HS6 := Aside0.mk h
    clear h
    refine ⟨_, rfl, ?_⟩
    refine hK.out _ _ ?_
    clear hK K
    refine norm_ (a' := ?_) ?_ ?_
    rotate_left
    · show Act.put _ (some 42) _ = _
      simp only [Act.put, List.setIfInBounds_toArray, List.set_cons_zero, List.set_cons_succ, i64_w, i32_w]
      rfl
    refine pure_ (i := 7) (N := (some 35)) (v := ?_) (a' := ?_) (bb 12 255) rfl rfl (any_of HT_.out (by kernel_rfl)) (fun _ _ _ h => h) (Or.inl ⟨by rfl, ?_⟩) ?_ ?_
    rotate_left
    · intro w'
      go_simp
      with_reducible rfl
    rotate_left
    · simp only [Act.put, List.setIfInBounds_toArray, List.set_cons_zero, List.set_cons_succ, i64_w, i32_w]
      rfl
    refine pure_ (i := 8) (N := (some 43)) (v := ?_) (a' := ?_) (bb 12 511) rfl rfl (any_of HT_.out (by kernel_rfl)) (fun _ _ _ h => h) (Or.inl ⟨by rfl, ?_⟩) ?_ ?_
    rotate_left
    · intro w'
      go_simp
      with_reducible rfl
    rotate_left
    · simp only [Act.put, List.setIfInBounds_toArray, List.set_cons_zero, List.set_cons_succ, i64_w, i32_w]
      rfl
    refine pure_ (i := 9) (N := (some 44)) (v := ?_) (a' := ?_) (bb 12 1023) rfl rfl (any_of HT_.out (by kernel_rfl)) (fun _ _ _ h => h) (Or.inl ⟨by rfl, ?_⟩) ?_ ?_
    rotate_left
    · intro w'
      go_simp
      with_reducible rfl
    rotate_left
    · simp only [Act.put, List.setIfInBounds_toArray, List.set_cons_zero, List.set_cons_succ, i64_w, i32_w]
      rfl
    refine pure_ (i := 10) (N := (some 8)) (v := ?_) (a' := ?_) (bb 12 2047) rfl rfl (any_of HT_.out (by kernel_rfl)) (fun _ _ _ h => h) (Or.inl ⟨by rfl, ?_⟩) ?_ ?_
    rotate_left
    · intro w'
      go_simp
      with_reducible rfl
    rotate_left
    · simp only [Act.put, List.setIfInBounds_toArray, List.set_cons_zero, List.set_cons_succ, i64_w, i32_w]
      rfl
    refine pure_ (i := 11) (N := (some 9)) (v := ?_) (a' := ?_) (bb 12 4095) rfl rfl (any_of HT_.out (by kernel_rfl)) (fun _ _ _ h => h) (Or.inl ⟨by rfl, ?_⟩) ?_ ?_
    rotate_left
    · intro w'
      go_simp
      with_reducible rfl
    rotate_left
    · simp only [Act.put, List.setIfInBounds_toArray, List.set_cons_zero, List.set_cons_succ, i64_w, i32_w]
      rfl
    refine done_ (done_of HT_.out (by kernel_rfl)) ?_
    clear HS5
    have hd := blk_cell HS6.out.up2.cells.1
    have hd0 : w5.cell? ⟨gd, 0, none⟩ = some (.int .i64 (s.n : Int)) := hd 0
    have hd1 : w5.cell? ⟨gd, 1, none⟩ = some (.slice A1' l1.length c1') := hd 1
    have hd2 : w5.cell? ⟨gd, 2, none⟩ = some (.slice A2' l2.length c2') := hd 2
    have hd3 : w5.cell? ⟨gd, 3, none⟩ = some (.int .i64 (wrap64 (s.r + 1))) := hd 3
    have hd4 : w5.cell? ⟨gd, 4, none⟩ = some (.int .i64 s.wr) := hd 4
    have hd5 : w5.cell? ⟨gd, 5, none⟩ = some (.int .i64 s.fl) := hd 5
    have hp := blk_cell HS6.out.up6.cells.1
    have hp1 : w5.cell? ⟨gp, 1, none⟩ = some (.int .i64 (s.n : Int)) := hp 1
    have hp2 : w5.cell? ⟨gp, 2, none⟩ = some (.slice A1 l1.length c1) := hp 2
    have hp3 : w5.cell? ⟨gp, 3, none⟩ = some (.slice A2 l2.length c2) := hp 3
    have hp4 : w5.cell? ⟨gp, 4, none⟩ = some (.int .i64 s.r) := hp 4
    have hp5 : w5.cell? ⟨gp, 5, none⟩ = some (.int .i64 s.wr) := hp 5
    have hp6 : w5.cell? ⟨gp, 6, none⟩ = some (.int .i64 s.fl) := hp 6
    have hf := blk_frozen HS6.out.up6.cells.1
    have hf1 := hf 1
    have hf2 := hf 2
    have hf3 := hf 3
    have hf4 := hf 4
    have hf5 := hf 5
    have hf6 := hf 6
    clear hd hp hf
    go_upto_region 6 with (fail)
    clear hd0 hd1 hd2 hd3 hd4 hd5 hp1 hp2 hp3 hp4 hp5 hp6 hf1 hf2 hf3 hf4 hf5 hf6
    have HS7 := Aside0.mk (HS6.out.up6.cset6 (.int .i64 (s.n : Int)) (.slice A1' l1.length c1') (.slice A2' l2.length c2') (.int .i64 (wrap64 (s.r + 1))) (.int .i64 s.wr) (.int .i64 s.fl))
    clear HS6
    generalize ((((((w5.setCell ⟨gp, 1, none⟩ (.int .i64 (s.n : Int))).setCell ⟨gp, 2, none⟩ (.slice A1' l1.length c1')).setCell ⟨gp, 3, none⟩ (.slice A2' l2.length c2')).setCell ⟨gp, 4, none⟩ (.int .i64 (wrap64 (s.r + 1)))).setCell ⟨gp, 5, none⟩ (.int .i64 s.wr)).setCell ⟨gp, 6, none⟩ (.int .i64 s.fl)) = w6 at HS7 ⊢
    have hcv1 := (show (convert 28 9 (.slice A8 (s.cur i).length c8)).run Try.prog w6 = .ok (.string (strOfNums (s.cur i))) w6 from Kd.C_string (P := Try.prog) Try.underlying28 Try.underlying5 Try.underlying9 HS7.out.up1.own_C.1)
    have hcv2 := (show (convert 28 9 (.slice A7 (s.cur i).length c7)).run Try.prog w6 = .ok (.string (strOfNums (s.cur i))) w6 from Kd.C_string (P := Try.prog) Try.underlying28 Try.underlying5 Try.underlying9 HS7.out.up4.own_C.1)
    have c9b0 : ((strOfNums (s.cur i)).toList == (strOfNums (s.cur i)).toList) = true := beq_iff_eq.mpr rfl
    go_wp2
    go_ret
    exact ⟨rfl, A1', c1', A2', c2', HS7.out.up1.drop.up2.drop.up2.drop.up3.drop⟩
end Go.Proofs.Ytddnhcnkjcdfgaa.M

namespace Go.Proofs.Ytddnhcnkjcdfgaa.M
open Go.RowKit Go.Maps Go.Proofs.YtddnhcnkjcdfgaaW.PrintWords Go.Proofs.YtddnhcnkjcdfgaaW.PrintLast Go.Proofs.YtddnhcnkjcdfgaaW.PrintMore
open Go.Proofs.Ytddnhcnkjcdfgaa.P hiding S106 k106 rd_T106 at_T106
open Go.Proofs.Ytddnhcnkjcdfgaa.R
set_option linter.unusedVariables false
set_option linter.unusedSimpArgs false
variable {w0 : World} {L : List Th}
def does3n_T : Bool × List (List Nat × List Nat) := (true, [([], []), ([0], [0]), ([1], [1]), ([2], [2]), ([], []), ([4], [4]), ([3, 5], [3, 5]), ([6], [6]), ([7], [7]), ([7], [7]), ([7], [7]), ([], []), ([11, 8, 6, 0, 1, 2, 3, 4, 5, 6, 7, 8, 11], [8, 11]), ([9, 12, 0, 1, 2, 3, 4, 5, 6, 7, 8, 9, 11, 12], [9]), ([10, 13, 0, 1, 2, 3, 4, 5, 6, 7, 8, 9, 10, 11, 12, 13], [10])])
def does3n_B : List Nat := [0, 1, 3, 7, 0, 16, 63, 127, 255, 255, 255, 0, 2559, 7167, 16383]
theorem does3n_tab : rtab .any (opsOf Try.f38 3) = does3n_T := by kernel_rfl
theorem does3n_bits : waitsOk does3n_T.2 does3n_B = true := by kernel_rfl
def does4n_T : Bool × List (List Nat × List Nat) := (true, [([], []), ([0], [0]), ([1], [1]), ([2], [2]), ([], []), ([4], [4]), ([3, 5], [3, 5]), ([6], [6]), ([7], [7]), ([7], [7]), ([8, 6, 0, 1, 2, 3, 4, 5, 6, 7, 8], [8]), ([9, 10, 0, 1, 2, 3, 4, 5, 6, 7, 8, 9, 10], [9])])
def does4n_B : List Nat := [0, 1, 3, 7, 0, 16, 63, 127, 255, 255, 511, 2047]
theorem does4n_tab : rtab .any (opsOf Try.f38 4) = does4n_T := by kernel_rfl
theorem does4n_bits : waitsOk does4n_T.2 does4n_B = true := by kernel_rfl
set_option maxHeartbeats 8000000 in
set_option maxRecDepth 100000 in
theorem does_read_no (gp g : Nat) (s : DS) (A1 : Option Addr) (c1 : Nat) (A2 : Option Addr) (c2 : Nat) (l1 l2 : List S106) (w : World)
    (h : Sep w0 w (cellsT gp (prC g s (.slice A1 l1.length c1) (.slice A2 l2.length c2)) 78 :: dkT g s :: refT (.slice A1 l1.length c1) (.slice A2 l2.length c2) l1 l2 :: L)) (hl : l1.length + l2.length ≤ 1000000) (hR : Rl s l1 l2) (a : Int) (hi : ¬ (0 ≤ a ∧ a < (s.n : Int)))
    (t fl : Int) (dv fv : Value) :
    Calls Try.prog 38 #[.pointer (some ⟨gp, 0, none⟩), .agg #[.int .i64 0, .int .i64 a, .int .i64 t, dv, .int .i64 fl, fv]] w fun e w' => e = .returned (.bool true) ∧ ∃ A1' c1' A2' c2',
      Sep w0 w' (cellsT gp (prC g s (.slice A1' l1.length c1') (.slice A2' l2.length c2')) 78 :: dkT g s :: refT (.slice A1' l1.length c1') (.slice A2' l2.length c2') l1 l2 :: L) := by
  have HS0 := Aside0.mk (h.push_alloc #[.int .i64 0, .int .i64 a, .int .i64 t, dv, .int .i64 fl, fv] 73)
  have hk0 := read_no l1 l2 s.n a s.r s.wr s.fl hi 1
  generalize hk00 : 1 = k0 at hk0
  have HRF := Aside0.mk hk0
  have HI := Aside0.mk hi
  clear h hl hk0 hk00 hR hi
  go_enter Try.func38, Try.ntmps38
  go_upto_region 1 with (fail)
  generalize w.alloc (.cells #[.int .i64 0, .int .i64 a, .int .i64 t, dv, .int .i64 fl, fv] 73) = w1 at HS0 ⊢
  generalize w.heap.size = gb at HS0 ⊢
  have hk : w1.cell? ⟨gb, 0, none⟩ = some (.int .i64 0) := blk_cell HS0.out.cells.1 0
  go_upto_region 3 with (fail)
  have HS1 := Aside0.mk (HS0.out.step (below_drew1 (Below.refl w1.heap.size w1)))
  clear hk
  refine start_ (n := 15) (S := fun W => W.cell? ⟨gp, 1, none⟩ = some (.int .i64 (s.n : Int)) ∧ W.cell? ⟨gp, 2, none⟩ = some (.slice A1 l1.length c1) ∧ W.cell? ⟨gp, 3, none⟩ = some (.slice A2 l2.length c2) ∧ W.cell? ⟨gp, 4, none⟩ = some (.int .i64 s.r) ∧ W.cell? ⟨gp, 5, none⟩ = some (.int .i64 s.wr) ∧ W.cell? ⟨gp, 6, none⟩ = some (.int .i64 s.fl) ∧ W.cell? ⟨gb, 1, none⟩ = some (.int .i64 a)) (ds := [12]) (bb 15 0) (by kernel_rfl) rfl rfl ((pr_held HS1.out)) (fun hHeld => ?_); refine with_tabW does3n_tab does3n_bits (fun HT_ HW_ => ?_)
  generalize w1.drew = wd at hHeld HS1 ⊢
  refine pure_ (i := 0) (N := (some 25)) (v := ?_) (a' := ?_) (bb 15 1) rfl rfl (any_of HT_.out (by kernel_rfl)) (fun _ _ _ h => h) (Or.inl ⟨by rfl, ?_⟩) ?_ ?_
  rotate_left
  · intro w'
    go_simp
    with_reducible rfl
  rotate_left
  · simp only [Act.put, List.setIfInBounds_toArray, List.set_cons_zero, List.set_cons_succ, i64_w, i32_w]
    rfl
  refine pure_ (i := 1) (N := (some 26)) (v := ?_) (a' := ?_) (bb 15 3) rfl rfl (any_of HT_.out (by kernel_rfl)) (fun _ _ _ h => h) (Or.inl ⟨by rfl, ?_⟩) ?_ ?_
  rotate_left
  · intro w'
    go_simp
    with_reducible rfl
  rotate_left
  · simp only [Act.put, List.setIfInBounds_toArray, List.set_cons_zero, List.set_cons_succ, i64_w, i32_w]
    rfl
  refine pure_ (i := 2) (N := (some 27)) (v := ?_) (a' := ?_) (bb 15 7) rfl rfl (any_of HT_.out (by kernel_rfl)) (fun _ _ _ h => h) (Or.inl ⟨by rfl, ?_⟩) ?_ ?_
  rotate_left
  · intro w'
    go_simp
    with_reducible rfl
  rotate_left
  · simp only [Act.put, List.setIfInBounds_toArray, List.set_cons_zero, List.set_cons_succ, i64_w, i32_w]
    rfl
  refine take_ (i := 3) (N := (some 28)) (v := ?_) (a' := ?_) (bb 15 15) rfl rfl (take_ofW HT_.out HW_.out (by kernel_rfl)) (fun _ _ _ h => h) (Or.inl ⟨by rfl, ?_⟩) hHeld ?_ ?_
  rotate_left
  · intro w' s0
    (try dsimp only at s0)
    go_simp
    with_reducible rfl
  rotate_left
  · simp only [Act.put, List.setIfInBounds_toArray, List.set_cons_zero, List.set_cons_succ, i64_w, i32_w]
    rfl
  refine pure_ (i := 4) (N := (some 29)) (v := ?_) (a' := ?_) (bb 15 31) rfl rfl (any_of HT_.out (by kernel_rfl)) (fun _ _ _ h => h) (Or.inl ⟨by rfl, ?_⟩) ?_ ?_
  rotate_left
  · intro w'
    go_simp
    with_reducible rfl
  rotate_left
  · simp only [Act.put, List.setIfInBounds_toArray, List.set_cons_zero, List.set_cons_succ, i64_w, i32_w]
    rfl
  refine take_ (i := 5) (N := (some 30)) (v := ?_) (a' := ?_) (bb 15 63) rfl rfl (take_ofW HT_.out HW_.out (by kernel_rfl)) (fun _ _ _ h => h) (Or.inl ⟨by rfl, ?_⟩) hHeld ?_ ?_
  rotate_left
  · intro w' s0
    (try dsimp only at s0)
    go_simp
    with_reducible rfl
  rotate_left
  · simp only [Act.put, List.setIfInBounds_toArray, List.set_cons_zero, List.set_cons_succ, i64_w, i32_w]
    rfl
  clear HS0
  refine two_ (i := 6) (j := 11) (Ni := some 31) (Nj := some 5) (bb 15 127) (bb 15 2111) rfl rfl rfl rfl (two_of HT_.out (by kernel_rfl)) (by decide) (by decide) (fun K hK => ?_) (fun K hK => ?_)
  case refine_1 =>
    refine goes_ Try.func48 (by kernel_rfl) rfl #[.agg #[.int .i64 (s.n : Int), .slice A1 l1.length c1, .slice A2 l2.length c2, .int .i64 s.r, .int .i64 s.wr, .int .i64 s.fl], .int .i64 a] (by rfl) rfl rfl (by (try simp only [List.map_toArray, List.map_cons, List.map_nil]); first | done | rfl) ?_
    with_reducible refine (Sep.rRead HS1.out.up3 k0 _ _ _ _ _ _ _ _ _ _ _ _ _ HRF.out).mono ?_
    rintro e w2 ⟨A1', c1', A2', c2', A7, c7, rfl, h⟩
    have HS2 := Aside0.mk h
    clear h
    refine ⟨_, rfl, ?_⟩
    refine hK.out _ _ (pr_held HS2.out.up3.up3) (fun hHeld => ?_)
    clear hK K
    refine norm_ (a' := ?_) ?_ ?_
    rotate_left
    · show Act.put _ (some 31) _ = _
      simp only [Act.put, List.setIfInBounds_toArray, List.set_cons_zero, List.set_cons_succ, i64_w, i32_w]
      rfl
    refine pure_ (i := 7) (N := (some 24)) (v := ?_) (a' := ?_) (bb 15 255) rfl rfl (any_of HT_.out (by kernel_rfl)) (fun _ _ _ h => h) (Or.inl ⟨by rfl, ?_⟩) ?_ ?_
    rotate_left
    · intro w'
      go_simp
      with_reducible rfl
    rotate_left
    · simp only [Act.put, List.setIfInBounds_toArray, List.set_cons_zero, List.set_cons_succ, i64_w, i32_w]
      rfl
    refine pure_ (i := 8) (N := (some 32)) (v := ?_) (a' := ?_) (bb 15 511) rfl rfl (any_of HT_.out (by kernel_rfl)) (fun _ _ _ h => h) (Or.inl ⟨by rfl, ?_⟩) ?_ ?_
    rotate_left
    · intro w'
      go_simp
      with_reducible rfl
    rotate_left
    · simp only [Act.put, List.setIfInBounds_toArray, List.set_cons_zero, List.set_cons_succ, i64_w, i32_w]
      rfl
    refine pure_ (i := 9) (N := (some 33)) (v := ?_) (a' := ?_) (bb 15 1023) rfl rfl (any_of HT_.out (by kernel_rfl)) (fun _ _ _ h => h) (Or.inl ⟨by rfl, ?_⟩) ?_ ?_
    rotate_left
    · intro w'
      go_simp
      with_reducible rfl
    rotate_left
    · simp only [Act.put, List.setIfInBounds_toArray, List.set_cons_zero, List.set_cons_succ, i64_w, i32_w]
      rfl
    refine pure_ (i := 10) (N := (some 34)) (v := ?_) (a' := ?_) (bb 15 2047) rfl rfl (any_of HT_.out (by kernel_rfl)) (fun _ _ _ h => h) (Or.inl ⟨by rfl, ?_⟩) ?_ ?_
    rotate_left
    · intro w'
      go_simp
      with_reducible rfl
    rotate_left
    · simp only [Act.put, List.setIfInBounds_toArray, List.set_cons_zero, List.set_cons_succ, i64_w, i32_w]
      rfl
    refine one_ (i := 11) (N := (some 5)) (bb 15 4095) rfl rfl (one_of HT_.out (by kernel_rfl)) (by decide) (fun K hK => ?_)
    refine value_ (w1 := ?_) (v := ?_) (by rfl) rfl ?_ ?_
    rotate_left 2
    · go_simp
      constructor
      · rfl
      · rfl
    have HS3 := Aside0.mk (HS2.out.push_alloc #[.int .i64 0, .slice none 0 0, .slice none 0 0, .int .i64 0, .int .i64 0, .int .i64 0] 76)
    generalize w2.alloc (.cells #[.int .i64 0, .slice none 0 0, .slice none 0 0, .int .i64 0, .int .i64 0, .int .i64 0] 76) = w3 at HS3 ⊢
    generalize w2.heap.size = gd at HS3 ⊢
    have hz := blk_cell HS3.out.cells.1
    have hz0 : w3.cell? ⟨gd, 0, none⟩ = some (.int .i64 0) := hz 0
    have hz1 : w3.cell? ⟨gd, 1, none⟩ = some (.slice none 0 0) := hz 1
    have hz2 : w3.cell? ⟨gd, 2, none⟩ = some (.slice none 0 0) := hz 2
    have hz3 : w3.cell? ⟨gd, 3, none⟩ = some (.int .i64 0) := hz 3
    have hz4 : w3.cell? ⟨gd, 4, none⟩ = some (.int .i64 0) := hz 4
    have hz5 : w3.cell? ⟨gd, 5, none⟩ = some (.int .i64 0) := hz 5
    have hf := blk_frozen HS3.out.cells.1
    have hf0 := hf 0
    have hf1 := hf 1
    have hf2 := hf 2
    have hf3 := hf 3
    have hf4 := hf 4
    have hf5 := hf 5
    clear hz hf
    refine hK.out _ _ (pr_held HS3.out.up4.up4) (fun hHeld => ?_)
    clear hK K
    refine norm_ (a' := ?_) ?_ ?_
    rotate_left
    · show Act.put _ (some 5) _ = _
      simp only [Act.put, List.setIfInBounds_toArray, List.set_cons_zero, List.set_cons_succ, i64_w, i32_w]
      rfl
    refine last_ (i := 12) (N := none) (bb 15 8191) rfl rfl (one_of HT_.out (by kernel_rfl)) (by decide) (fun K hK => ?_)
    refine skip_ (w1 := ?_) (by rfl) rfl ?_ ?_
    rotate_left
    · go_simp
      first | rfl | (constructor <;> rfl)
    refine hK.out _ _ ?_
    clear hK K
    refine pure_ (i := 13) (N := (some 6)) (v := ?_) (a' := ?_) (bb 15 16383) rfl rfl (any_of HT_.out (by kernel_rfl)) (fun _ _ _ h => h) (Or.inl ⟨by rfl, ?_⟩) ?_ ?_
    rotate_left
    · intro w'
      go_simp
      with_reducible rfl
    rotate_left
    · simp only [Act.put, List.setIfInBounds_toArray, List.set_cons_zero, List.set_cons_succ, i64_w, i32_w]
      rfl
    refine pure_ (i := 14) (N := (some 7)) (v := ?_) (a' := ?_) (bb 15 32767) rfl rfl (any_of HT_.out (by kernel_rfl)) (fun _ _ _ h => h) (Or.inl ⟨by rfl, ?_⟩) ?_ ?_
    rotate_left
    · intro w'
      go_simp
      with_reducible rfl
    rotate_left
    · simp only [Act.put, List.setIfInBounds_toArray, List.set_cons_zero, List.set_cons_succ, i64_w, i32_w]
      rfl
    refine done_ (done_of HT_.out (by kernel_rfl)) ?_
    have HS4 := Aside0.mk (HS3.out.cset60 (.int .i64 (s.n : Int)) (.slice A1' l1.length c1') (.slice A2' l2.length c2') (.int .i64 s.r) (.int .i64 s.wr) (.int .i64 s.fl))
    clear HS1 HS2 HS3 HRF hHeld hz0 hz1 hz2 hz3 hz4 hz5 hf0 hf1 hf2 hf3 hf4 hf5
    generalize ((((((w3.setCell ⟨gd, 0, none⟩ (.int .i64 (s.n : Int))).setCell ⟨gd, 1, none⟩ (.slice A1' l1.length c1')).setCell ⟨gd, 2, none⟩ (.slice A2' l2.length c2')).setCell ⟨gd, 3, none⟩ (.int .i64 s.r)).setCell ⟨gd, 4, none⟩ (.int .i64 s.wr)).setCell ⟨gd, 5, none⟩ (.int .i64 s.fl)) = w4 at HS4 ⊢
    go_upto_region 4 with (fail)
    have HS5 := Aside0.mk (HS4.out.step (below_drew1 (Below.refl w4.heap.size w4)))
    clear HS4
    refine start_ (n := 12) (S := fun W => W.cell? ⟨gp, 0, none⟩ = some (.pointer (some ⟨g, 0, none⟩)) ∧ W.cell? ⟨gb, 1, none⟩ = some (.int .i64 a)) (ds := [6]) (bb 12 0) (by kernel_rfl) rfl rfl (⟨blk_cell HS5.out.up4.cells.1 0, blk_cell HS5.out.up3.cells.1 1⟩) (fun hHeld => ?_); refine with_tabW does4n_tab does4n_bits (fun HT_ HW_ => ?_)
    generalize w4.drew = wd4 at hHeld HS5 ⊢
    refine pure_ (i := 0) (N := (some 36)) (v := ?_) (a' := ?_) (bb 12 1) rfl rfl (any_of HT_.out (by kernel_rfl)) (fun _ _ _ h => h) (Or.inl ⟨by rfl, ?_⟩) ?_ ?_
    rotate_left
    · intro w'
      go_simp
      with_reducible rfl
    rotate_left
    · simp only [Act.put, List.setIfInBounds_toArray, List.set_cons_zero, List.set_cons_succ, i64_w, i32_w]
      rfl
    refine pure_ (i := 1) (N := (some 37)) (v := ?_) (a' := ?_) (bb 12 3) rfl rfl (any_of HT_.out (by kernel_rfl)) (fun _ _ _ h => h) (Or.inl ⟨by rfl, ?_⟩) ?_ ?_
    rotate_left
    · intro w'
      go_simp
      with_reducible rfl
    rotate_left
    · simp only [Act.put, List.setIfInBounds_toArray, List.set_cons_zero, List.set_cons_succ, i64_w, i32_w]
      rfl
    refine pure_ (i := 2) (N := (some 38)) (v := ?_) (a' := ?_) (bb 12 7) rfl rfl (any_of HT_.out (by kernel_rfl)) (fun _ _ _ h => h) (Or.inl ⟨by rfl, ?_⟩) ?_ ?_
    rotate_left
    · intro w'
      go_simp
      with_reducible rfl
    rotate_left
    · simp only [Act.put, List.setIfInBounds_toArray, List.set_cons_zero, List.set_cons_succ, i64_w, i32_w]
      rfl
    refine take_ (i := 3) (N := (some 39)) (v := ?_) (a' := ?_) (bb 12 15) rfl rfl (take_ofW HT_.out HW_.out (by kernel_rfl)) (fun _ _ _ h => h) (Or.inl ⟨by rfl, ?_⟩) hHeld ?_ ?_
    rotate_left
    · intro w' s0
      (try dsimp only at s0)
      go_simp
      with_reducible rfl
    rotate_left
    · simp only [Act.put, List.setIfInBounds_toArray, List.set_cons_zero, List.set_cons_succ, i64_w, i32_w]
      rfl
    refine pure_ (i := 4) (N := (some 40)) (v := ?_) (a' := ?_) (bb 12 31) rfl rfl (any_of HT_.out (by kernel_rfl)) (fun _ _ _ h => h) (Or.inl ⟨by rfl, ?_⟩) ?_ ?_
    rotate_left
    · intro w'
      go_simp
      with_reducible rfl
    rotate_left
    · simp only [Act.put, List.setIfInBounds_toArray, List.set_cons_zero, List.set_cons_succ, i64_w, i32_w]
      rfl
    refine take_ (i := 5) (N := (some 41)) (v := ?_) (a' := ?_) (bb 12 63) rfl rfl (take_ofW HT_.out HW_.out (by kernel_rfl)) (fun _ _ _ h => h) (Or.inl ⟨by rfl, ?_⟩) hHeld ?_ ?_
    rotate_left
    · intro w' s0
      (try dsimp only at s0)
      go_simp
      with_reducible rfl
    rotate_left
    · simp only [Act.put, List.setIfInBounds_toArray, List.set_cons_zero, List.set_cons_succ, i64_w, i32_w]
      rfl
    refine last_ (i := 6) (N := (some 42)) (bb 12 127) rfl rfl (one_of HT_.out (by kernel_rfl)) (by decide) (fun K hK => ?_)
    refine goes_ Try.func25 (by kernel_rfl) rfl #[.pointer (some ⟨g, 0, none⟩), .int .i64 a] (by rfl) rfl rfl (by (try simp only [List.map_toArray, List.map_cons, List.map_nil]); first | done | rfl) ?_
    with_reducible refine (Sep.read_none HS5.out.up5 a HI.out).mono ?_
    rintro e w5 ⟨rfl, hw⟩
    subst hw
    have HS6 := Aside0.mk (Sep.push_nil (d := Kd.int .u8) (e := 5) HS5.out.up5)
    refine ⟨_, rfl, ?_⟩
    refine hK.out _ _ ?_
    clear hK K
    refine norm_ (a' := ?_) ?_ ?_
    rotate_left
    · show Act.put _ (some 42) _ = _
      simp only [Act.put, List.setIfInBounds_toArray, List.set_cons_zero, List.set_cons_succ, i64_w, i32_w]
      rfl
    refine pure_ (i := 7) (N := (some 35)) (v := ?_) (a' := ?_) (bb 12 255) rfl rfl (any_of HT_.out (by kernel_rfl)) (fun _ _ _ h => h) (Or.inl ⟨by rfl, ?_⟩) ?_ ?_
    rotate_left
    · intro w'
      go_simp
      with_reducible rfl
    rotate_left
    · simp only [Act.put, List.setIfInBounds_toArray, List.set_cons_zero, List.set_cons_succ, i64_w, i32_w]
      rfl
    refine pure_ (i := 8) (N := (some 43)) (v := ?_) (a' := ?_) (bb 12 511) rfl rfl (any_of HT_.out (by kernel_rfl)) (fun _ _ _ h => h) (Or.inl ⟨by rfl, ?_⟩) ?_ ?_
    rotate_left
    · intro w'
      go_simp
      with_reducible rfl
    rotate_left
    · simp only [Act.put, List.setIfInBounds_toArray, List.set_cons_zero, List.set_cons_succ, i64_w, i32_w]
      rfl
    refine pure_ (i := 9) (N := (some 44)) (v := ?_) (a' := ?_) (bb 12 1023) rfl rfl (any_of HT_.out (by kernel_rfl)) (fun _ _ _ h => h) (Or.inl ⟨by rfl, ?_⟩) ?_ ?_
    rotate_left
    · intro w'
      go_simp
      with_reducible rfl
    rotate_left
    · simp only [Act.put, List.setIfInBounds_toArray, List.set_cons_zero, List.set_cons_succ, i64_w, i32_w]
      rfl
    refine pure_ (i := 10) (N := (some 8)) (v := ?_) (a' := ?_) (bb 12 2047) rfl rfl (any_of HT_.out (by kernel_rfl)) (fun _ _ _ h => h) (Or.inl ⟨by rfl, ?_⟩) ?_ ?_
    rotate_left
    · intro w'
      go_simp
      with_reducible rfl
    rotate_left
    · simp only [Act.put, List.setIfInBounds_toArray, List.set_cons_zero, List.set_cons_succ, i64_w, i32_w]
      rfl
    refine pure_ (i := 11) (N := (some 9)) (v := ?_) (a' := ?_) (bb 12 4095) rfl rfl (any_of HT_.out (by kernel_rfl)) (fun _ _ _ h => h) (Or.inl ⟨by rfl, ?_⟩) ?_ ?_
    rotate_left
    · intro w'
      go_simp
      with_reducible rfl
    rotate_left
    · simp only [Act.put, List.setIfInBounds_toArray, List.set_cons_zero, List.set_cons_succ, i64_w, i32_w]
      rfl
    refine done_ (done_of HT_.out (by kernel_rfl)) ?_
    clear HS5
    have hd := blk_cell HS6.out.up2.cells.1
    have hd0 : w5.cell? ⟨gd, 0, none⟩ = some (.int .i64 (s.n : Int)) := hd 0
    have hd1 : w5.cell? ⟨gd, 1, none⟩ = some (.slice A1' l1.length c1') := hd 1
    have hd2 : w5.cell? ⟨gd, 2, none⟩ = some (.slice A2' l2.length c2') := hd 2
    have hd3 : w5.cell? ⟨gd, 3, none⟩ = some (.int .i64 s.r) := hd 3
    have hd4 : w5.cell? ⟨gd, 4, none⟩ = some (.int .i64 s.wr) := hd 4
    have hd5 : w5.cell? ⟨gd, 5, none⟩ = some (.int .i64 s.fl) := hd 5
    have hp := blk_cell HS6.out.up6.cells.1
    have hp1 : w5.cell? ⟨gp, 1, none⟩ = some (.int .i64 (s.n : Int)) := hp 1
    have hp2 : w5.cell? ⟨gp, 2, none⟩ = some (.slice A1 l1.length c1) := hp 2
    have hp3 : w5.cell? ⟨gp, 3, none⟩ = some (.slice A2 l2.length c2) := hp 3
    have hp4 : w5.cell? ⟨gp, 4, none⟩ = some (.int .i64 s.r) := hp 4
    have hp5 : w5.cell? ⟨gp, 5, none⟩ = some (.int .i64 s.wr) := hp 5
    have hp6 : w5.cell? ⟨gp, 6, none⟩ = some (.int .i64 s.fl) := hp 6
    have hf := blk_frozen HS6.out.up6.cells.1
    have hf1 := hf 1
    have hf2 := hf 2
    have hf3 := hf 3
    have hf4 := hf 4
    have hf5 := hf 5
    have hf6 := hf 6
    clear hd hp hf
    go_upto_region 6 with (fail)
    clear hd0 hd1 hd2 hd3 hd4 hd5 hp1 hp2 hp3 hp4 hp5 hp6 hf1 hf2 hf3 hf4 hf5 hf6
    have HS7 := Aside0.mk (HS6.out.up6.cset6 (.int .i64 (s.n : Int)) (.slice A1' l1.length c1') (.slice A2' l2.length c2') (.int .i64 s.r) (.int .i64 s.wr) (.int .i64 s.fl))
    clear HS6
    generalize ((((((w5.setCell ⟨gp, 1, none⟩ (.int .i64 (s.n : Int))).setCell ⟨gp, 2, none⟩ (.slice A1' l1.length c1')).setCell ⟨gp, 3, none⟩ (.slice A2' l2.length c2')).setCell ⟨gp, 4, none⟩ (.int .i64 s.r)).setCell ⟨gp, 5, none⟩ (.int .i64 s.wr)).setCell ⟨gp, 6, none⟩ (.int .i64 s.fl)) = w6 at HS7 ⊢
    have hcv1 := (show (convert 28 9 (.slice none 0 0)).run Try.prog w6 = .ok (.string (strOfNums [])) w6 from Kd.C_string (P := Try.prog) Try.underlying28 Try.underlying5 Try.underlying9 HS7.out.up1.own_C.1)
    have hcv2 := (show (convert 28 9 (.slice A7 0 c7)).run Try.prog w6 = .ok (.string (strOfNums [])) w6 from Kd.C_string (P := Try.prog) Try.underlying28 Try.underlying5 Try.underlying9 HS7.out.up4.own_C.1)
    have c9b0 : ((strOfNums []).toList == (strOfNums []).toList) = true := beq_iff_eq.mpr rfl
    go_wp2
    go_ret
    exact ⟨rfl, A1', c1', A2', c2', HS7.out.up1.drop.up2.drop.up2.drop.up3.drop⟩
  case refine_2 =>
    refine value_ (w1 := ?_) (v := ?_) (by rfl) rfl ?_ ?_
    rotate_left 2
    · go_simp
      constructor
      · rfl
      · rfl
    have HS2 := Aside0.mk (HS1.out.push_alloc #[.int .i64 0, .slice none 0 0, .slice none 0 0, .int .i64 0, .int .i64 0, .int .i64 0] 76)
    generalize wd.alloc (.cells #[.int .i64 0, .slice none 0 0, .slice none 0 0, .int .i64 0, .int .i64 0, .int .i64 0] 76) = w2 at HS2 ⊢
    generalize wd.heap.size = gd at HS2 ⊢
    refine hK.out _ _ (pr_held HS2.out.up2.up2) (fun hHeld => ?_)
    clear hK K
    refine norm_ (a' := ?_) ?_ ?_
    rotate_left
    · show Act.put _ (some 5) _ = _
      simp only [Act.put, List.setIfInBounds_toArray, List.set_cons_zero, List.set_cons_succ, i64_w, i32_w]
      rfl
    refine one_ (i := 6) (N := (some 31)) (bb 15 2175) rfl rfl (one_of HT_.out (by kernel_rfl)) (by decide) (fun K hK => ?_)
    refine goes_ Try.func48 (by kernel_rfl) rfl #[.agg #[.int .i64 (s.n : Int), .slice A1 l1.length c1, .slice A2 l2.length c2, .int .i64 s.r, .int .i64 s.wr, .int .i64 s.fl], .int .i64 a] (by rfl) rfl rfl (by (try simp only [List.map_toArray, List.map_cons, List.map_nil]); first | done | rfl) ?_
    with_reducible refine (Sep.rRead HS2.out.up4 k0 _ _ _ _ _ _ _ _ _ _ _ _ _ HRF.out).mono ?_
    rintro e w3 ⟨A1', c1', A2', c2', A7, c7, rfl, h⟩
    have HS3 := Aside0.mk h.up2
    clear h
    have hz := blk_cell HS3.out.cells.1
    have hz0 : w3.cell? ⟨gd, 0, none⟩ = some (.int .i64 0) := hz 0
    have hz1 : w3.cell? ⟨gd, 1, none⟩ = some (.slice none 0 0) := hz 1
    have hz2 : w3.cell? ⟨gd, 2, none⟩ = some (.slice none 0 0) := hz 2
    have hz3 : w3.cell? ⟨gd, 3, none⟩ = some (.int .i64 0) := hz 3
    have hz4 : w3.cell? ⟨gd, 4, none⟩ = some (.int .i64 0) := hz 4
    have hz5 : w3.cell? ⟨gd, 5, none⟩ = some (.int .i64 0) := hz 5
    have hf := blk_frozen HS3.out.cells.1
    have hf0 := hf 0
    have hf1 := hf 1
    have hf2 := hf 2
    have hf3 := hf 3
    have hf4 := hf 4
    have hf5 := hf 5
    clear hz hf
    refine ⟨_, rfl, ?_⟩
    refine hK.out _ _ (pr_held HS3.out.up4.up4) (fun hHeld => ?_)
    clear hK K
    refine norm_ (a' := ?_) ?_ ?_
    rotate_left
    · show Act.put _ (some 31) _ = _
      simp only [Act.put, List.setIfInBounds_toArray, List.set_cons_zero, List.set_cons_succ, i64_w, i32_w]
      rfl
    refine pure_ (i := 7) (N := (some 24)) (v := ?_) (a' := ?_) (bb 15 2303) rfl rfl (any_of HT_.out (by kernel_rfl)) (fun _ _ _ h => h) (Or.inl ⟨by rfl, ?_⟩) ?_ ?_
    rotate_left
    · intro w'
      go_simp
      with_reducible rfl
    rotate_left
    · simp only [Act.put, List.setIfInBounds_toArray, List.set_cons_zero, List.set_cons_succ, i64_w, i32_w]
      rfl
    refine pure_ (i := 8) (N := (some 32)) (v := ?_) (a' := ?_) (bb 15 2559) rfl rfl (any_of HT_.out (by kernel_rfl)) (fun _ _ _ h => h) (Or.inl ⟨by rfl, ?_⟩) ?_ ?_
    rotate_left
    · intro w'
      go_simp
      with_reducible rfl
    rotate_left
    · simp only [Act.put, List.setIfInBounds_toArray, List.set_cons_zero, List.set_cons_succ, i64_w, i32_w]
      rfl
    refine pure_ (i := 9) (N := (some 33)) (v := ?_) (a' := ?_) (bb 15 3071) rfl rfl (any_of HT_.out (by kernel_rfl)) (fun _ _ _ h => h) (Or.inl ⟨by rfl, ?_⟩) ?_ ?_
    rotate_left
    · intro w'
      go_simp
      with_reducible rfl
    rotate_left
    · simp only [Act.put, List.setIfInBounds_toArray, List.set_cons_zero, List.set_cons_succ, i64_w, i32_w]
      rfl
    refine pure_ (i := 10) (N := (some 34)) (v := ?_) (a' := ?_) (bb 15 4095) rfl rfl (any_of HT_.out (by kernel_rfl)) (fun _ _ _ h => h) (Or.inl ⟨by rfl, ?_⟩) ?_ ?_
    rotate_left
    · intro w'
      go_simp
      with_reducible rfl
    rotate_left
    · simp only [Act.put, List.setIfInBounds_toArray, List.set_cons_zero, List.set_cons_succ, i64_w, i32_w]
      rfl
    refine last_ (i := 12) (N := none) (bb 15 8191) rfl rfl (one_of HT_.out (by kernel_rfl)) (by decide) (fun K hK => ?_)
    refine skip_ (w1 := ?_) (by rfl) rfl ?_ ?_
    rotate_left
    · go_simp
      first | rfl | (constructor <;> rfl)
    refine hK.out _ _ ?_
    clear hK K
    refine pure_ (i := 13) (N := (some 6)) (v := ?_) (a' := ?_) (bb 15 16383) rfl rfl (any_of HT_.out (by kernel_rfl)) (fun _ _ _ h => h) (Or.inl ⟨by rfl, ?_⟩) ?_ ?_
    rotate_left
    · intro w'
      go_simp
      with_reducible rfl
    rotate_left
    · simp only [Act.put, List.setIfInBounds_toArray, List.set_cons_zero, List.set_cons_succ, i64_w, i32_w]
      rfl
    refine pure_ (i := 14) (N := (some 7)) (v := ?_) (a' := ?_) (bb 15 32767) rfl rfl (any_of HT_.out (by kernel_rfl)) (fun _ _ _ h => h) (Or.inl ⟨by rfl, ?_⟩) ?_ ?_
    rotate_left
    · intro w'
      go_simp
      with_reducible rfl
    rotate_left
    · simp only [Act.put, List.setIfInBounds_toArray, List.set_cons_zero, List.set_cons_succ, i64_w, i32_w]
      rfl
    refine done_ (done_of HT_.out (by kernel_rfl)) ?_
    have HS4 := Aside0.mk (HS3.out.cset60 (.int .i64 (s.n : Int)) (.slice A1' l1.length c1') (.slice A2' l2.length c2') (.int .i64 s.r) (.int .i64 s.wr) (.int .i64 s.fl))
    clear HS1 HS2 HS3 HRF hHeld hz0 hz1 hz2 hz3 hz4 hz5 hf0 hf1 hf2 hf3 hf4 hf5
    generalize ((((((w3.setCell ⟨gd, 0, none⟩ (.int .i64 (s.n : Int))).setCell ⟨gd, 1, none⟩ (.slice A1' l1.length c1')).setCell ⟨gd, 2, none⟩ (.slice A2' l2.length c2')).setCell ⟨gd, 3, none⟩ (.int .i64 s.r)).setCell ⟨gd, 4, none⟩ (.int .i64 s.wr)).setCell ⟨gd, 5, none⟩ (.int .i64 s.fl)) = w4 at HS4 ⊢
    go_upto_region 4 with (fail)
    have HS5 := Aside0.mk (HS4.out.step (below_drew1 (Below.refl w4.heap.size w4)))
    clear HS4
    refine start_ (n := 12) (S := fun W => W.cell? ⟨gp, 0, none⟩ = some (.pointer (some ⟨g, 0, none⟩)) ∧ W.cell? ⟨gb, 1, none⟩ = some (.int .i64 a)) (ds := [6]) (bb 12 0) (by kernel_rfl) rfl rfl (⟨blk_cell HS5.out.up4.cells.1 0, blk_cell HS5.out.up3.cells.1 1⟩) (fun hHeld => ?_); refine with_tabW does4n_tab does4n_bits (fun HT_ HW_ => ?_)
    generalize w4.drew = wd4 at hHeld HS5 ⊢
    refine pure_ (i := 0) (N := (some 36)) (v := ?_) (a' := ?_) (bb 12 1) rfl rfl (any_of HT_.out (by kernel_rfl)) (fun _ _ _ h => h) (Or.inl ⟨by rfl, ?_⟩) ?_ ?_
    rotate_left
    · intro w'
      go_simp
      with_reducible rfl
    rotate_left
    · simp only [Act.put, List.setIfInBounds_toArray, List.set_cons_zero, List.set_cons_succ, i64_w, i32_w]
      rfl
    refine pure_ (i := 1) (N := (some 37)) (v := ?_) (a' := ?_) (bb 12 3) rfl rfl (any_of HT_.out (by kernel_rfl)) (fun _ _ _ h => h) (Or.inl ⟨by rfl, ?_⟩) ?_ ?_
    rotate_left
    · intro w'
      go_simp
      with_reducible rfl
    rotate_left
    · simp only [Act.put, List.setIfInBounds_toArray, List.set_cons_zero, List.set_cons_succ, i64_w, i32_w]
      rfl
    refine pure_ (i := 2) (N := (some 38)) (v := ?_) (a' := ?_) (bb 12 7) rfl rfl (any_of HT_.out (by kernel_rfl)) (fun _ _ _ h => h) (Or.inl ⟨by rfl, ?_⟩) ?_ ?_
    rotate_left
    · intro w'
      go_simp
      with_reducible rfl
    rotate_left
    · simp only [Act.put, List.setIfInBounds_toArray, List.set_cons_zero, List.set_cons_succ, i64_w, i32_w]
      rfl
    refine take_ (i := 3) (N := (some 39)) (v := ?_) (a' := ?_) (bb 12 15) rfl rfl (take_ofW HT_.out HW_.out (by kernel_rfl)) (fun _ _ _ h => h) (Or.inl ⟨by rfl, ?_⟩) hHeld ?_ ?_
    rotate_left
    · intro w' s0
      (try dsimp only at s0)
      go_simp
      with_reducible rfl
    rotate_left
    · simp only [Act.put, List.setIfInBounds_toArray, List.set_cons_zero, List.set_cons_succ, i64_w, i32_w]
      rfl
    refine pure_ (i := 4) (N := (some 40)) (v := ?_) (a' := ?_) (bb 12 31) rfl rfl (any_of HT_.out (by kernel_rfl)) (fun _ _ _ h => h) (Or.inl ⟨by rfl, ?_⟩) ?_ ?_
    rotate_left
    · intro w'
      go_simp
      with_reducible rfl
    rotate_left
    · simp only [Act.put, List.setIfInBounds_toArray, List.set_cons_zero, List.set_cons_succ, i64_w, i32_w]
      rfl
    refine take_ (i := 5) (N := (some 41)) (v := ?_) (a' := ?_) (bb 12 63) rfl rfl (take_ofW HT_.out HW_.out (by kernel_rfl)) (fun _ _ _ h => h) (Or.inl ⟨by rfl, ?_⟩) hHeld ?_ ?_
    rotate_left
    · intro w' s0
      (try dsimp only at s0)
      go_simp
      with_reducible rfl
    rotate_left
    · simp only [Act.put, List.setIfInBounds_toArray, List.set_cons_zero, List.set_cons_succ, i64_w, i32_w]
      rfl
    refine last_ (i := 6) (N := (some 42)) (bb 12 127) rfl rfl (one_of HT_.out (by kernel_rfl)) (by decide) (fun K hK => ?_)
    refine goes_ Try.func25 (by kernel_rfl) rfl #[.pointer (some ⟨g, 0, none⟩), .int .i64 a] (by rfl) rfl rfl (by (try simp only [List.map_toArray, List.map_cons, List.map_nil]); first | done | rfl) ?_
    with_reducible refine (Sep.read_none HS5.out.up5 a HI.out).mono ?_
    rintro e w5 ⟨rfl, hw⟩
    subst hw
    have HS6 := Aside0.mk (Sep.push_nil (d := Kd.int .u8) (e := 5) HS5.out.up5)
    refine ⟨_, rfl, ?_⟩
    refine hK.out _ _ ?_
    clear hK K
    refine norm_ (a' := ?_) ?_ ?_
    rotate_left
    · show Act.put _ (some 42) _ = _
      simp only [Act.put, List.setIfInBounds_toArray, List.set_cons_zero, List.set_cons_succ, i64_w, i32_w]
      rfl
    refine pure_ (i := 7) (N := (some 35)) (v := ?_) (a' := ?_) (bb 12 255) rfl rfl (any_of HT_.out (by kernel_rfl)) (fun _ _ _ h => h) (Or.inl ⟨by rfl, ?_⟩) ?_ ?_
    rotate_left
    · intro w'
      go_simp
      with_reducible rfl
    rotate_left
    · simp only [Act.put, List.setIfInBounds_toArray, List.set_cons_zero, List.set_cons_succ, i64_w, i32_w]
      rfl
    refine pure_ (i := 8) (N := (some 43)) (v := ?_) (a' := ?_) (bb 12 511) rfl rfl (any_of HT_.out (by kernel_rfl)) (fun _ _ _ h => h) (Or.inl ⟨by rfl, ?_⟩) ?_ ?_
    rotate_left
    · intro w'
      go_simp
      with_reducible rfl
    rotate_left
    · simp only [Act.put, List.setIfInBounds_toArray, List.set_cons_zero, List.set_cons_succ, i64_w, i32_w]
      rfl
    refine pure_ (i := 9) (N := (some 44)) (v := ?_) (a' := ?_) (bb 12 1023) rfl rfl (any_of HT_.out (by kernel_rfl)) (fun _ _ _ h => h) (Or.inl ⟨by rfl, ?_⟩) ?_ ?_
    rotate_left
    · intro w'
      go_simp
      with_reducible rfl
    rotate_left
    · simp only [Act.put, List.setIfInBounds_toArray, List.set_cons_zero, List.set_cons_succ, i64_w, i32_w]
      rfl
    refine pure_ (i := 10) (N := (some 8)) (v := ?_) (a' := ?_) (bb 12 2047) rfl rfl (any_of HT_.out (by kernel_rfl)) (fun _ _ _ h => h) (Or.inl ⟨by rfl, ?_⟩) ?_ ?_
    rotate_left
    · intro w'
      go_simp
      with_reducible rfl
    rotate_left
    · simp only [Act.put, List.setIfInBounds_toArray, List.set_cons_zero, List.set_cons_succ, i64_w, i32_w]
      rfl
    refine pure_ (i := 11) (N := (some 9)) (v := ?_) (a' := ?_) (bb 12 4095) rfl rfl (any_of HT_.out (by kernel_rfl)) (fun _ _ _ h => h) (Or.inl ⟨by rfl, ?_⟩) ?_ ?_
    rotate_left
    · intro w'
      go_simp
      with_reducible rfl
    rotate_left
    · simp only [Act.put, List.setIfInBounds_toArray, List.set_cons_zero, List.set_cons_succ, i64_w, i32_w]
      rfl
    refine done_ (done_of HT_.out (by kernel_rfl)) ?_
    clear HS5
    have hd := blk_cell HS6.out.up2.cells.1
    have hd0 : w5.cell? ⟨gd, 0, none⟩ = some (.int .i64 (s.n : Int)) := hd 0
    have hd1 : w5.cell? ⟨gd, 1, none⟩ = some (.slice A1' l1.length c1') := hd 1
    have hd2 : w5.cell? ⟨gd, 2, none⟩ = some (.slice A2' l2.length c2') := hd 2
    have hd3 : w5.cell? ⟨gd, 3, none⟩ = some (.int .i64 s.r) := hd 3
    have hd4 : w5.cell? ⟨gd, 4, none⟩ = some (.int .i64 s.wr) := hd 4
    have hd5 : w5.cell? ⟨gd, 5, none⟩ = some (.int .i64 s.fl) := hd 5
    have hp := blk_cell HS6.out.up6.cells.1
    have hp1 : w5.cell? ⟨gp, 1, none⟩ = some (.int .i64 (s.n : Int)) := hp 1
    have hp2 : w5.cell? ⟨gp, 2, none⟩ = some (.slice A1 l1.length c1) := hp 2
    have hp3 : w5.cell? ⟨gp, 3, none⟩ = some (.slice A2 l2.length c2) := hp 3
    have hp4 : w5.cell? ⟨gp, 4, none⟩ = some (.int .i64 s.r) := hp 4
    have hp5 : w5.cell? ⟨gp, 5, none⟩ = some (.int .i64 s.wr) := hp 5
    have hp6 : w5.cell? ⟨gp, 6, none⟩ = some (.int .i64 s.fl) := hp 6
    have hf := blk_frozen HS6.out.up6.cells.1
    have hf1 := hf 1
    have hf2 := hf 2
    have hf3 := hf 3
    have hf4 := hf 4
    have hf5 := hf 5
    have hf6 := hf 6
    clear hd hp hf
    go_upto_region 6 with (fail)
    clear hd0 hd1 hd2 hd3 hd4 hd5 hp1 hp2 hp3 hp4 hp5 hp6 hf1 hf2 hf3 hf4 hf5 hf6
    have HS7 := Aside0.mk (HS6.out.up6.cset6 (.int .i64 (s.n : Int)) (.slice A1' l1.length c1') (.slice A2' l2.length c2') (.int .i64 s.r) (.int .i64 s.wr) (.int .i64 s.fl))
    clear HS6
    generalize ((((((w5.setCell ⟨gp, 1, none⟩ (.int .i64 (s.n : Int))).setCell ⟨gp, 2, none⟩ (.slice A1' l1.length c1')).setCell ⟨gp, 3, none⟩ (.slice A2' l2.length c2')).setCell ⟨gp, 4, none⟩ (.int .i64 s.r)).setCell ⟨gp, 5, none⟩ (.int .i64 s.wr)).setCell ⟨gp, 6, none⟩ (.int .i64 s.fl)) = w6 at HS7 ⊢
    have hcv1 := (show (convert 28 9 (.slice none 0 0)).run Try.prog w6 = .ok (.string (strOfNums [])) w6 from Kd.C_string (P := Try.prog) Try.underlying28 Try.underlying5 Try.underlying9 HS7.out.up1.own_C.1)
    have hcv2 := (show (convert 28 9 (.slice A7 0 c7)).run Try.prog w6 = .ok (.string (strOfNums [])) w6 from Kd.C_string (P := Try.prog) Try.underlying28 Try.underlying5 Try.underlying9 HS7.out.up4.own_C.1)
    have c9b0 : ((strOfNums []).toList == (strOfNums []).toList) = true := beq_iff_eq.mpr rfl
    go_wp2
    go_ret
    exact ⟨rfl, A1', c1', A2', c2', HS7.out.up1.drop.up2.drop.up2.drop.up3.drop⟩
end Go.Proofs.Ytddnhcnkjcdfgaa.M

namespace Go.Proofs.Ytddnhcnkjcdfgaa.M
open Go.RowKit Go.Maps Go.Proofs.YtddnhcnkjcdfgaaW.PrintWords Go.Proofs.YtddnhcnkjcdfgaaW.PrintLast Go.Proofs.YtddnhcnkjcdfgaaW.PrintMore
open Go.Proofs.Ytddnhcnkjcdfgaa.P hiding S106 k106 rd_T106 at_T106
open Go.Proofs.Ytddnhcnkjcdfgaa.R
set_option linter.unusedVariables false
set_option linter.unusedSimpArgs false
variable {w0 : World} {L : List Th}
theorem pr_held0 {W : World} {gp : Nat} {a0 a1 a2 a3 a4 a5 a6 : Value} (h : Sep w0 W (cellsT gp #[a0, a1, a2, a3, a4, a5, a6] 78 :: L)) :
    W.cell? ⟨gp, 0, none⟩ = some a0 ∧ W.cell? ⟨gp, 1, none⟩ = some a1 ∧ W.cell? ⟨gp, 2, none⟩ = some a2 ∧ W.cell? ⟨gp, 3, none⟩ = some a3 ∧ W.cell? ⟨gp, 4, none⟩ = some a4 ∧ W.cell? ⟨gp, 5, none⟩ = some a5 ∧ W.cell? ⟨gp, 6, none⟩ = some a6 :=
  ⟨blk_cell h.cells.1 0, blk_cell h.cells.1 1, blk_cell h.cells.1 2, blk_cell h.cells.1 3, blk_cell h.cells.1 4, blk_cell h.cells.1 5, blk_cell h.cells.1 6⟩
theorem same_calls {W : World} {M1 M2 : List Th} {B1 B2 : Option Addr} {n d1 d2 : Nat} {X : List (List Int)} (h1 : Sep w0 W (ownT KB 28 (.slice B1 n d1) X :: M1)) (h2 : Sep w0 W (ownT KB 28 (.slice B2 n d2) X :: M2)) (k : Nat) (hk : R.kilnref3_SameImage.f (k + 1) X X = some true) :
    Calls Try.prog 36 #[.slice B1 n d1, .slice B2 n d2] W fun e w' => e = .returned (.bool true) ∧ Drawn0 W w' := by
  obtain ⟨_, _, r1⟩ := h1.own
  obtain ⟨_, _, r2⟩ := h2.own
  obtain ⟨e1, f1, g1⟩ := Kd.R_reads' r1
  obtain ⟨e2, f2, g2⟩ := Kd.R_reads' r2
  have h_ := R.kilnref3_SameImage.calls (k + 1) B1 d1 X B2 d2 X true W g1 (e1 ▸ f1) g2 (e2 ▸ f2) hk
  rw [← e1] at h_
  exact h_
end Go.Proofs.Ytddnhcnkjcdfgaa.M

namespace Go.Proofs.Ytddnhcnkjcdfgaa.M
open Go.RowKit Go.Maps Go.Proofs.YtddnhcnkjcdfgaaW.PrintWords Go.Proofs.YtddnhcnkjcdfgaaW.PrintLast Go.Proofs.YtddnhcnkjcdfgaaW.PrintMore
open Go.Proofs.Ytddnhcnkjcdfgaa.P hiding S106 k106 rd_T106 at_T106
open Go.Proofs.Ytddnhcnkjcdfgaa.R
set_option linter.unusedVariables false
set_option linter.unusedSimpArgs false
set_option maxHeartbeats 8000000 in
set_option maxRecDepth 100000 in
theorem load_30 (A : Option Addr) (n c : Nat) (w : World) (h : ¬ (2 ≤ n ∧ n ≤ 65536)) :
    Calls Try.prog 28 #[.slice A n c] w fun e w' => e = .returned (.tuple #[.pointer none, .int .i64 30]) ∧ w' = w := by
  have Hmany := Aside0.mk (fun (W : World) => (show Calls Try.prog 43 #[.int .i64 (n : Int)] W fun e w' => e = .returned (.bool false) ∧ w' = W from by
    have h_ := many_calls (n : Int) W
    rw [show decide (2 ≤ (n : Int) ∧ (n : Int) ≤ 65536) = false from decide_eq_false (by omega)] at h_
    exact h_))
  clear h
  go_enter Try.func28, Try.ntmps28
  go_wp2_with (go_at_call 43; (with_reducible refine (Hmany.out _).mono ?_); rintro e w1 ⟨rfl, hw_⟩; subst hw_)
  go_ret2
  exact ⟨rfl, rfl⟩
end Go.Proofs.Ytddnhcnkjcdfgaa.M
