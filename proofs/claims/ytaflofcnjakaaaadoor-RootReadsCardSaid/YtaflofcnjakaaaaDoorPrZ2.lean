-- written by programs of this session; what nothing here names is left out
import Derived.Test.YtaflofcnjakaaaaDoorPrZ1
import Derived.Test.YtaflofcnjakaaaaDoorRows
import Derived.ChangeSlices
import Derived.SizedLaws
import Derived.ChangeArms
import Derived.Laws.CopyOwn
import Derived.Laws.BitsAllLaws
namespace Go.Proofs.YtaflofcnjakaaaaDoor.Z
open Go.Proofs.YtaflofcnjakaaaaDoor.Wr Go.Proofs.YtaflofcnjakaaaaDoor.M
open Go.RowKit Go.Proofs.YtaflofcnjakaaaaDoorW.PrintWords Go.Proofs.YtaflofcnjakaaaaDoorW.PrintLast Go.Proofs.YtaflofcnjakaaaaDoorW.PrintMore
attribute [local go_sem] max2_int min2_int max_two min_two max_three min_three max_four min_four   -- for this text's walks alone
set_option linter.unusedVariables false
set_option linter.unusedSimpArgs false
def kilnref3_New.f (a0 : Int) : Option (Int × (List (S106)) × (List (S106)) × Int × Int × Int × Int) := if a0 < 2 then (some (0, ([] : List (S106)), ([] : List (S106)), 0, 0, 0, 30)) else (if a0 > 65536 then (some (0, ([] : List (S106)), ([] : List (S106)), 0, 0, 0, 30)) else (some (a0, ([] : List (S106)), ([] : List (S106)), 0, 0, 0, 0)))
set_option maxHeartbeats 8000000 in
set_option maxRecDepth 100000 in
theorem kilnref3_New.calls (a0 : Int) (r1 : Int) (r2 : List (S106)) (r3 : List (S106)) (r4 : Int) (r5 : Int) (r6 : Int) (r7 : Int) (w : World) (h : kilnref3_New.f a0 = some (r1, r2, r3, r4, r5, r6, r7)) :
    Calls Tryd.prog 16 #[.int .i64 a0] w fun e w' => ∃ v1_ v2_ : Value, e = .returned (.tuple #[.agg #[.int .i64 r1, v1_, v2_, .int .i64 r4, .int .i64 r5, .int .i64 r6], .int .i64 r7]) ∧ Kd.S k106 106 w' w.heap.size (fun k_ => some k_ ≠ (v2_ : Value).ownBlock) v1_ r2 ∧ Kd.S k106 106 w' w.heap.size (fun k_ => some k_ ≠ (v1_ : Value).ownBlock) v2_ r3 ∧ Below w.heap.size w w' := by
  have hu43 := Tryd.underlying43
  have HB := Aside0.mk (Below.refl w.heap.size w)
  have H : (if a0 < 2 then (some (0, ([] : List (S106)), ([] : List (S106)), 0, 0, 0, 30)) else (if a0 > 65536 then (some (0, ([] : List (S106)), ([] : List (S106)), 0, 0, 0, 30)) else (some (a0, ([] : List (S106)), ([] : List (S106)), 0, 0, 0, 0)))) = some (r1, r2, r3, r4, r5, r6, r7) := h
  clear h
  by_cases c2 : a0 < 2
  · rw [if_pos c2] at H
    have c2b0 : decide (a0 < 2) = true := decide_eq_true c2
    clear c2
    simp only [Option.some.injEq, Prod.mk.injEq] at H
    obtain ⟨rfl, rfl, rfl, rfl, rfl, rfl, rfl⟩ := H
    go_enter Tryd.func16, Tryd.ntmps16
    go_wp2_with (first | ((with_reducible refine gate_dst (N := 2) rfl ?_); refine box_event ?hg (N := 2) ?hd (cs := #[.int .i64 0, .slice none 0 0, .slice none 0 0, .int .i64 0, .int .i64 0, .int .i64 0]) (t := 43) ?hr ?_; (case hd => rfl); (case hg => rfl); (case hr => first | (go_simp; done) | (go_simp; rfl)); intro gb112 hg w3 hbox hb; have n0_ := Aside0.mk (below_step (by repeat (first | (with_reducible first | exact HB.out | apply below_alloc | apply pw_below_drewN | apply below_drew1) | exact HB.out)) hb); have n1_ := Aside0.mk (hbox); have n2_ := Aside0.mk ((by rw [hg]; exact (below_size (by repeat (first | (with_reducible first | exact HB.out | apply below_alloc | apply pw_below_drewN | apply below_drew1) | exact HB.out))) : w.heap.size ≤ gb112)); have n3_ := Aside0.mk ((by rw [hg]; exact (below_size (by repeat (first | (with_reducible first | exact HB.out | apply below_alloc | apply pw_below_drewN | apply below_drew1) | exact HB.out))) : w.heap.size ≤ gb112)); clear HB; have HB := n0_; have BK112 := n1_; have GW112 := n2_; have GE112 := n3_; clear n0_ n1_ n2_ n3_; clear hb hbox hg; have hcz4_0 : w3.cell? ⟨gb112, 0, none⟩ = some (.int .i64 0) := (blk_cell BK112.out 0).trans rfl; have hcz4_1 : w3.cell? ⟨gb112, 1, none⟩ = some (.slice none 0 0) := (blk_cell BK112.out 1).trans rfl; have hcz4_2 : w3.cell? ⟨gb112, 2, none⟩ = some (.slice none 0 0) := (blk_cell BK112.out 2).trans rfl; have hcz4_3 : w3.cell? ⟨gb112, 3, none⟩ = some (.int .i64 0) := (blk_cell BK112.out 3).trans rfl; have hcz4_4 : w3.cell? ⟨gb112, 4, none⟩ = some (.int .i64 0) := (blk_cell BK112.out 4).trans rfl; have hcz4_5 : w3.cell? ⟨gb112, 5, none⟩ = some (.int .i64 0) := (blk_cell BK112.out 5).trans rfl; have hfz4_0 := blk_frozen BK112.out 0; have hfz4_1 := blk_frozen BK112.out 1; have hfz4_2 := blk_frozen BK112.out 2; have hfz4_3 := blk_frozen BK112.out 3; have hfz4_4 := blk_frozen BK112.out 4; have hfz4_5 := blk_frozen BK112.out 5))
    refine bodyPost_ret (results_ct rfl _ _ gb112 43 #[.int .i64 0, .slice none 0 0, .slice none 0 0, .int .i64 0, .int .i64 0, .int .i64 0] (0, 0) _ rfl (by (with_reducible repeat (first | refine blk_drewN ?_ _ | refine blk_drew ?_ | refine blk_alloc ?_ _)); refine blk_put (cs := #[.int .i64 0, .slice none 0 0, .slice none 0 0, .int .i64 0, .int .i64 0, .int .i64 0]) ?_ 5 _ rfl; (with_reducible repeat (first | refine blk_drewN ?_ _ | refine blk_drew ?_ | refine blk_alloc ?_ _)); refine blk_put (cs := #[.int .i64 0, .slice none 0 0, .slice none 0 0, .int .i64 0, .int .i64 0, .int .i64 0]) ?_ 4 _ rfl; (with_reducible repeat (first | refine blk_drewN ?_ _ | refine blk_drew ?_ | refine blk_alloc ?_ _)); refine blk_put (cs := #[.int .i64 0, .slice none 0 0, .slice none 0 0, .int .i64 0, .int .i64 0, .int .i64 0]) ?_ 3 _ rfl; (with_reducible repeat (first | refine blk_drewN ?_ _ | refine blk_drew ?_ | refine blk_alloc ?_ _)); refine blk_put (cs := #[.int .i64 0, .slice none 0 0, .slice none 0 0, .int .i64 0, .int .i64 0, .int .i64 0]) ?_ 2 _ rfl; (with_reducible repeat (first | refine blk_drewN ?_ _ | refine blk_drew ?_ | refine blk_alloc ?_ _)); refine blk_put (cs := #[.int .i64 0, .slice none 0 0, .slice none 0 0, .int .i64 0, .int .i64 0, .int .i64 0]) ?_ 1 _ rfl; (with_reducible repeat (first | refine blk_drewN ?_ _ | refine blk_drew ?_ | refine blk_alloc ?_ _)); refine blk_put (cs := #[.int .i64 0, .slice none 0 0, .slice none 0 0, .int .i64 0, .int .i64 0, .int .i64 0]) ?_ 0 _ rfl; (with_reducible repeat (first | refine blk_drewN ?_ _ | refine blk_drew ?_ | refine blk_alloc ?_ _)); exact BK112.out) Tryd.underlying43 rfl (by kernel_rfl)) rfl ?_
    exact ⟨_, _, by first | rfl | (simp [errW_none, errW_some] <;> rfl) | (simp [*, errW_none, errW_some] <;> rfl), by first | exact Kd.S_nil _ _ _ _ _ | exact Kd.N_nil _ _ _ _ _ | exact Kd.V_nil _ _ _ _ _ | exact Kd.Q_nil _ _ _ _ _ | exact Kd.R_nil _ _ _ _ _, by first | exact Kd.S_nil _ _ _ _ _ | exact Kd.N_nil _ _ _ _ _ | exact Kd.V_nil _ _ _ _ _ | exact Kd.Q_nil _ _ _ _ _ | exact Kd.R_nil _ _ _ _ _, by repeat (first | (with_reducible first | exact HB.out | apply below_alloc | apply pw_below_drewN | apply below_drew1 | refine below_set ?_ GE112.out) | exact HB.out)⟩
  · rw [if_neg c2] at H
    have c2b0 : decide (a0 < 2) = false := decide_eq_false c2
    clear c2
    by_cases c5 : a0 > 65536
    · rw [if_pos c5] at H
      have c5b0 : decide (65536 < a0) = true := decide_eq_true c5
      clear c5
      simp only [Option.some.injEq, Prod.mk.injEq] at H
      obtain ⟨rfl, rfl, rfl, rfl, rfl, rfl, rfl⟩ := H
      go_enter Tryd.func16, Tryd.ntmps16
      go_wp2_with (first | ((with_reducible refine gate_dst (N := 2) rfl ?_); refine box_event ?hg (N := 2) ?hd (cs := #[.int .i64 0, .slice none 0 0, .slice none 0 0, .int .i64 0, .int .i64 0, .int .i64 0]) (t := 43) ?hr ?_; (case hd => rfl); (case hg => rfl); (case hr => first | (go_simp; done) | (go_simp; rfl)); intro gb112 hg w6 hbox hb; have n0_ := Aside0.mk (below_step (by repeat (first | (with_reducible first | exact HB.out | apply below_alloc | apply pw_below_drewN | apply below_drew1) | exact HB.out)) hb); have n1_ := Aside0.mk (hbox); have n2_ := Aside0.mk ((by rw [hg]; exact (below_size (by repeat (first | (with_reducible first | exact HB.out | apply below_alloc | apply pw_below_drewN | apply below_drew1) | exact HB.out))) : w.heap.size ≤ gb112)); have n3_ := Aside0.mk ((by rw [hg]; exact (below_size (by repeat (first | (with_reducible first | exact HB.out | apply below_alloc | apply pw_below_drewN | apply below_drew1) | exact HB.out))) : w.heap.size ≤ gb112)); clear HB; have HB := n0_; have BK112 := n1_; have GW112 := n2_; have GE112 := n3_; clear n0_ n1_ n2_ n3_; clear hb hbox hg; have hcz7_0 : w6.cell? ⟨gb112, 0, none⟩ = some (.int .i64 0) := (blk_cell BK112.out 0).trans rfl; have hcz7_1 : w6.cell? ⟨gb112, 1, none⟩ = some (.slice none 0 0) := (blk_cell BK112.out 1).trans rfl; have hcz7_2 : w6.cell? ⟨gb112, 2, none⟩ = some (.slice none 0 0) := (blk_cell BK112.out 2).trans rfl; have hcz7_3 : w6.cell? ⟨gb112, 3, none⟩ = some (.int .i64 0) := (blk_cell BK112.out 3).trans rfl; have hcz7_4 : w6.cell? ⟨gb112, 4, none⟩ = some (.int .i64 0) := (blk_cell BK112.out 4).trans rfl; have hcz7_5 : w6.cell? ⟨gb112, 5, none⟩ = some (.int .i64 0) := (blk_cell BK112.out 5).trans rfl; have hfz7_0 := blk_frozen BK112.out 0; have hfz7_1 := blk_frozen BK112.out 1; have hfz7_2 := blk_frozen BK112.out 2; have hfz7_3 := blk_frozen BK112.out 3; have hfz7_4 := blk_frozen BK112.out 4; have hfz7_5 := blk_frozen BK112.out 5))
      refine bodyPost_ret (results_ct rfl _ _ gb112 43 #[.int .i64 0, .slice none 0 0, .slice none 0 0, .int .i64 0, .int .i64 0, .int .i64 0] (0, 0) _ rfl (by (with_reducible repeat (first | refine blk_drewN ?_ _ | refine blk_drew ?_ | refine blk_alloc ?_ _)); refine blk_put (cs := #[.int .i64 0, .slice none 0 0, .slice none 0 0, .int .i64 0, .int .i64 0, .int .i64 0]) ?_ 5 _ rfl; (with_reducible repeat (first | refine blk_drewN ?_ _ | refine blk_drew ?_ | refine blk_alloc ?_ _)); refine blk_put (cs := #[.int .i64 0, .slice none 0 0, .slice none 0 0, .int .i64 0, .int .i64 0, .int .i64 0]) ?_ 4 _ rfl; (with_reducible repeat (first | refine blk_drewN ?_ _ | refine blk_drew ?_ | refine blk_alloc ?_ _)); refine blk_put (cs := #[.int .i64 0, .slice none 0 0, .slice none 0 0, .int .i64 0, .int .i64 0, .int .i64 0]) ?_ 3 _ rfl; (with_reducible repeat (first | refine blk_drewN ?_ _ | refine blk_drew ?_ | refine blk_alloc ?_ _)); refine blk_put (cs := #[.int .i64 0, .slice none 0 0, .slice none 0 0, .int .i64 0, .int .i64 0, .int .i64 0]) ?_ 2 _ rfl; (with_reducible repeat (first | refine blk_drewN ?_ _ | refine blk_drew ?_ | refine blk_alloc ?_ _)); refine blk_put (cs := #[.int .i64 0, .slice none 0 0, .slice none 0 0, .int .i64 0, .int .i64 0, .int .i64 0]) ?_ 1 _ rfl; (with_reducible repeat (first | refine blk_drewN ?_ _ | refine blk_drew ?_ | refine blk_alloc ?_ _)); refine blk_put (cs := #[.int .i64 0, .slice none 0 0, .slice none 0 0, .int .i64 0, .int .i64 0, .int .i64 0]) ?_ 0 _ rfl; (with_reducible repeat (first | refine blk_drewN ?_ _ | refine blk_drew ?_ | refine blk_alloc ?_ _)); exact BK112.out) Tryd.underlying43 rfl (by kernel_rfl)) rfl ?_
      exact ⟨_, _, by first | rfl | (simp [errW_none, errW_some] <;> rfl) | (simp [*, errW_none, errW_some] <;> rfl), by first | exact Kd.S_nil _ _ _ _ _ | exact Kd.N_nil _ _ _ _ _ | exact Kd.V_nil _ _ _ _ _ | exact Kd.Q_nil _ _ _ _ _ | exact Kd.R_nil _ _ _ _ _, by first | exact Kd.S_nil _ _ _ _ _ | exact Kd.N_nil _ _ _ _ _ | exact Kd.V_nil _ _ _ _ _ | exact Kd.Q_nil _ _ _ _ _ | exact Kd.R_nil _ _ _ _ _, by repeat (first | (with_reducible first | exact HB.out | apply below_alloc | apply pw_below_drewN | apply below_drew1 | refine below_set ?_ GE112.out) | exact HB.out)⟩
    · rw [if_neg c5] at H
      have c5b0 : decide (65536 < a0) = false := decide_eq_false c5
      clear c5
      simp only [Option.some.injEq, Prod.mk.injEq] at H
      obtain ⟨rfl, rfl, rfl, rfl, rfl, rfl, rfl⟩ := H
      go_enter Tryd.func16, Tryd.ntmps16
      go_wp2_with (first | ((with_reducible refine gate_dst (N := 2) rfl ?_); refine box_event ?hg (N := 2) ?hd (cs := #[.int .i64 0, .slice none 0 0, .slice none 0 0, .int .i64 0, .int .i64 0, .int .i64 0]) (t := 43) ?hr ?_; (case hd => rfl); (case hg => rfl); (case hr => first | (go_simp; done) | (go_simp; rfl)); intro gb112 hg w8 hbox hb; have n0_ := Aside0.mk (below_step (by repeat (first | (with_reducible first | exact HB.out | apply below_alloc | apply pw_below_drewN | apply below_drew1) | exact HB.out)) hb); have n1_ := Aside0.mk (hbox); have n2_ := Aside0.mk ((by rw [hg]; exact (below_size (by repeat (first | (with_reducible first | exact HB.out | apply below_alloc | apply pw_below_drewN | apply below_drew1) | exact HB.out))) : w.heap.size ≤ gb112)); have n3_ := Aside0.mk ((by rw [hg]; exact (below_size (by repeat (first | (with_reducible first | exact HB.out | apply below_alloc | apply pw_below_drewN | apply below_drew1) | exact HB.out))) : w.heap.size ≤ gb112)); clear HB; have HB := n0_; have BK112 := n1_; have GW112 := n2_; have GE112 := n3_; clear n0_ n1_ n2_ n3_; clear hb hbox hg; have hcz9_0 : w8.cell? ⟨gb112, 0, none⟩ = some (.int .i64 0) := (blk_cell BK112.out 0).trans rfl; have hcz9_1 : w8.cell? ⟨gb112, 1, none⟩ = some (.slice none 0 0) := (blk_cell BK112.out 1).trans rfl; have hcz9_2 : w8.cell? ⟨gb112, 2, none⟩ = some (.slice none 0 0) := (blk_cell BK112.out 2).trans rfl; have hcz9_3 : w8.cell? ⟨gb112, 3, none⟩ = some (.int .i64 0) := (blk_cell BK112.out 3).trans rfl; have hcz9_4 : w8.cell? ⟨gb112, 4, none⟩ = some (.int .i64 0) := (blk_cell BK112.out 4).trans rfl; have hcz9_5 : w8.cell? ⟨gb112, 5, none⟩ = some (.int .i64 0) := (blk_cell BK112.out 5).trans rfl; have hfz9_0 := blk_frozen BK112.out 0; have hfz9_1 := blk_frozen BK112.out 1; have hfz9_2 := blk_frozen BK112.out 2; have hfz9_3 := blk_frozen BK112.out 3; have hfz9_4 := blk_frozen BK112.out 4; have hfz9_5 := blk_frozen BK112.out 5))
      refine bodyPost_ret (results_ct rfl _ _ gb112 43 #[.int .i64 a0, .slice none 0 0, .slice none 0 0, .int .i64 0, .int .i64 0, .int .i64 0] (0, 0) _ rfl (by (with_reducible repeat (first | refine blk_drewN ?_ _ | refine blk_drew ?_ | refine blk_alloc ?_ _)); refine blk_put (cs := #[.int .i64 a0, .slice none 0 0, .slice none 0 0, .int .i64 0, .int .i64 0, .int .i64 0]) ?_ 5 _ rfl; (with_reducible repeat (first | refine blk_drewN ?_ _ | refine blk_drew ?_ | refine blk_alloc ?_ _)); refine blk_put (cs := #[.int .i64 a0, .slice none 0 0, .slice none 0 0, .int .i64 0, .int .i64 0, .int .i64 0]) ?_ 4 _ rfl; (with_reducible repeat (first | refine blk_drewN ?_ _ | refine blk_drew ?_ | refine blk_alloc ?_ _)); refine blk_put (cs := #[.int .i64 a0, .slice none 0 0, .slice none 0 0, .int .i64 0, .int .i64 0, .int .i64 0]) ?_ 3 _ rfl; (with_reducible repeat (first | refine blk_drewN ?_ _ | refine blk_drew ?_ | refine blk_alloc ?_ _)); refine blk_put (cs := #[.int .i64 a0, .slice none 0 0, .slice none 0 0, .int .i64 0, .int .i64 0, .int .i64 0]) ?_ 2 _ rfl; (with_reducible repeat (first | refine blk_drewN ?_ _ | refine blk_drew ?_ | refine blk_alloc ?_ _)); refine blk_put (cs := #[.int .i64 a0, .slice none 0 0, .slice none 0 0, .int .i64 0, .int .i64 0, .int .i64 0]) ?_ 1 _ rfl; (with_reducible repeat (first | refine blk_drewN ?_ _ | refine blk_drew ?_ | refine blk_alloc ?_ _)); refine blk_put (cs := #[.int .i64 0, .slice none 0 0, .slice none 0 0, .int .i64 0, .int .i64 0, .int .i64 0]) ?_ 0 _ rfl; (with_reducible repeat (first | refine blk_drewN ?_ _ | refine blk_drew ?_ | refine blk_alloc ?_ _)); exact BK112.out) Tryd.underlying43 rfl (by kernel_rfl)) rfl ?_
      exact ⟨_, _, by first | rfl | (simp [errW_none, errW_some] <;> rfl) | (simp [*, errW_none, errW_some] <;> rfl), by first | exact Kd.S_nil _ _ _ _ _ | exact Kd.N_nil _ _ _ _ _ | exact Kd.V_nil _ _ _ _ _ | exact Kd.Q_nil _ _ _ _ _ | exact Kd.R_nil _ _ _ _ _, by first | exact Kd.S_nil _ _ _ _ _ | exact Kd.N_nil _ _ _ _ _ | exact Kd.V_nil _ _ _ _ _ | exact Kd.Q_nil _ _ _ _ _ | exact Kd.R_nil _ _ _ _ _, by repeat (first | (with_reducible first | exact HB.out | apply below_alloc | apply pw_below_drewN | apply below_drew1 | refine below_set ?_ GE112.out) | exact HB.out)⟩
mutual
def kilnref3_Write.j0 : Nat → Int → List Int → Bool → Int → List (S106) → List (S106) → Int → Int → Int → Option (Int × (List (S106)) × (List (S106)) × Int × Int × Int × Int)
  | 0, _, _, _, _, _, _, _, _, _ => none
  | k + 1, x1, x2, x17, x122000, x122001, x122002, x122003, x122004, x122005 => if x17 = true then (some (x122000, x122001, x122002, x122003, x122004, x122005, 31)) else (if (x2.length : Int) = 512 then (kilnref3_Write.l0 k x1 x2 ([] : List (S106)) 0 x122000 x122001 x122002 x122003 x122004 x122005) else (some (x122000, x122001, x122002, x122003, x122004, x122005, 32)))
def kilnref3_Write.l0 : Nat → Int → List Int → List (S106) → Int → Int → List (S106) → List (S106) → Int → Int → Int → Option (Int × (List (S106)) × (List (S106)) × Int × Int × Int × Int)
  | 0, _, _, _, _, _, _, _, _, _, _ => none
  | k + 1, x1, x2, x8, x9, x122000, x122001, x122002, x122003, x122004, x122005 => if x9 < (x122002.length : Int) then (if 0 ≤ x9 then (if x8.length < 4398046511104 then (kilnref3_Write.l0 k x1 x2 (x8 ++ [(⟨(rd_T106 x122002 x9).f0, (rd_T106 x122002 x9).f1⟩ : S106)]) (wrap64 (x9 + 1)) x122000 x122001 x122002 x122003 x122004 x122005) else (none)) else (none)) else ((kilnref3_Copy.f x2).bind fun t127 => (if x8.length < 4398046511104 then (some (x122000, x122001, (x8 ++ [(⟨x1, t127⟩ : S106)]), x122003, wrap64 (x122004 + 1), x122005, 0)) else (none)))
end
def kilnref3_Write.f (k : Nat) (a0_0 : Int) (l0_1 : List (S106)) (l0_2 : List (S106)) (a0_3 : Int) (a0_4 : Int) (a0_5 : Int) (a1 : Int) (l2 : List Int) : Option (Int × (List (S106)) × (List (S106)) × Int × Int × Int × Int) := if a1 < 0 then (kilnref3_Write.j0 k a1 l2 true a0_0 l0_1 l0_2 a0_3 a0_4 a0_5) else (kilnref3_Write.j0 k a1 l2 (decide (a1 ≥ a0_0)) a0_0 l0_1 l0_2 a0_3 a0_4 a0_5)
theorem kilnref3_Write.mono_l : ∀ k, (∀ y0 y1 y2 y3 y4 y5 y6 y7 y8, LeO (kilnref3_Write.j0 k y0 y1 y2 y3 y4 y5 y6 y7 y8) (kilnref3_Write.j0 (k + 1) y0 y1 y2 y3 y4 y5 y6 y7 y8)) ∧ (∀ y0 y1 y2 y3 y4 y5 y6 y7 y8 y9, LeO (kilnref3_Write.l0 k y0 y1 y2 y3 y4 y5 y6 y7 y8 y9) (kilnref3_Write.l0 (k + 1) y0 y1 y2 y3 y4 y5 y6 y7 y8 y9))
  | 0 => ⟨fun _ _ _ _ _ _ _ _ _ r h => by simp [kilnref3_Write.j0] at h, fun _ _ _ _ _ _ _ _ _ _ r h => by simp [kilnref3_Write.l0] at h⟩
  | k + 1 => by
    obtain ⟨ih0, ih1⟩ := kilnref3_Write.mono_l k
    refine ⟨?_, ?_⟩
    · intro y0 y1 y2 y3 y4 y5 y6 y7 y8
      unfold kilnref3_Write.j0
      repeat' first
      | (with_reducible exact ih0 _ _ _ _ _ _ _ _ _)
      | (with_reducible exact ih1 _ _ _ _ _ _ _ _ _ _)
      | (with_reducible exact LeO.refl _)
      | (with_reducible exact LeO.none _)
      | (with_reducible refine LeO.ite ?_ ?_)
      | (with_reducible refine LeO.bind ?_ (fun _ => ?_))
      | exact ih0 _ _ _ _ _ _ _ _ _
      | exact ih1 _ _ _ _ _ _ _ _ _ _
      | exact LeO.none _
      | refine LeO.ite ?_ ?_
      | refine LeO.bind ?_ (fun _ => ?_)
    · intro y0 y1 y2 y3 y4 y5 y6 y7 y8 y9
      unfold kilnref3_Write.l0
      repeat' first
      | (with_reducible exact ih0 _ _ _ _ _ _ _ _ _)
      | (with_reducible exact ih1 _ _ _ _ _ _ _ _ _ _)
      | (with_reducible exact LeO.refl _)
      | (with_reducible exact LeO.none _)
      | (with_reducible refine LeO.ite ?_ ?_)
      | (with_reducible refine LeO.bind ?_ (fun _ => ?_))
      | exact ih0 _ _ _ _ _ _ _ _ _
      | exact ih1 _ _ _ _ _ _ _ _ _ _
      | exact LeO.none _
      | refine LeO.ite ?_ ?_
      | refine LeO.bind ?_ (fun _ => ?_)
theorem kilnref3_Write.mono : ∀ a0 a1 a2 a3 a4 a5 a6 a7 k, LeO (kilnref3_Write.f k a0 a1 a2 a3 a4 a5 a6 a7) (kilnref3_Write.f (k + 1) a0 a1 a2 a3 a4 a5 a6 a7) := by
  intro a0 a1 a2 a3 a4 a5 a6 a7 k
  obtain ⟨ih0, ih1⟩ := kilnref3_Write.mono_l k
  unfold kilnref3_Write.f
  repeat' first
      | (with_reducible exact ih0 _ _ _ _ _ _ _ _ _)
      | (with_reducible exact ih1 _ _ _ _ _ _ _ _ _ _)
      | (with_reducible exact LeO.refl _)
      | (with_reducible exact LeO.none _)
      | (with_reducible refine LeO.ite ?_ ?_)
      | (with_reducible refine LeO.bind ?_ (fun _ => ?_))
      | exact ih0 _ _ _ _ _ _ _ _ _
      | exact ih1 _ _ _ _ _ _ _ _ _ _
      | exact LeO.none _
      | refine LeO.ite ?_ ?_
      | refine LeO.bind ?_ (fun _ => ?_)
set_option maxHeartbeats 8000000 in
set_option maxRecDepth 100000 in
theorem kilnref3_Write.calls (k : Nat) (a0_0 : Int) (P0_1_ : Nat → Prop) (A0_1 : Option Addr) (c0_1 : Nat) (l0_1 : List (S106)) (P0_2_ : Nat → Prop) (A0_2 : Option Addr) (c0_2 : Nat) (l0_2 : List (S106)) (a0_3 : Int) (a0_4 : Int) (a0_5 : Int) (a1 : Int) (A2 : Option Addr) (c2 : Nat) (l2 : List Int) (r1 : Int) (r2 : List (S106)) (r3 : List (S106)) (r4 : Int) (r5 : Int) (r6 : Int) (r7 : Int) (w : World) (hs0_1 : Kd.V k106 106 w w.heap.size (fun k_ => P0_1_ k_) (.slice A0_1 l0_1.length c0_1) l0_1) (hs0_2 : Kd.V k106 106 w w.heap.size (fun k_ => P0_2_ k_) (.slice A0_2 l0_2.length c0_2) l0_2) (hr2 : Kd.C (Kd.int .u8) w A2 l2.length l2) (hc2 : l2.length ≤ c2) (h : kilnref3_Write.f k a0_0 l0_1 l0_2 a0_3 a0_4 a0_5 a1 l2 = some (r1, r2, r3, r4, r5, r6, r7)) :
    Calls Tryd.prog 20 #[.agg #[.int .i64 a0_0, .slice A0_1 l0_1.length c0_1, .slice A0_2 l0_2.length c0_2, .int .i64 a0_3, .int .i64 a0_4, .int .i64 a0_5], .int .i64 a1, .slice A2 l2.length c2] w fun e w' => ∃ v1_ v2_ : Value, e = .returned (.tuple #[.agg #[.int .i64 r1, v1_, v2_, .int .i64 r4, .int .i64 r5, .int .i64 r6], .int .i64 r7]) ∧ Kd.V k106 106 w' w.heap.size (fun k_ => ((P0_1_ k_ ∨ P0_2_ k_) ∨ w.heap.size ≤ k_)) v1_ r2 ∧ Kd.V k106 106 w' w.heap.size (fun k_ => ((P0_1_ k_ ∨ P0_2_ k_) ∨ w.heap.size ≤ k_)) v2_ r3 ∧ Below w.heap.size w w' := by
  have hu43 := Tryd.underlying43
  have hu106 := Tryd.underlying106
  have HO0_1 := Aside0.mk (show Kd.V k106 106 w w.heap.size (fun k_ => ((P0_1_ k_ ∨ P0_2_ k_) ∨ w.heap.size ≤ k_)) (.slice A0_1 l0_1.length c0_1) l0_1 from Kd.V_mono hs0_1 (fun k_ hk => .inl (.inl hk)))
  have HO0_2 := Aside0.mk (show Kd.V k106 106 w w.heap.size (fun k_ => ((P0_1_ k_ ∨ P0_2_ k_) ∨ w.heap.size ≤ k_)) (.slice A0_2 l0_2.length c0_2) l0_2 from Kd.V_mono hs0_2 (fun k_ hk => .inl (.inr hk)))
  have HR2 := Aside0.mk hr2
  have HC2 := Aside0.mk hc2
  clear hr2 hc2
  have HB := Aside0.mk (Below.refl w.heap.size w)
  have H : (if a1 < 0 then (kilnref3_Write.j0 k a1 l2 true a0_0 l0_1 l0_2 a0_3 a0_4 a0_5) else (kilnref3_Write.j0 k a1 l2 (decide (a1 ≥ a0_0)) a0_0 l0_1 l0_2 a0_3 a0_4 a0_5)) = some (r1, r2, r3, r4, r5, r6, r7) := h
  clear h
  have HC4 := Aside0.mk H
  clear H
  go_enter Tryd.func20, Tryd.ntmps20
  go_upto_region 1 with (first | ((with_reducible refine gate_dst (N := 3) rfl ?_); refine box_event ?hg (N := 3) ?hd (cs := #[.int .i64 a0_0, .slice A0_1 l0_1.length c0_1, .slice A0_2 l0_2.length c0_2, .int .i64 a0_3, .int .i64 a0_4, .int .i64 a0_5]) (t := 43) ?hr ?_; (case hd => rfl); (case hg => rfl); (case hr => first | (go_simp; done) | (go_simp; rfl)); intro gb121 hg w5 hbox hb; have n0_ := Aside0.mk (Kd.V_below (Kd.V_elderB (by (with_reducible repeat (first | apply Kd.V_alloc | apply Kd.V_drewN | apply Kd.V_drew)); exact HO0_1.out) gb121 (Nat.le_of_eq hg.symm)) hb); have n1_ := Aside0.mk (Kd.V_below (Kd.V_elderB (by (with_reducible repeat (first | apply Kd.V_alloc | apply Kd.V_drewN | apply Kd.V_drew)); exact HO0_2.out) gb121 (Nat.le_of_eq hg.symm)) hb); have n2_ := Aside0.mk (below_step (by repeat (first | (with_reducible first | exact HB.out | apply below_alloc | apply pw_below_drewN | apply below_drew1) | exact HB.out)) hb); have n3_ := Aside0.mk (hbox); have n4_ := Aside0.mk ((by rw [hg]; exact (below_size (by repeat (first | (with_reducible first | exact HB.out | apply below_alloc | apply pw_below_drewN | apply below_drew1) | exact HB.out))) : w.heap.size ≤ gb121)); have n5_ := Aside0.mk ((by rw [hg]; exact (below_size (by repeat (first | (with_reducible first | exact HB.out | apply below_alloc | apply pw_below_drewN | apply below_drew1) | exact HB.out))) : w.heap.size ≤ gb121)); clear HO0_1; clear HO0_2; clear HB; have HO0_1 := n0_; have HO0_2 := n1_; have HB := n2_; have BK121 := n3_; have GW121 := n4_; have GE121 := n5_; clear n0_ n1_ n2_ n3_ n4_ n5_; clear hb hbox hg) | ((with_reducible refine gate_dst (N := 6) rfl ?_); refine box_event ?hg (N := 6) ?hd (cs := #[.int .i64 0, .slice none 0 0, .slice none 0 0, .int .i64 0, .int .i64 0, .int .i64 0]) (t := 43) ?hr ?_; (case hd => rfl); (case hg => rfl); (case hr => first | (go_simp; done) | (go_simp; rfl)); intro gb122 hg w6 hbox hb; have n0_ := Aside0.mk (Kd.V_below (Kd.V_elderB (by (with_reducible repeat (first | apply Kd.V_alloc | apply Kd.V_drewN | apply Kd.V_drew)); exact HO0_1.out) gb122 (Nat.le_of_eq hg.symm)) hb); have n1_ := Aside0.mk (Kd.V_below (Kd.V_elderB (by (with_reducible repeat (first | apply Kd.V_alloc | apply Kd.V_drewN | apply Kd.V_drew)); exact HO0_2.out) gb122 (Nat.le_of_eq hg.symm)) hb); have n2_ := Aside0.mk (blk_below (g := gb121) (o := .cells #[.int .i64 a0_0, .slice A0_1 l0_1.length c0_1, .slice A0_2 l0_2.length c0_2, .int .i64 a0_3, .int .i64 a0_4, .int .i64 a0_5] 43 (0, 0)) (by (with_reducible repeat (first | refine blk_drewN ?_ _ | refine blk_drew ?_ | refine blk_alloc ?_ _)); exact BK121.out) hb); have n3_ := Aside0.mk (below_step (by repeat (first | (with_reducible first | exact HB.out | apply below_alloc | apply pw_below_drewN | apply below_drew1 | refine below_set ?_ GE121.out) | exact HB.out)) hb); have n4_ := Aside0.mk (hbox); have n5_ := Aside0.mk ((by rw [hg]; exact (below_size (by repeat (first | (with_reducible first | exact HB.out | apply below_alloc | apply pw_below_drewN | apply below_drew1 | refine below_set ?_ GE121.out) | exact HB.out))) : w.heap.size ≤ gb122)); have n6_ := Aside0.mk ((by rw [hg]; exact (below_size (by repeat (first | (with_reducible first | exact HB.out | apply below_alloc | apply pw_below_drewN | apply below_drew1 | refine below_set ?_ GE121.out) | exact HB.out))) : w.heap.size ≤ gb122)); have n7_ := Aside0.mk ((by rw [hg]; exact Nat.ne_of_lt (blk_lt (g := gb121) (o := .cells #[.int .i64 a0_0, .slice A0_1 l0_1.length c0_1, .slice A0_2 l0_2.length c0_2, .int .i64 a0_3, .int .i64 a0_4, .int .i64 a0_5] 43 (0, 0)) (by (with_reducible repeat (first | refine blk_drewN ?_ _ | refine blk_drew ?_ | refine blk_alloc ?_ _)); exact BK121.out)) : gb121 ≠ gb122)); have n8_ := Aside0.mk ((by rw [hg]; exact Nat.ne_of_gt (blk_lt (g := gb121) (o := .cells #[.int .i64 a0_0, .slice A0_1 l0_1.length c0_1, .slice A0_2 l0_2.length c0_2, .int .i64 a0_3, .int .i64 a0_4, .int .i64 a0_5] 43 (0, 0)) (by (with_reducible repeat (first | refine blk_drewN ?_ _ | refine blk_drew ?_ | refine blk_alloc ?_ _)); exact BK121.out)) : gb122 ≠ gb121)); clear HO0_1; clear HO0_2; clear BK121; clear HB; have HO0_1 := n0_; have HO0_2 := n1_; have BK121 := n2_; have HB := n3_; have BK122 := n4_; have GW122 := n5_; have GE122 := n6_; have NB121_122 := n7_; have NB122_121 := n8_; clear n0_ n1_ n2_ n3_ n4_ n5_ n6_ n7_ n8_; clear hb hbox hg))
  (try simp only [Act.put, List.setIfInBounds_toArray, List.set_cons_zero, List.set_cons_succ])
  go_cut [17] (fun v17 wc => ∃ (kq : Nat) (x17_3 : Bool), v17 = .bool x17_3 ∧ Aside0 (kilnref3_Write.j0 kq a1 l2 x17_3 a0_0 l0_1 l0_2 a0_3 a0_4 a0_5 = some (r1, r2, r3, r4, r5, r6, r7)) ∧ Aside0 (kq ≤ k) ∧ Aside0 (Kd.V k106 106 wc w.heap.size (fun k_ => ((P0_1_ k_ ∨ P0_2_ k_) ∨ w.heap.size ≤ k_) ∧ k_ ≠ gb121 ∧ k_ ≠ gb122) (.slice A0_1 l0_1.length c0_1) l0_1) ∧ Aside0 (Kd.V k106 106 wc w.heap.size (fun k_ => ((P0_1_ k_ ∨ P0_2_ k_) ∨ w.heap.size ≤ k_) ∧ k_ ≠ gb121 ∧ k_ ≠ gb122) (.slice A0_2 l0_2.length c0_2) l0_2) ∧ Aside0 (wc.heap[gb121]? = some (.cells #[.int .i64 a0_0, (.slice A0_1 l0_1.length c0_1), (.slice A0_2 l0_2.length c0_2), .int .i64 a0_3, .int .i64 a0_4, .int .i64 a0_5] 43 (0, 0))) ∧ Aside0 (wc.heap[gb122]? = some (.cells #[.int .i64 0, (.slice none 0 0), (.slice none 0 0), .int .i64 0, .int .i64 0, .int .i64 0] 43 (0, 0))) ∧ Aside0 (Below w.heap.size w wc))
  case first =>
    have H := HC4.out
    clear HC4
    by_cases c7 : a1 < 0
    · rw [if_pos c7] at H
      have c7b0 : decide (a1 < 0) = true := decide_eq_true c7
      clear c7
      (first | rw [c7b0] | (simp only [i64_w, i32_w]; rw [c7b0]) | skip)
      have H' := Aside0.mk H
      clear H
      go_wp2
      go_meet
      case rel => exact ⟨_, (true), (by first | rfl | (simp; done) | (simp [*]; done)), H', ⟨by first | omega | exact Nat.le_refl _⟩, ⟨by (with_reducible repeat (first | apply Kd.V_alloc | apply Kd.V_drewN | apply Kd.V_drew)); exact Kd.V_mono HO0_1.out (fun _ hk => ⟨hk.1.1, ⟨hk.1.2, hk.2⟩⟩)⟩, ⟨by (with_reducible repeat (first | apply Kd.V_alloc | apply Kd.V_drewN | apply Kd.V_drew)); exact Kd.V_mono HO0_2.out (fun _ hk => ⟨hk.1.1, ⟨hk.1.2, hk.2⟩⟩)⟩, ⟨by (with_reducible repeat (first | refine blk_drewN ?_ _ | refine blk_drew ?_ | refine blk_alloc ?_ _)); exact BK121.out⟩, ⟨by (with_reducible repeat (first | refine blk_drewN ?_ _ | refine blk_drew ?_ | refine blk_alloc ?_ _)); exact BK122.out⟩, ⟨by repeat (first | (with_reducible first | exact HB.out | apply below_alloc | apply pw_below_drewN | apply below_drew1 | refine below_set ?_ GE121.out | refine below_set ?_ GE122.out) | exact HB.out)⟩⟩
    · rw [if_neg c7] at H
      have c7b0 : decide (a1 < 0) = false := decide_eq_false c7
      clear c7
      (first | rw [c7b0] | (simp only [i64_w, i32_w]; rw [c7b0]) | skip)
      have H' := Aside0.mk H
      clear H
      have hnb8 := NB121_122.out
      have hnc8 := NB122_121.out
      have hcz9_0 : w6.cell? ⟨gb121, 0, none⟩ = some (.int .i64 a0_0) := (blk_cell BK121.out 0).trans rfl
      have hcz9_1 : w6.cell? ⟨gb121, 1, none⟩ = some (.slice A0_1 l0_1.length c0_1) := (blk_cell BK121.out 1).trans rfl
      have hcz9_2 : w6.cell? ⟨gb121, 2, none⟩ = some (.slice A0_2 l0_2.length c0_2) := (blk_cell BK121.out 2).trans rfl
      have hcz9_3 : w6.cell? ⟨gb121, 3, none⟩ = some (.int .i64 a0_3) := (blk_cell BK121.out 3).trans rfl
      have hcz9_4 : w6.cell? ⟨gb121, 4, none⟩ = some (.int .i64 a0_4) := (blk_cell BK121.out 4).trans rfl
      have hcz9_5 : w6.cell? ⟨gb121, 5, none⟩ = some (.int .i64 a0_5) := (blk_cell BK121.out 5).trans rfl
      have hfz9_0 := blk_frozen BK121.out 0
      have hfz9_1 := blk_frozen BK121.out 1
      have hfz9_2 := blk_frozen BK121.out 2
      have hfz9_3 := blk_frozen BK121.out 3
      have hfz9_4 := blk_frozen BK121.out 4
      have hfz9_5 := blk_frozen BK121.out 5
      go_wp2
      go_meet
      case rel => exact ⟨_, (decide (a1 ≥ a0_0)), (by first | rfl | (simp; done) | (simp [*]; done)), H', ⟨by first | omega | exact Nat.le_refl _⟩, ⟨by (with_reducible repeat (first | apply Kd.V_alloc | apply Kd.V_drewN | apply Kd.V_drew)); exact Kd.V_mono HO0_1.out (fun _ hk => ⟨hk.1.1, ⟨hk.1.2, hk.2⟩⟩)⟩, ⟨by (with_reducible repeat (first | apply Kd.V_alloc | apply Kd.V_drewN | apply Kd.V_drew)); exact Kd.V_mono HO0_2.out (fun _ hk => ⟨hk.1.1, ⟨hk.1.2, hk.2⟩⟩)⟩, ⟨by (with_reducible repeat (first | refine blk_drewN ?_ _ | refine blk_drew ?_ | refine blk_alloc ?_ _)); exact BK121.out⟩, ⟨by (with_reducible repeat (first | refine blk_drewN ?_ _ | refine blk_drew ?_ | refine blk_alloc ?_ _)); exact BK122.out⟩, ⟨by repeat (first | (with_reducible first | exact HB.out | apply below_alloc | apply pw_below_drewN | apply below_drew1 | refine below_set ?_ GE121.out | refine below_set ?_ GE122.out) | exact HB.out)⟩⟩
  case rest =>
    clear HC4
    try clear c2
    try clear p2
    try clear c7
    try clear c7b0
    try clear c8
    try clear hcz9_0
    try clear hcz9_1
    try clear hcz9_2
    try clear hcz9_3
    try clear hcz9_4
    try clear hcz9_5
    try clear hfz9_0
    try clear hfz9_1
    try clear hfz9_2
    try clear hfz9_3
    try clear hfz9_4
    try clear hfz9_5
    obtain ⟨kq, x17_3, rfl, HA, HJ3, HO_122001, HO_122002, BK121, BK122, HB⟩ := hcut
    cases kq with
    | zero => exact absurd HA.out (by simp [kilnref3_Write.j0])
    | succ kj3 =>
      have H := HA.out
      clear HA
      simp only [kilnref3_Write.j0] at H
      by_cases c10 : x17_3 = true
      · subst c10
        have H1 : (some (a0_0, l0_1, l0_2, a0_3, a0_4, a0_5, 31)) = some (r1, r2, r3, r4, r5, r6, r7) := by rw [if_pos rfl] at H; exact H
        clear H
        have H := H1
        clear H1
        simp only [Option.some.injEq, Prod.mk.injEq] at H
        obtain ⟨rfl, rfl, rfl, rfl, rfl, rfl, rfl⟩ := H
        have hnb11 := NB121_122.out
        have hnc11 := NB122_121.out
        have hcz12_0 : wc.cell? ⟨gb121, 0, none⟩ = some (.int .i64 a0_0) := (blk_cell BK121.out 0).trans rfl
        have hcz12_1 : wc.cell? ⟨gb121, 1, none⟩ = some (.slice A0_1 l0_1.length c0_1) := (blk_cell BK121.out 1).trans rfl
        have hcz12_2 : wc.cell? ⟨gb121, 2, none⟩ = some (.slice A0_2 l0_2.length c0_2) := (blk_cell BK121.out 2).trans rfl
        have hcz12_3 : wc.cell? ⟨gb121, 3, none⟩ = some (.int .i64 a0_3) := (blk_cell BK121.out 3).trans rfl
        have hcz12_4 : wc.cell? ⟨gb121, 4, none⟩ = some (.int .i64 a0_4) := (blk_cell BK121.out 4).trans rfl
        have hcz12_5 : wc.cell? ⟨gb121, 5, none⟩ = some (.int .i64 a0_5) := (blk_cell BK121.out 5).trans rfl
        have hfz12_0 := blk_frozen BK121.out 0
        have hfz12_1 := blk_frozen BK121.out 1
        have hfz12_2 := blk_frozen BK121.out 2
        have hfz12_3 := blk_frozen BK121.out 3
        have hfz12_4 := blk_frozen BK121.out 4
        have hfz12_5 := blk_frozen BK121.out 5
        have hcz13_0 : wc.cell? ⟨gb122, 0, none⟩ = some (.int .i64 0) := (blk_cell BK122.out 0).trans rfl
        have hcz13_1 : wc.cell? ⟨gb122, 1, none⟩ = some (.slice none 0 0) := (blk_cell BK122.out 1).trans rfl
        have hcz13_2 : wc.cell? ⟨gb122, 2, none⟩ = some (.slice none 0 0) := (blk_cell BK122.out 2).trans rfl
        have hcz13_3 : wc.cell? ⟨gb122, 3, none⟩ = some (.int .i64 0) := (blk_cell BK122.out 3).trans rfl
        have hcz13_4 : wc.cell? ⟨gb122, 4, none⟩ = some (.int .i64 0) := (blk_cell BK122.out 4).trans rfl
        have hcz13_5 : wc.cell? ⟨gb122, 5, none⟩ = some (.int .i64 0) := (blk_cell BK122.out 5).trans rfl
        have hfz13_0 := blk_frozen BK122.out 0
        have hfz13_1 := blk_frozen BK122.out 1
        have hfz13_2 := blk_frozen BK122.out 2
        have hfz13_3 := blk_frozen BK122.out 3
        have hfz13_4 := blk_frozen BK122.out 4
        have hfz13_5 := blk_frozen BK122.out 5
        go_wp2
        refine bodyPost_ret (results_ct rfl _ _ gb122 43 #[.int .i64 a0_0, .slice A0_1 l0_1.length c0_1, .slice A0_2 l0_2.length c0_2, .int .i64 a0_3, .int .i64 a0_4, .int .i64 a0_5] (0, 0) _ rfl (by (with_reducible repeat (first | refine blk_drewN ?_ _ | refine blk_drew ?_ | refine blk_alloc ?_ _)); refine blk_put (cs := #[.int .i64 a0_0, .slice A0_1 l0_1.length c0_1, .slice A0_2 l0_2.length c0_2, .int .i64 a0_3, .int .i64 a0_4, .int .i64 0]) ?_ 5 _ rfl; (with_reducible repeat (first | refine blk_drewN ?_ _ | refine blk_drew ?_ | refine blk_alloc ?_ _)); refine blk_put (cs := #[.int .i64 a0_0, .slice A0_1 l0_1.length c0_1, .slice A0_2 l0_2.length c0_2, .int .i64 a0_3, .int .i64 0, .int .i64 0]) ?_ 4 _ rfl; (with_reducible repeat (first | refine blk_drewN ?_ _ | refine blk_drew ?_ | refine blk_alloc ?_ _)); refine blk_put (cs := #[.int .i64 a0_0, .slice A0_1 l0_1.length c0_1, .slice A0_2 l0_2.length c0_2, .int .i64 0, .int .i64 0, .int .i64 0]) ?_ 3 _ rfl; (with_reducible repeat (first | refine blk_drewN ?_ _ | refine blk_drew ?_ | refine blk_alloc ?_ _)); refine blk_put (cs := #[.int .i64 a0_0, .slice A0_1 l0_1.length c0_1, .slice none 0 0, .int .i64 0, .int .i64 0, .int .i64 0]) ?_ 2 _ rfl; (with_reducible repeat (first | refine blk_drewN ?_ _ | refine blk_drew ?_ | refine blk_alloc ?_ _)); refine blk_put (cs := #[.int .i64 a0_0, .slice none 0 0, .slice none 0 0, .int .i64 0, .int .i64 0, .int .i64 0]) ?_ 1 _ rfl; (with_reducible repeat (first | refine blk_drewN ?_ _ | refine blk_drew ?_ | refine blk_alloc ?_ _)); refine blk_put (cs := #[.int .i64 0, .slice none 0 0, .slice none 0 0, .int .i64 0, .int .i64 0, .int .i64 0]) ?_ 0 _ rfl; (with_reducible repeat (first | refine blk_drewN ?_ _ | refine blk_drew ?_ | refine blk_alloc ?_ _)); exact BK122.out) Tryd.underlying43 rfl (by kernel_rfl)) rfl ?_
        exact ⟨_, _, by first | rfl | (simp [errW_none, errW_some] <;> rfl) | (simp [*, errW_none, errW_some] <;> rfl), by (with_reducible repeat (first | apply Kd.V_alloc | apply Kd.V_drewN | apply Kd.V_drew)); exact Kd.V_mono (Kd.V_far (p := ⟨gb122, 5, none⟩) (Kd.V_far (p := ⟨gb122, 4, none⟩) (Kd.V_far (p := ⟨gb122, 3, none⟩) (Kd.V_far (p := ⟨gb122, 2, none⟩) (Kd.V_far (p := ⟨gb122, 1, none⟩) (Kd.V_far (p := ⟨gb122, 0, none⟩) (Kd.V_mono HO_122001.out (fun k_ hk => (⟨hk, hk.2.2⟩ : _ ∧ k_ ≠ gb122))) (fun _ hk => hk.2) (.int .i64 a0_0)) (fun _ hk => hk.2) (.slice A0_1 l0_1.length c0_1)) (fun _ hk => hk.2) (.slice A0_2 l0_2.length c0_2)) (fun _ hk => hk.2) (.int .i64 a0_3)) (fun _ hk => hk.2) (.int .i64 a0_4)) (fun _ hk => hk.2) (.int .i64 a0_5)) (fun _ hk => hk.1.1), by (with_reducible repeat (first | apply Kd.V_alloc | apply Kd.V_drewN | apply Kd.V_drew)); exact Kd.V_mono (Kd.V_far (p := ⟨gb122, 5, none⟩) (Kd.V_far (p := ⟨gb122, 4, none⟩) (Kd.V_far (p := ⟨gb122, 3, none⟩) (Kd.V_far (p := ⟨gb122, 2, none⟩) (Kd.V_far (p := ⟨gb122, 1, none⟩) (Kd.V_far (p := ⟨gb122, 0, none⟩) (Kd.V_mono HO_122002.out (fun k_ hk => (⟨hk, hk.2.2⟩ : _ ∧ k_ ≠ gb122))) (fun _ hk => hk.2) (.int .i64 a0_0)) (fun _ hk => hk.2) (.slice A0_1 l0_1.length c0_1)) (fun _ hk => hk.2) (.slice A0_2 l0_2.length c0_2)) (fun _ hk => hk.2) (.int .i64 a0_3)) (fun _ hk => hk.2) (.int .i64 a0_4)) (fun _ hk => hk.2) (.int .i64 a0_5)) (fun _ hk => hk.1.1), by repeat (first | (with_reducible first | exact HB.out | apply below_alloc | apply pw_below_drewN | apply below_drew1 | refine below_set ?_ GE121.out | refine below_set ?_ GE122.out) | exact HB.out)⟩
      · replace c10 := Bool.eq_false_iff.mpr c10
        subst c10
        have H1 : (if (l2.length : Int) = 512 then (kilnref3_Write.l0 kj3 a1 l2 ([] : List (S106)) 0 a0_0 l0_1 l0_2 a0_3 a0_4 a0_5) else (some (a0_0, l0_1, l0_2, a0_3, a0_4, a0_5, 32))) = some (r1, r2, r3, r4, r5, r6, r7) := by rw [if_neg (show ¬ (false = true) by decide)] at H; exact H
        clear H
        have H := H1
        clear H1
        by_cases c14 : (l2.length : Int) = 512
        · rw [if_pos c14] at H
          have c14b0 : ((l2.length : Int) == 512) = true := beq_iff_eq.mpr c14
          have c14b1 : ((l2.length : Int) != 512) = false := bne_eq_false_iff_eq.mpr c14
          clear c14
          have H' := Aside0.mk H
          clear H
          go_wp2
          go_loopg [8, 9] kj3 (fun kq v8 v9 w' => ∃ (x8_2 : List (S106)) (x9_2 : Int), v9 = .int .i64 x9_2 ∧ Aside0 (kilnref3_Write.l0 kq a1 l2 x8_2 x9_2 a0_0 l0_1 l0_2 a0_3 a0_4 a0_5 = some (r1, r2, r3, r4, r5, r6, r7)) ∧ Aside0 (kq ≤ kj3) ∧ Aside0 (Kd.N k106 106 w' w.heap.size (fun k_ => ((P0_1_ k_ ∨ P0_2_ k_) ∨ w.heap.size ≤ k_) ∧ k_ ≠ gb121 ∧ k_ ≠ gb122) v8 x8_2) ∧ Aside0 (Kd.V k106 106 w' w.heap.size (fun k_ => ((P0_1_ k_ ∨ P0_2_ k_) ∨ w.heap.size ≤ k_) ∧ some k_ ≠ (v8 : Value).ownBlock ∧ k_ ≠ gb121 ∧ k_ ≠ gb122) (.slice A0_1 l0_1.length c0_1) l0_1) ∧ Aside0 (Kd.V k106 106 w' w.heap.size (fun k_ => ((P0_1_ k_ ∨ P0_2_ k_) ∨ w.heap.size ≤ k_) ∧ some k_ ≠ (v8 : Value).ownBlock ∧ k_ ≠ gb121 ∧ k_ ≠ gb122) (.slice A0_2 l0_2.length c0_2) l0_2) ∧ Aside0 (w'.heap[gb121]? = some (.cells #[.int .i64 a0_0, (.slice A0_1 l0_1.length c0_1), (.slice A0_2 l0_2.length c0_2), .int .i64 a0_3, .int .i64 a0_4, .int .i64 a0_5] 43 (0, 0))) ∧ Aside0 (w'.heap[gb122]? = some (.cells #[.int .i64 0, (.slice none 0 0), (.slice none 0 0), .int .i64 0, .int .i64 0, .int .i64 0] 43 (0, 0))) ∧ Aside0 (Below w.heap.size w w'))
          case atStart => exact ⟨(([] : List (S106))), (0), (by first | rfl | (simp; done) | (simp [*]; done)), H', ⟨Nat.le_refl _⟩, ⟨by first | exact Kd.S_nil _ _ _ _ _ | exact Kd.N_nil _ _ _ _ _ | exact Kd.V_nil _ _ _ _ _ | exact Kd.Q_nil _ _ _ _ _ | exact Kd.R_nil _ _ _ _ _⟩, ⟨by (with_reducible repeat (first | apply Kd.V_alloc | apply Kd.V_drewN | apply Kd.V_drew)); exact Kd.V_mono HO_122001.out (fun _ hk => ⟨hk.1, ⟨(by simp [Value.ownBlock]), ⟨hk.2.1, hk.2.2⟩⟩⟩)⟩, ⟨by (with_reducible repeat (first | apply Kd.V_alloc | apply Kd.V_drewN | apply Kd.V_drew)); exact Kd.V_mono HO_122002.out (fun _ hk => ⟨hk.1, ⟨(by simp [Value.ownBlock]), ⟨hk.2.1, hk.2.2⟩⟩⟩)⟩, ⟨by (with_reducible repeat (first | refine blk_drewN ?_ _ | refine blk_drew ?_ | refine blk_alloc ?_ _)); exact BK121.out⟩, ⟨by (with_reducible repeat (first | refine blk_drewN ?_ _ | refine blk_drew ?_ | refine blk_alloc ?_ _)); exact BK122.out⟩, ⟨by repeat (first | (with_reducible first | exact HB.out | apply below_alloc | apply pw_below_drewN | apply below_drew1 | refine below_set ?_ GE121.out | refine below_set ?_ GE122.out) | exact HB.out)⟩⟩
          case round =>
            clear H'
            try clear c1
            try clear c2
            try clear p2
            try clear c7
            try clear c7b0
            try clear c8
            try clear c10
            try clear c11
            try clear c14
            try clear c14b0
            try clear c14b1
            try clear hcz12_0
            try clear hcz12_1
            try clear hcz12_2
            try clear hcz12_3
            try clear hcz12_4
            try clear hcz12_5
            try clear hcz13_0
            try clear hcz13_1
            try clear hcz13_2
            try clear hcz13_3
            try clear hcz13_4
            try clear hcz13_5
            try clear hcz9_0
            try clear hcz9_1
            try clear hcz9_2
            try clear hcz9_3
            try clear hcz9_4
            try clear hcz9_5
            try clear hfz12_0
            try clear hfz12_1
            try clear hfz12_2
            try clear hfz12_3
            try clear hfz12_4
            try clear hfz12_5
            try clear hfz13_0
            try clear hfz13_1
            try clear hfz13_2
            try clear hfz13_3
            try clear hfz13_4
            try clear hfz13_5
            try clear hfz9_0
            try clear hfz9_1
            try clear hfz9_2
            try clear hfz9_3
            try clear hfz9_4
            try clear hfz9_5
            try clear p2
            obtain ⟨x8_2, x9_2, rfl, HA, HK2, HO_8, HO_122001, HO_122002, BK121, BK122, HB⟩ := hrel
            cases gk with
            | zero => exact absurd HA.out (by simp [kilnref3_Write.l0])
            | succ k2 =>
              have H := HA.out
              clear HA
              simp only [kilnref3_Write.l0] at H
              by_cases c15 : x9_2 < (l0_2.length : Int)
              · rw [if_pos c15] at H
                have c15b0 : decide (x9_2 < (l0_2.length : Int)) = true := decide_eq_true c15
                clear c15
                by_cases c16 : 0 ≤ x9_2
                · rw [if_pos c16] at H
                  have c16b0 : decide (0 ≤ x9_2) = true := decide_eq_true c16
                  clear c16
                  by_cases c17 : x8_2.length < 4398046511104
                  · rw [if_pos c17] at H
                    have LMc17 := Aside0.mk c17
                    clear c17
                    obtain ⟨y124, hy124⟩ : ∃ y_ : List (S106), y_ = (x8_2 ++ [(⟨(rd_T106 l0_2 x9_2).f0, (rd_T106 l0_2 x9_2).f1⟩ : S106)]) := ⟨_, rfl⟩
                    replace H : (kilnref3_Write.l0 k2 a1 l2 y124 (wrap64 (x9_2 + 1)) a0_0 l0_1 l0_2 a0_3 a0_4 a0_5) = some (r1, r2, r3, r4, r5, r6, r7) := by first | (rw [hy124]; with_reducible exact H) | (have H2_ := (Option.bind_some _ _).symm.trans H; rw [hy124]; with_reducible exact H2_) | (have H2_ := (Option.bind_some _ _).symm.trans H; with_reducible exact H2_) | with_reducible exact H | (rw [hy124]; exact H) | exact H
                    have Ny124 := Aside0.mk hy124
                    clear hy124
                    have H' := Aside0.mk H
                    clear H
                    have hnb18 := NB121_122.out
                    have hnc18 := NB122_121.out
                    have hcz19_0 : wr.cell? ⟨gb121, 0, none⟩ = some (.int .i64 a0_0) := (blk_cell BK121.out 0).trans rfl
                    have hcz19_1 : wr.cell? ⟨gb121, 1, none⟩ = some (.slice A0_1 l0_1.length c0_1) := (blk_cell BK121.out 1).trans rfl
                    have hcz19_2 : wr.cell? ⟨gb121, 2, none⟩ = some (.slice A0_2 l0_2.length c0_2) := (blk_cell BK121.out 2).trans rfl
                    have hcz19_3 : wr.cell? ⟨gb121, 3, none⟩ = some (.int .i64 a0_3) := (blk_cell BK121.out 3).trans rfl
                    have hcz19_4 : wr.cell? ⟨gb121, 4, none⟩ = some (.int .i64 a0_4) := (blk_cell BK121.out 4).trans rfl
                    have hcz19_5 : wr.cell? ⟨gb121, 5, none⟩ = some (.int .i64 a0_5) := (blk_cell BK121.out 5).trans rfl
                    have hfz19_0 := blk_frozen BK121.out 0
                    have hfz19_1 := blk_frozen BK121.out 1
                    have hfz19_2 := blk_frozen BK121.out 2
                    have hfz19_3 := blk_frozen BK121.out 3
                    have hfz19_4 := blk_frozen BK121.out 4
                    have hfz19_5 := blk_frozen BK121.out 5
                    have p123 : 0 ≤ (x9_2 : Int) := of_decide_eq_true (by first | (with_reducible assumption) | assumption)
                    have q123 : x9_2 < (l0_2.length : Int) := of_decide_eq_true (by first | (with_reducible assumption) | assumption)
                    obtain ⟨ad123, A123_1, c123_1, e123, hx123_0, hx123_1, hl123_1, hi123_1⟩ := at_T106 (Kd.V_reads' HO_122002.out).2.2 x9_2 p123 q123
                    cases e123
                    obtain ⟨ce123, hce123, hMe123, hcc123⟩ := Kd.V_get HO_122002.out z106 x9_2 p123 (by first | exact q123 | exact of_decide_eq_true (by first | (with_reducible assumption) | assumption) | (have e_ := (Kd.V_reads' HO_122002.out).1; omega))
                    obtain ⟨ua123_1, uc123_1, rfl, ul123_1, ge123_1⟩ := k106_openF hMe123
                    have hv123_1 := hcc123 1 _ rfl
                    rw [add_field _ _ 1 (by omega)] at hv123_1
                    replace hv123_1 := Option.some.inj (hv123_1.symm.trans hx123_1)
                    injection hv123_1 with hva_ hvn_ hvc_
                    rw [hva_] at ge123_1
                    rw [hvc_] at ul123_1
                    have HL123_1 := Aside0.mk (show Kd.V (Kd.int .u8) 5 _ w.heap.size _ _ ((rd_T106 l0_2 x9_2).f1) from Kd.V_mk ul123_1 ge123_1)
                    clear hva_ hvn_ hvc_ ge123_1 ul123_1
                    clear hcc123 hce123
                    have HR123_1 := Aside0.mk hi123_1
                    have HC123_1 := Aside0.mk hl123_1
                    clear hi123_1 hl123_1
                    replace p123 := eq_true p123
                    replace q123 := eq_true q123
                    go_wp2_with (first | ((with_reducible refine gate_builtin (b := .append) (xs := #[.tmp 30, .tmp 36]) rfl ?_); at_builtin; refine Kd.N_append k106 (w0 := w) w.heap.size rfl (.tmp 30) (.tmp 36) 39 106 (.agg #[(.int .i64 0), (.slice none 0 0)]) 32 rfl Tryd.underlying39 info106 rfl (by decide) (by omega) u8 x8_2 (⟨(rd_T106 l0_2 x9_2).f0, (rd_T106 l0_2 x9_2).f1⟩ : S106) [.int .i64 ((rd_T106 l0_2 x9_2).f0), .slice A123_1 ((rd_T106 l0_2 x9_2).f1).length c123_1] (fun k_ => ((P0_1_ k_ ∨ P0_2_ k_) ∨ w.heap.size ≤ k_) ∧ k_ ≠ gb121 ∧ k_ ≠ gb122) (fun k_ => ((fun k_ => ((P0_1_ k_ ∨ P0_2_ k_) ∨ w.heap.size ≤ k_) ∧ k_ ≠ gb121 ∧ k_ ≠ gb122)) k_ ∧ some k_ ≠ (u8 : Value).ownBlock) rfl rfl ?aP (fun _ hk => hk) ?aF ?aO ?aB ?aS ?aL ?_; (case aP => exact (k106_mkF _ _ (⟨(rd_T106 l0_2 x9_2).f0, (rd_T106 l0_2 x9_2).f1⟩ : S106) (Kd.V_reads' (Kd.V_mono (ok' := (fun k_ => ((fun k_ => ((P0_1_ k_ ∨ P0_2_ k_) ∨ w.heap.size ≤ k_) ∧ k_ ≠ gb121 ∧ k_ ≠ gb122)) k_ ∧ some k_ ≠ (u8 : Value).ownBlock)) (HL123_1.out) (fun k_ hk => ⟨⟨hk.1, ⟨hk.2.2.1, hk.2.2.2⟩⟩, hk.2.1⟩))).2.1 (Kd.V_F (Kd.V_mono (ok' := (fun k_ => ((fun k_ => ((P0_1_ k_ ∨ P0_2_ k_) ∨ w.heap.size ≤ k_) ∧ k_ ≠ gb121 ∧ k_ ≠ gb122)) k_ ∧ some k_ ≠ (u8 : Value).ownBlock)) (HL123_1.out) (fun k_ hk => ⟨⟨hk.1, ⟨hk.2.2.1, hk.2.2.2⟩⟩, hk.2.1⟩))))); (case aB => exact (by repeat (first | (with_reducible first | exact HB.out | apply below_alloc | apply pw_below_drewN | apply below_drew1 | refine below_set ?_ GE121.out | refine below_set ?_ GE122.out) | exact HB.out))); (case aF => exact (fun k_ hk => ⟨(.inr (Nat.le_trans (below_size (by repeat (first | (with_reducible first | exact HB.out | apply below_alloc | apply pw_below_drewN | apply below_drew1 | refine below_set ?_ GE121.out | refine below_set ?_ GE122.out) | exact HB.out))) hk)), Kd.freshB (g := gb121) (o := .cells #[.int .i64 a0_0, .slice A0_1 l0_1.length c0_1, .slice (some ad123) l0_2.length c0_2, .int .i64 a0_3, .int .i64 a0_4, .int .i64 a0_5] 43 (0, 0)) (by (with_reducible repeat (first | refine blk_drewN ?_ _ | refine blk_drew ?_ | refine blk_alloc ?_ _)); exact BK121.out) k_ hk, Kd.freshB (g := gb122) (o := .cells #[.int .i64 0, .slice none 0 0, .slice none 0 0, .int .i64 0, .int .i64 0, .int .i64 0] 43 (0, 0)) (by (with_reducible repeat (first | refine blk_drewN ?_ _ | refine blk_drew ?_ | refine blk_alloc ?_ _)); exact BK122.out) k_ hk⟩)); (case aO => exact (by (with_reducible repeat (first | apply Kd.N_alloc | apply Kd.N_drewN | apply Kd.N_drew)); exact HO_8.out)); (case aS => exact (below_size (by repeat (first | (with_reducible first | exact HB.out | apply below_alloc | apply pw_below_drewN | apply below_drew1 | refine below_set ?_ GE121.out | refine below_set ?_ GE122.out) | exact HB.out)))); (case aL => have := LMc17.out; omega); intro v125 w20 ho hb hg hat; rw [← Ny124.out] at ho; have n0_ := Aside0.mk (Kd.V_afterv (ok := (fun k_ => ((P0_1_ k_ ∨ P0_2_ k_) ∨ w.heap.size ≤ k_) ∧ k_ ≠ gb121 ∧ k_ ≠ gb122)) (by (with_reducible repeat (first | apply Kd.V_alloc | apply Kd.V_drewN | apply Kd.V_drew)); exact Kd.V_mono HO_122001.out (fun _ hk => ⟨⟨hk.1, ⟨hk.2.2.1, hk.2.2.2⟩⟩, hk.2.1⟩)) hg hat); have n1_ := Aside0.mk (Kd.V_afterv (ok := (fun k_ => ((P0_1_ k_ ∨ P0_2_ k_) ∨ w.heap.size ≤ k_) ∧ k_ ≠ gb121 ∧ k_ ≠ gb122)) (by (with_reducible repeat (first | apply Kd.V_alloc | apply Kd.V_drewN | apply Kd.V_drew)); exact Kd.V_mono HO_122002.out (fun _ hk => ⟨⟨hk.1, ⟨hk.2.2.1, hk.2.2.2⟩⟩, hk.2.1⟩)) hg hat); have n2_ := Aside0.mk (blk_grown (g := gb121) (o := .cells #[.int .i64 a0_0, .slice A0_1 l0_1.length c0_1, .slice (some ad123) l0_2.length c0_2, .int .i64 a0_3, .int .i64 a0_4, .int .i64 a0_5] 43 (0, 0)) (by (with_reducible repeat (first | refine blk_drewN ?_ _ | refine blk_drew ?_ | refine blk_alloc ?_ _)); exact BK121.out) hg (Kd.N_ne HO_8.out BK121.out (by decide))); have n3_ := Aside0.mk (blk_grown (g := gb122) (o := .cells #[.int .i64 0, .slice none 0 0, .slice none 0 0, .int .i64 0, .int .i64 0, .int .i64 0] 43 (0, 0)) (by (with_reducible repeat (first | refine blk_drewN ?_ _ | refine blk_drew ?_ | refine blk_alloc ?_ _)); exact BK122.out) hg (Kd.N_ne HO_8.out BK122.out (by decide))); have n4_ := Aside0.mk (Kd.V_afterv (ok := (fun k_ => ((P0_1_ k_ ∨ P0_2_ k_) ∨ w.heap.size ≤ k_) ∧ k_ ≠ gb121 ∧ k_ ≠ gb122)) (by (with_reducible repeat (first | apply Kd.V_alloc | apply Kd.V_drewN | apply Kd.V_drew)); exact Kd.V_mono HL123_1.out (fun _ hk => ⟨⟨hk.1, ⟨hk.2.2.1, hk.2.2.2⟩⟩, hk.2.1⟩)) hg hat); have n5_ := Aside0.mk (hb); have n6_ := Aside0.mk (ho); clear HO_122001; clear HO_122002; clear BK121; clear BK122; clear HL123_1; clear HB; clear HO_8; have HO_122001 := n0_; have HO_122002 := n1_; have BK121 := n2_; have BK122 := n3_; have HL123_1 := n4_; have HB := n5_; have HO126 := n6_; clear n0_ n1_ n2_ n3_ n4_ n5_ n6_; clear ho hb hg hat))
                    go_roundg k2
                    case measure => have := HJ3.out; have := HK2.out; omega
                    case rel => exact ⟨(y124), (wrap64 (x9_2 + 1)), (by first | rfl | (simp; done) | (simp [*]; done)), H', ⟨by have := HJ3.out; have := HK2.out; omega⟩, ⟨by (with_reducible repeat (first | apply Kd.N_alloc | apply Kd.N_drewN | apply Kd.N_drew)); exact HO126.out⟩, ⟨by (with_reducible repeat (first | apply Kd.V_alloc | apply Kd.V_drewN | apply Kd.V_drew)); exact Kd.V_mono HO_122001.out (fun _ hk => ⟨hk.1.1, ⟨hk.2, ⟨hk.1.2.1, hk.1.2.2⟩⟩⟩)⟩, ⟨by (with_reducible repeat (first | apply Kd.V_alloc | apply Kd.V_drewN | apply Kd.V_drew)); exact Kd.V_mono HO_122002.out (fun _ hk => ⟨hk.1.1, ⟨hk.2, ⟨hk.1.2.1, hk.1.2.2⟩⟩⟩)⟩, ⟨by (with_reducible repeat (first | refine blk_drewN ?_ _ | refine blk_drew ?_ | refine blk_alloc ?_ _)); exact BK121.out⟩, ⟨by (with_reducible repeat (first | refine blk_drewN ?_ _ | refine blk_drew ?_ | refine blk_alloc ?_ _)); exact BK122.out⟩, ⟨by repeat (first | (with_reducible first | exact HB.out | apply below_alloc | apply pw_below_drewN | apply below_drew1 | refine below_set ?_ GE121.out | refine below_set ?_ GE122.out) | exact HB.out)⟩⟩
                  · rw [if_neg c17] at H
                    exact absurd H (by simp)
                · rw [if_neg c16] at H
                  exact absurd H (by simp)
              · rw [if_neg c15] at H
                have c15b0 : decide (x9_2 < (l0_2.length : Int)) = false := decide_eq_false c15
                clear c15
                replace H := Option.bind_eq_some_iff.mp H
                obtain ⟨t127, A210, H⟩ := H
                replace H : (if x8_2.length < 4398046511104 then (some (a0_0, l0_1, (x8_2 ++ [(⟨a1, t127⟩ : S106)]), a0_3, wrap64 (a0_4 + 1), a0_5, 0)) else (none)) = some (r1, r2, r3, r4, r5, r6, r7) := H
                have A21 := Aside0.mk A210
                clear A210
                by_cases c22 : x8_2.length < 4398046511104
                · rw [if_pos c22] at H
                  have LMc22 := Aside0.mk c22
                  clear c22
                  obtain ⟨y130, hy130⟩ : ∃ y_ : List (S106), y_ = (x8_2 ++ [(⟨a1, t127⟩ : S106)]) := ⟨_, rfl⟩
                  replace H : (some (a0_0, l0_1, y130, a0_3, wrap64 (a0_4 + 1), a0_5, 0)) = some (r1, r2, r3, r4, r5, r6, r7) := by first | (rw [hy130]; with_reducible exact H) | (have H2_ := (Option.bind_some _ _).symm.trans H; rw [hy130]; with_reducible exact H2_) | (have H2_ := (Option.bind_some _ _).symm.trans H; with_reducible exact H2_) | with_reducible exact H | (rw [hy130]; exact H) | exact H
                  have Ny130 := Aside0.mk hy130
                  clear hy130
                  simp only [Option.some.injEq, Prod.mk.injEq] at H
                  obtain ⟨rfl, rfl, rfl, rfl, rfl, rfl, rfl⟩ := H
                  have hnb23 := NB121_122.out
                  have hnc23 := NB122_121.out
                  have hcz24_0 : wr.cell? ⟨gb121, 0, none⟩ = some (.int .i64 a0_0) := (blk_cell BK121.out 0).trans rfl
                  have hcz24_1 : wr.cell? ⟨gb121, 1, none⟩ = some (.slice A0_1 l0_1.length c0_1) := (blk_cell BK121.out 1).trans rfl
                  have hcz24_2 : wr.cell? ⟨gb121, 2, none⟩ = some (.slice A0_2 l0_2.length c0_2) := (blk_cell BK121.out 2).trans rfl
                  have hcz24_3 : wr.cell? ⟨gb121, 3, none⟩ = some (.int .i64 a0_3) := (blk_cell BK121.out 3).trans rfl
                  have hcz24_4 : wr.cell? ⟨gb121, 4, none⟩ = some (.int .i64 a0_4) := (blk_cell BK121.out 4).trans rfl
                  have hcz24_5 : wr.cell? ⟨gb121, 5, none⟩ = some (.int .i64 a0_5) := (blk_cell BK121.out 5).trans rfl
                  have hfz24_0 := blk_frozen BK121.out 0
                  have hfz24_1 := blk_frozen BK121.out 1
                  have hfz24_2 := blk_frozen BK121.out 2
                  have hfz24_3 := blk_frozen BK121.out 3
                  have hfz24_4 := blk_frozen BK121.out 4
                  have hfz24_5 := blk_frozen BK121.out 5
                  go_wp2_with (first | ((with_reducible refine gate_callee (f := 44) rfl ?_); refine goesL_ (some 41) rfl rfl Tryd.func44 (by kernel_rfl) rfl #[.slice A2 l2.length c2] rfl (by (try simp only [List.map_toArray, List.map_cons, List.map_nil]); first | done | rfl | (simp only [List.length_drop, List.length_take]; rfl)) ?_; (with_reducible refine (kilnref3_Copy.calls _ _ l2 t127 _ ?side1 ?side2 A21.out).mono ?_); (case side1 => repeat (first | exact (Kd.C_below HR2.out HB.out) | (with_reducible refine Kd.C_alloc ?_ _) | (with_reducible refine Kd.C_drewN ?_ _) | (with_reducible refine Kd.C_drew ?_))); (case side2 => exact HC2.out); rintro e w25 ⟨v128, rfl, ho0, hb⟩; refine ⟨_, rfl, ?_⟩; have n0_ := Aside0.mk (Kd.N_elder' (by (with_reducible repeat (first | apply Kd.N_alloc | apply Kd.N_drewN | apply Kd.N_drew)); exact HO_8.out) (Kd.R_base ho0) hb); have n1_ := Aside0.mk (Kd.V_elder' (by (with_reducible repeat (first | apply Kd.V_alloc | apply Kd.V_drewN | apply Kd.V_drew)); exact HO_122001.out) (Kd.R_base ho0) hb); have n2_ := Aside0.mk (Kd.V_elder' (by (with_reducible repeat (first | apply Kd.V_alloc | apply Kd.V_drewN | apply Kd.V_drew)); exact HO_122002.out) (Kd.R_base ho0) hb); have n3_ := Aside0.mk (Kd.R_lower (Kd.R_newM (M := fun k_ => (w.heap.size ≤ k_)) ho0 (below_size (by repeat (first | (with_reducible first | exact HB.out | apply below_alloc | apply pw_below_drewN | apply below_drew1 | refine below_set ?_ GE121.out | refine below_set ?_ GE122.out) | exact HB.out))) (fun k_ h_ => h_)) (below_size (by repeat (first | (with_reducible first | exact HB.out | apply below_alloc | apply pw_below_drewN | apply below_drew1 | refine below_set ?_ GE121.out | refine below_set ?_ GE122.out) | exact HB.out)))); have n4_ := Aside0.mk (blk_below (g := gb121) (o := .cells #[.int .i64 a0_0, .slice A0_1 l0_1.length c0_1, .slice A0_2 l0_2.length c0_2, .int .i64 a0_3, .int .i64 a0_4, .int .i64 a0_5] 43 (0, 0)) (by (with_reducible repeat (first | refine blk_drewN ?_ _ | refine blk_drew ?_ | refine blk_alloc ?_ _)); exact BK121.out) hb); have n5_ := Aside0.mk (blk_below (g := gb122) (o := .cells #[.int .i64 0, .slice none 0 0, .slice none 0 0, .int .i64 0, .int .i64 0, .int .i64 0] 43 (0, 0)) (by (with_reducible repeat (first | refine blk_drewN ?_ _ | refine blk_drew ?_ | refine blk_alloc ?_ _)); exact BK122.out) hb); have n6_ := Aside0.mk (below_step (by repeat (first | (with_reducible first | exact HB.out | apply below_alloc | apply pw_below_drewN | apply below_drew1 | refine below_set ?_ GE121.out | refine below_set ?_ GE122.out) | exact HB.out)) hb); clear HO_8; clear HO_122001; clear HO_122002; clear BK121; clear BK122; clear HB; have HO_8 := n0_; have HO_122001 := n1_; have HO_122002 := n2_; have HO129 := n3_; have BK121 := n4_; have BK122 := n5_; have HB := n6_; clear n0_ n1_ n2_ n3_ n4_ n5_ n6_; (try clear hb); (try clear hb2); (try clear hk); (try clear hi); (try clear ho0); obtain ⟨Ao26, co26, eo26⟩ := Kd.R_slice HO129.out; subst eo26) | ((with_reducible refine gate_builtin (b := .append) (xs := #[.tmp 38, .tmp 43]) rfl ?_); at_builtin; refine Kd.N_append k106 (w0 := w) w.heap.size rfl (.tmp 38) (.tmp 43) 39 106 (.agg #[(.int .i64 0), (.slice none 0 0)]) 32 rfl Tryd.underlying39 info106 rfl (by decide) (by omega) u8 x8_2 (⟨a1, t127⟩ : S106) [.int .i64 a1, .slice Ao26 t127.length co26] (fun k_ => ((P0_1_ k_ ∨ P0_2_ k_) ∨ w.heap.size ≤ k_) ∧ k_ ≠ gb121 ∧ k_ ≠ gb122) (fun k_ => ((fun k_ => ((P0_1_ k_ ∨ P0_2_ k_) ∨ w.heap.size ≤ k_) ∧ k_ ≠ gb121 ∧ k_ ≠ gb122)) k_ ∧ some k_ ≠ (u8 : Value).ownBlock) rfl rfl ?aP (fun _ hk => hk) ?aF ?aO ?aB ?aS ?aL ?_; (case aP => exact (k106_mkF _ _ (⟨a1, t127⟩ : S106) (Kd.R_reads' (Kd.R_mono (ok' := (fun k_ => ((fun k_ => ((P0_1_ k_ ∨ P0_2_ k_) ∨ w.heap.size ≤ k_) ∧ k_ ≠ gb121 ∧ k_ ≠ gb122)) k_ ∧ some k_ ≠ (u8 : Value).ownBlock)) (Kd.R_types (Kd.R_types (Kd.R_apart' (HO129.out) (Kd.N_typed HO_8.out) (by decide)) BK121.out (by decide)) BK122.out (by decide)) (fun k_ hk => ⟨⟨(.inr (hk.1.1.1.1)), ⟨hk.1.2, hk.2⟩⟩, hk.1.1.2⟩))).2.1 (Kd.R_F (Kd.R_mono (ok' := (fun k_ => ((fun k_ => ((P0_1_ k_ ∨ P0_2_ k_) ∨ w.heap.size ≤ k_) ∧ k_ ≠ gb121 ∧ k_ ≠ gb122)) k_ ∧ some k_ ≠ (u8 : Value).ownBlock)) (Kd.R_types (Kd.R_types (Kd.R_apart' (HO129.out) (Kd.N_typed HO_8.out) (by decide)) BK121.out (by decide)) BK122.out (by decide)) (fun k_ hk => ⟨⟨(.inr (hk.1.1.1.1)), ⟨hk.1.2, hk.2⟩⟩, hk.1.1.2⟩))))); (case aB => exact (by repeat (first | (with_reducible first | exact HB.out | apply below_alloc | apply pw_below_drewN | apply below_drew1 | refine below_set ?_ GE121.out | refine below_set ?_ GE122.out) | exact HB.out))); (case aF => exact (fun k_ hk => ⟨(.inr (Nat.le_trans (below_size (by repeat (first | (with_reducible first | exact HB.out | apply below_alloc | apply pw_below_drewN | apply below_drew1 | refine below_set ?_ GE121.out | refine below_set ?_ GE122.out) | exact HB.out))) hk)), Kd.freshB (g := gb121) (o := .cells #[.int .i64 a0_0, .slice A0_1 l0_1.length c0_1, .slice A0_2 l0_2.length c0_2, .int .i64 a0_3, .int .i64 a0_4, .int .i64 a0_5] 43 (0, 0)) (by (with_reducible repeat (first | refine blk_drewN ?_ _ | refine blk_drew ?_ | refine blk_alloc ?_ _)); exact BK121.out) k_ hk, Kd.freshB (g := gb122) (o := .cells #[.int .i64 0, .slice none 0 0, .slice none 0 0, .int .i64 0, .int .i64 0, .int .i64 0] 43 (0, 0)) (by (with_reducible repeat (first | refine blk_drewN ?_ _ | refine blk_drew ?_ | refine blk_alloc ?_ _)); exact BK122.out) k_ hk⟩)); (case aO => exact (by (with_reducible repeat (first | apply Kd.N_alloc | apply Kd.N_drewN | apply Kd.N_drew)); exact Kd.N_mono HO_8.out (fun _ hk => ⟨hk.1.1, ⟨hk.1.2.1, hk.1.2.2⟩⟩))); (case aS => exact (below_size (by repeat (first | (with_reducible first | exact HB.out | apply below_alloc | apply pw_below_drewN | apply below_drew1 | refine below_set ?_ GE121.out | refine below_set ?_ GE122.out) | exact HB.out)))); (case aL => have := LMc22.out; omega); intro v131 w27 ho hb hg hat; rw [← Ny130.out] at ho; have n0_ := Aside0.mk (Kd.V_afterv (ok := (fun k_ => ((P0_1_ k_ ∨ P0_2_ k_) ∨ w.heap.size ≤ k_) ∧ some k_ ≠ (.slice Ao26 t127.length co26 : Value).ownBlock ∧ k_ ≠ gb121 ∧ k_ ≠ gb122)) (by (with_reducible repeat (first | apply Kd.V_alloc | apply Kd.V_drewN | apply Kd.V_drew)); exact Kd.V_mono HO_122001.out (fun _ hk => ⟨⟨hk.1.1, ⟨hk.2, ⟨hk.1.2.2.1, hk.1.2.2.2⟩⟩⟩, hk.1.2.1⟩)) hg hat); have n1_ := Aside0.mk (Kd.V_afterv (ok := (fun k_ => ((P0_1_ k_ ∨ P0_2_ k_) ∨ w.heap.size ≤ k_) ∧ some k_ ≠ (.slice Ao26 t127.length co26 : Value).ownBlock ∧ k_ ≠ gb121 ∧ k_ ≠ gb122)) (by (with_reducible repeat (first | apply Kd.V_alloc | apply Kd.V_drewN | apply Kd.V_drew)); exact Kd.V_mono HO_122002.out (fun _ hk => ⟨⟨hk.1.1, ⟨hk.2, ⟨hk.1.2.2.1, hk.1.2.2.2⟩⟩⟩, hk.1.2.1⟩)) hg hat); have n2_ := Aside0.mk (blk_grown (g := gb121) (o := .cells #[.int .i64 a0_0, .slice A0_1 l0_1.length c0_1, .slice A0_2 l0_2.length c0_2, .int .i64 a0_3, .int .i64 a0_4, .int .i64 a0_5] 43 (0, 0)) (by (with_reducible repeat (first | refine blk_drewN ?_ _ | refine blk_drew ?_ | refine blk_alloc ?_ _)); exact BK121.out) hg (Kd.N_ne HO_8.out BK121.out (by decide))); have n3_ := Aside0.mk (blk_grown (g := gb122) (o := .cells #[.int .i64 0, .slice none 0 0, .slice none 0 0, .int .i64 0, .int .i64 0, .int .i64 0] 43 (0, 0)) (by (with_reducible repeat (first | refine blk_drewN ?_ _ | refine blk_drew ?_ | refine blk_alloc ?_ _)); exact BK122.out) hg (Kd.N_ne HO_8.out BK122.out (by decide))); have n4_ := Aside0.mk (hb); have n5_ := Aside0.mk (ho); clear HO_122001; clear HO_122002; clear BK121; clear BK122; clear HB; clear HO_8; clear HO129; have HO_122001 := n0_; have HO_122002 := n1_; have BK121 := n2_; have BK122 := n3_; have HB := n4_; have HO132 := n5_; clear n0_ n1_ n2_ n3_ n4_ n5_; clear ho hb hg hat; obtain ⟨Ao28, co28, eo28⟩ := Kd.N_slice HO132.out; subst eo28; have hcz29_0 : w27.cell? ⟨gb121, 0, none⟩ = some (.int .i64 a0_0) := (blk_cell BK121.out 0).trans rfl; have hcz29_1 : w27.cell? ⟨gb121, 1, none⟩ = some (.slice A0_1 l0_1.length c0_1) := (blk_cell BK121.out 1).trans rfl; have hcz29_2 : w27.cell? ⟨gb121, 2, none⟩ = some (.slice A0_2 l0_2.length c0_2) := (blk_cell BK121.out 2).trans rfl; have hcz29_3 : w27.cell? ⟨gb121, 3, none⟩ = some (.int .i64 a0_3) := (blk_cell BK121.out 3).trans rfl; have hcz29_4 : w27.cell? ⟨gb121, 4, none⟩ = some (.int .i64 a0_4) := (blk_cell BK121.out 4).trans rfl; have hcz29_5 : w27.cell? ⟨gb121, 5, none⟩ = some (.int .i64 a0_5) := (blk_cell BK121.out 5).trans rfl; have hfz29_0 := blk_frozen BK121.out 0; have hfz29_1 := blk_frozen BK121.out 1; have hfz29_2 := blk_frozen BK121.out 2; have hfz29_3 := blk_frozen BK121.out 3; have hfz29_4 := blk_frozen BK121.out 4; have hfz29_5 := blk_frozen BK121.out 5; have hcz30_0 : w27.cell? ⟨gb122, 0, none⟩ = some (.int .i64 0) := (blk_cell BK122.out 0).trans rfl; have hcz30_1 : w27.cell? ⟨gb122, 1, none⟩ = some (.slice none 0 0) := (blk_cell BK122.out 1).trans rfl; have hcz30_2 : w27.cell? ⟨gb122, 2, none⟩ = some (.slice none 0 0) := (blk_cell BK122.out 2).trans rfl; have hcz30_3 : w27.cell? ⟨gb122, 3, none⟩ = some (.int .i64 0) := (blk_cell BK122.out 3).trans rfl; have hcz30_4 : w27.cell? ⟨gb122, 4, none⟩ = some (.int .i64 0) := (blk_cell BK122.out 4).trans rfl; have hcz30_5 : w27.cell? ⟨gb122, 5, none⟩ = some (.int .i64 0) := (blk_cell BK122.out 5).trans rfl; have hfz30_0 := blk_frozen BK122.out 0; have hfz30_1 := blk_frozen BK122.out 1; have hfz30_2 := blk_frozen BK122.out 2; have hfz30_3 := blk_frozen BK122.out 3; have hfz30_4 := blk_frozen BK122.out 4; have hfz30_5 := blk_frozen BK122.out 5))
                  refine bodyPost_ret (results_ct rfl _ _ gb122 43 #[.int .i64 a0_0, .slice A0_1 l0_1.length c0_1, .slice Ao28 y130.length co28, .int .i64 a0_3, .int .i64 (wrap64 (a0_4 + 1)), .int .i64 a0_5] (0, 0) _ rfl (by (with_reducible repeat (first | refine blk_drewN ?_ _ | refine blk_drew ?_ | refine blk_alloc ?_ _)); refine blk_put (cs := #[.int .i64 a0_0, .slice A0_1 l0_1.length c0_1, .slice Ao28 y130.length co28, .int .i64 a0_3, .int .i64 (wrap64 (a0_4 + 1)), .int .i64 0]) ?_ 5 _ rfl; (with_reducible repeat (first | refine blk_drewN ?_ _ | refine blk_drew ?_ | refine blk_alloc ?_ _)); refine blk_put (cs := #[.int .i64 a0_0, .slice A0_1 l0_1.length c0_1, .slice Ao28 y130.length co28, .int .i64 a0_3, .int .i64 0, .int .i64 0]) ?_ 4 _ rfl; (with_reducible repeat (first | refine blk_drewN ?_ _ | refine blk_drew ?_ | refine blk_alloc ?_ _)); refine blk_put (cs := #[.int .i64 a0_0, .slice A0_1 l0_1.length c0_1, .slice Ao28 y130.length co28, .int .i64 0, .int .i64 0, .int .i64 0]) ?_ 3 _ rfl; (with_reducible repeat (first | refine blk_drewN ?_ _ | refine blk_drew ?_ | refine blk_alloc ?_ _)); refine blk_put (cs := #[.int .i64 a0_0, .slice A0_1 l0_1.length c0_1, .slice none 0 0, .int .i64 0, .int .i64 0, .int .i64 0]) ?_ 2 _ rfl; (with_reducible repeat (first | refine blk_drewN ?_ _ | refine blk_drew ?_ | refine blk_alloc ?_ _)); refine blk_put (cs := #[.int .i64 a0_0, .slice none 0 0, .slice none 0 0, .int .i64 0, .int .i64 0, .int .i64 0]) ?_ 1 _ rfl; (with_reducible repeat (first | refine blk_drewN ?_ _ | refine blk_drew ?_ | refine blk_alloc ?_ _)); refine blk_put (cs := #[.int .i64 0, .slice none 0 0, .slice none 0 0, .int .i64 0, .int .i64 0, .int .i64 0]) ?_ 0 _ rfl; (with_reducible repeat (first | refine blk_drewN ?_ _ | refine blk_drew ?_ | refine blk_alloc ?_ _)); refine blk_far ?_ NB122_121.out _; (with_reducible repeat (first | refine blk_drewN ?_ _ | refine blk_drew ?_ | refine blk_alloc ?_ _)); refine blk_far ?_ NB122_121.out _; (with_reducible repeat (first | refine blk_drewN ?_ _ | refine blk_drew ?_ | refine blk_alloc ?_ _)); exact BK122.out) Tryd.underlying43 rfl (by kernel_rfl)) rfl ?_
                  exact ⟨_, _, by first | rfl | (simp [errW_none, errW_some] <;> rfl) | (simp [*, errW_none, errW_some] <;> rfl), by (with_reducible repeat (first | apply Kd.V_alloc | apply Kd.V_drewN | apply Kd.V_drew)); exact Kd.V_mono (Kd.V_far (p := ⟨gb122, 5, none⟩) (Kd.V_far (p := ⟨gb122, 4, none⟩) (Kd.V_far (p := ⟨gb122, 3, none⟩) (Kd.V_far (p := ⟨gb122, 2, none⟩) (Kd.V_far (p := ⟨gb122, 1, none⟩) (Kd.V_far (p := ⟨gb122, 0, none⟩) (Kd.V_far (p := ⟨gb121, 4, none⟩) (Kd.V_far (p := ⟨gb121, 2, none⟩) (Kd.V_mono (Kd.V_mono HO_122001.out (fun k_ hk => (⟨hk, hk.1.2.2.1⟩ : _ ∧ k_ ≠ gb121))) (fun k_ hk => (⟨hk, hk.1.1.2.2.2⟩ : _ ∧ k_ ≠ gb122))) (fun _ hk => hk.1.2) (.slice Ao28 y130.length co28)) (fun _ hk => hk.1.2) (.int .i64 (wrap64 (a0_4 + 1)))) (fun _ hk => hk.2) (.int .i64 a0_0)) (fun _ hk => hk.2) (.slice A0_1 l0_1.length c0_1)) (fun _ hk => hk.2) (.slice Ao28 y130.length co28)) (fun _ hk => hk.2) (.int .i64 a0_3)) (fun _ hk => hk.2) (.int .i64 (wrap64 (a0_4 + 1)))) (fun _ hk => hk.2) (.int .i64 a0_5)) (fun _ hk => hk.1.1.1.1), Kd.N_V (by (with_reducible repeat (first | apply Kd.N_alloc | apply Kd.N_drewN | apply Kd.N_drew)); exact Kd.N_mono (Kd.N_far (p := ⟨gb122, 5, none⟩) (Kd.N_far (p := ⟨gb122, 4, none⟩) (Kd.N_far (p := ⟨gb122, 3, none⟩) (Kd.N_far (p := ⟨gb122, 2, none⟩) (Kd.N_far (p := ⟨gb122, 1, none⟩) (Kd.N_far (p := ⟨gb122, 0, none⟩) (Kd.N_far (p := ⟨gb121, 4, none⟩) (Kd.N_far (p := ⟨gb121, 2, none⟩) (Kd.N_mono (Kd.N_mono HO132.out (fun k_ hk => (⟨hk, hk.2.1⟩ : _ ∧ k_ ≠ gb121))) (fun k_ hk => (⟨hk, hk.1.2.2⟩ : _ ∧ k_ ≠ gb122))) (fun _ hk => hk.1.2) (.slice Ao28 y130.length co28)) (fun _ hk => hk.1.2) (.int .i64 (wrap64 (a0_4 + 1)))) (fun _ hk => hk.2) (.int .i64 a0_0)) (fun _ hk => hk.2) (.slice A0_1 l0_1.length c0_1)) (fun _ hk => hk.2) (.slice Ao28 y130.length co28)) (fun _ hk => hk.2) (.int .i64 a0_3)) (fun _ hk => hk.2) (.int .i64 (wrap64 (a0_4 + 1)))) (fun _ hk => hk.2) (.int .i64 a0_5)) (fun _ hk => hk.1.1.1)), by repeat (first | (with_reducible first | exact HB.out | apply below_alloc | apply pw_below_drewN | apply below_drew1 | refine below_set ?_ GE121.out | refine below_set ?_ GE122.out) | exact HB.out)⟩
                · rw [if_neg c22] at H
                  exact absurd H (by simp)
        · rw [if_neg c14] at H
          have c14b0 : ((l2.length : Int) == 512) = false := beq_eq_false_iff_ne.mpr c14
          have c14b1 : ((l2.length : Int) != 512) = true := bne_iff_ne.mpr c14
          simp only [Option.some.injEq, Prod.mk.injEq] at H
          obtain ⟨rfl, rfl, rfl, rfl, rfl, rfl, rfl⟩ := H
          have hnb31 := NB121_122.out
          have hnc31 := NB122_121.out
          have hcz32_0 : wc.cell? ⟨gb121, 0, none⟩ = some (.int .i64 a0_0) := (blk_cell BK121.out 0).trans rfl
          have hcz32_1 : wc.cell? ⟨gb121, 1, none⟩ = some (.slice A0_1 l0_1.length c0_1) := (blk_cell BK121.out 1).trans rfl
          have hcz32_2 : wc.cell? ⟨gb121, 2, none⟩ = some (.slice A0_2 l0_2.length c0_2) := (blk_cell BK121.out 2).trans rfl
          have hcz32_3 : wc.cell? ⟨gb121, 3, none⟩ = some (.int .i64 a0_3) := (blk_cell BK121.out 3).trans rfl
          have hcz32_4 : wc.cell? ⟨gb121, 4, none⟩ = some (.int .i64 a0_4) := (blk_cell BK121.out 4).trans rfl
          have hcz32_5 : wc.cell? ⟨gb121, 5, none⟩ = some (.int .i64 a0_5) := (blk_cell BK121.out 5).trans rfl
          have hfz32_0 := blk_frozen BK121.out 0
          have hfz32_1 := blk_frozen BK121.out 1
          have hfz32_2 := blk_frozen BK121.out 2
          have hfz32_3 := blk_frozen BK121.out 3
          have hfz32_4 := blk_frozen BK121.out 4
          have hfz32_5 := blk_frozen BK121.out 5
          have hcz33_0 : wc.cell? ⟨gb122, 0, none⟩ = some (.int .i64 0) := (blk_cell BK122.out 0).trans rfl
          have hcz33_1 : wc.cell? ⟨gb122, 1, none⟩ = some (.slice none 0 0) := (blk_cell BK122.out 1).trans rfl
          have hcz33_2 : wc.cell? ⟨gb122, 2, none⟩ = some (.slice none 0 0) := (blk_cell BK122.out 2).trans rfl
          have hcz33_3 : wc.cell? ⟨gb122, 3, none⟩ = some (.int .i64 0) := (blk_cell BK122.out 3).trans rfl
          have hcz33_4 : wc.cell? ⟨gb122, 4, none⟩ = some (.int .i64 0) := (blk_cell BK122.out 4).trans rfl
          have hcz33_5 : wc.cell? ⟨gb122, 5, none⟩ = some (.int .i64 0) := (blk_cell BK122.out 5).trans rfl
          have hfz33_0 := blk_frozen BK122.out 0
          have hfz33_1 := blk_frozen BK122.out 1
          have hfz33_2 := blk_frozen BK122.out 2
          have hfz33_3 := blk_frozen BK122.out 3
          have hfz33_4 := blk_frozen BK122.out 4
          have hfz33_5 := blk_frozen BK122.out 5
          go_wp2
          refine bodyPost_ret (results_ct rfl _ _ gb122 43 #[.int .i64 a0_0, .slice A0_1 l0_1.length c0_1, .slice A0_2 l0_2.length c0_2, .int .i64 a0_3, .int .i64 a0_4, .int .i64 a0_5] (0, 0) _ rfl (by (with_reducible repeat (first | refine blk_drewN ?_ _ | refine blk_drew ?_ | refine blk_alloc ?_ _)); refine blk_put (cs := #[.int .i64 a0_0, .slice A0_1 l0_1.length c0_1, .slice A0_2 l0_2.length c0_2, .int .i64 a0_3, .int .i64 a0_4, .int .i64 0]) ?_ 5 _ rfl; (with_reducible repeat (first | refine blk_drewN ?_ _ | refine blk_drew ?_ | refine blk_alloc ?_ _)); refine blk_put (cs := #[.int .i64 a0_0, .slice A0_1 l0_1.length c0_1, .slice A0_2 l0_2.length c0_2, .int .i64 a0_3, .int .i64 0, .int .i64 0]) ?_ 4 _ rfl; (with_reducible repeat (first | refine blk_drewN ?_ _ | refine blk_drew ?_ | refine blk_alloc ?_ _)); refine blk_put (cs := #[.int .i64 a0_0, .slice A0_1 l0_1.length c0_1, .slice A0_2 l0_2.length c0_2, .int .i64 0, .int .i64 0, .int .i64 0]) ?_ 3 _ rfl; (with_reducible repeat (first | refine blk_drewN ?_ _ | refine blk_drew ?_ | refine blk_alloc ?_ _)); refine blk_put (cs := #[.int .i64 a0_0, .slice A0_1 l0_1.length c0_1, .slice none 0 0, .int .i64 0, .int .i64 0, .int .i64 0]) ?_ 2 _ rfl; (with_reducible repeat (first | refine blk_drewN ?_ _ | refine blk_drew ?_ | refine blk_alloc ?_ _)); refine blk_put (cs := #[.int .i64 a0_0, .slice none 0 0, .slice none 0 0, .int .i64 0, .int .i64 0, .int .i64 0]) ?_ 1 _ rfl; (with_reducible repeat (first | refine blk_drewN ?_ _ | refine blk_drew ?_ | refine blk_alloc ?_ _)); refine blk_put (cs := #[.int .i64 0, .slice none 0 0, .slice none 0 0, .int .i64 0, .int .i64 0, .int .i64 0]) ?_ 0 _ rfl; (with_reducible repeat (first | refine blk_drewN ?_ _ | refine blk_drew ?_ | refine blk_alloc ?_ _)); exact BK122.out) Tryd.underlying43 rfl (by kernel_rfl)) rfl ?_
          exact ⟨_, _, by first | rfl | (simp [errW_none, errW_some] <;> rfl) | (simp [*, errW_none, errW_some] <;> rfl), by (with_reducible repeat (first | apply Kd.V_alloc | apply Kd.V_drewN | apply Kd.V_drew)); exact Kd.V_mono (Kd.V_far (p := ⟨gb122, 5, none⟩) (Kd.V_far (p := ⟨gb122, 4, none⟩) (Kd.V_far (p := ⟨gb122, 3, none⟩) (Kd.V_far (p := ⟨gb122, 2, none⟩) (Kd.V_far (p := ⟨gb122, 1, none⟩) (Kd.V_far (p := ⟨gb122, 0, none⟩) (Kd.V_mono HO_122001.out (fun k_ hk => (⟨hk, hk.2.2⟩ : _ ∧ k_ ≠ gb122))) (fun _ hk => hk.2) (.int .i64 a0_0)) (fun _ hk => hk.2) (.slice A0_1 l0_1.length c0_1)) (fun _ hk => hk.2) (.slice A0_2 l0_2.length c0_2)) (fun _ hk => hk.2) (.int .i64 a0_3)) (fun _ hk => hk.2) (.int .i64 a0_4)) (fun _ hk => hk.2) (.int .i64 a0_5)) (fun _ hk => hk.1.1), by (with_reducible repeat (first | apply Kd.V_alloc | apply Kd.V_drewN | apply Kd.V_drew)); exact Kd.V_mono (Kd.V_far (p := ⟨gb122, 5, none⟩) (Kd.V_far (p := ⟨gb122, 4, none⟩) (Kd.V_far (p := ⟨gb122, 3, none⟩) (Kd.V_far (p := ⟨gb122, 2, none⟩) (Kd.V_far (p := ⟨gb122, 1, none⟩) (Kd.V_far (p := ⟨gb122, 0, none⟩) (Kd.V_mono HO_122002.out (fun k_ hk => (⟨hk, hk.2.2⟩ : _ ∧ k_ ≠ gb122))) (fun _ hk => hk.2) (.int .i64 a0_0)) (fun _ hk => hk.2) (.slice A0_1 l0_1.length c0_1)) (fun _ hk => hk.2) (.slice A0_2 l0_2.length c0_2)) (fun _ hk => hk.2) (.int .i64 a0_3)) (fun _ hk => hk.2) (.int .i64 a0_4)) (fun _ hk => hk.2) (.int .i64 a0_5)) (fun _ hk => hk.1.1), by repeat (first | (with_reducible first | exact HB.out | apply below_alloc | apply pw_below_drewN | apply below_drew1 | refine below_set ?_ GE121.out | refine below_set ?_ GE122.out) | exact HB.out)⟩
def kilnref3_put.l0 : Nat → List (S106) → Int → List Int → List (S106) → Int → Option ((List (S106)))
  | 0, _, _, _, _, _ => none
  | k + 1, x0, x1, x2, x7, x8 => if x8 < (x0.length : Int) then (if 0 ≤ x8 then (if ((rd_T106 x0 x8).f0) = x1 then (kilnref3_put.l0 k x0 x1 x2 x7 (wrap64 (x8 + 1))) else (if x7.length < 4398046511104 then (kilnref3_put.l0 k x0 x1 x2 (x7 ++ [(⟨(rd_T106 x0 x8).f0, (rd_T106 x0 x8).f1⟩ : S106)]) (wrap64 (x8 + 1))) else (none))) else (none)) else (if x7.length < 4398046511104 then (some (x7 ++ [(⟨x1, x2⟩ : S106)])) else (none))
def kilnref3_put.f (k : Nat) (l0 : List (S106)) (a1 : Int) (l2 : List Int) : Option ((List (S106))) := kilnref3_put.l0 k l0 a1 l2 ([] : List (S106)) 0
theorem kilnref3_put.mono_l : ∀ k, (∀ y0 y1 y2 y3 y4, LeO (kilnref3_put.l0 k y0 y1 y2 y3 y4) (kilnref3_put.l0 (k + 1) y0 y1 y2 y3 y4))
  | 0 => fun _ _ _ _ _ r h => by simp [kilnref3_put.l0] at h
  | k + 1 => by
    have ih0 := kilnref3_put.mono_l k
    · intro y0 y1 y2 y3 y4
      unfold kilnref3_put.l0
      repeat' first
      | (with_reducible exact ih0 _ _ _ _ _)
      | (with_reducible exact LeO.refl _)
      | (with_reducible exact LeO.none _)
      | (with_reducible refine LeO.ite ?_ ?_)
      | (with_reducible refine LeO.bind ?_ (fun _ => ?_))
      | exact ih0 _ _ _ _ _
      | exact LeO.none _
      | refine LeO.ite ?_ ?_
      | refine LeO.bind ?_ (fun _ => ?_)
theorem kilnref3_put.mono : ∀ a0 a1 a2 k, LeO (kilnref3_put.f k a0 a1 a2) (kilnref3_put.f (k + 1) a0 a1 a2) := by
  intro a0 a1 a2 k
  have ih0 := kilnref3_put.mono_l k
  unfold kilnref3_put.f
  repeat' first
      | (with_reducible exact ih0 _ _ _ _ _)
      | (with_reducible exact LeO.refl _)
      | (with_reducible exact LeO.none _)
      | (with_reducible refine LeO.ite ?_ ?_)
      | (with_reducible refine LeO.bind ?_ (fun _ => ?_))
      | exact ih0 _ _ _ _ _
      | exact LeO.none _
      | refine LeO.ite ?_ ?_
      | refine LeO.bind ?_ (fun _ => ?_)
set_option maxHeartbeats 8000000 in
set_option maxRecDepth 100000 in
theorem kilnref3_put.calls (k : Nat) (P0_ : Nat → Prop) (A0 : Option Addr) (c0 : Nat) (l0 : List (S106)) (a1 : Int) (P2_ : Nat → Prop) (A2 : Option Addr) (c2 : Nat) (l2 : List Int) (r : List (S106)) (w : World) (hs0 : Kd.V k106 106 w w.heap.size (fun k_ => P0_ k_) (.slice A0 l0.length c0) l0) (hs2 : Kd.V (Kd.int .u8) 5 w w.heap.size (fun k_ => P2_ k_) (.slice A2 l2.length c2) l2) (h : kilnref3_put.f k l0 a1 l2 = some r) :
    Calls Tryd.prog 48 #[.slice A0 l0.length c0, .int .i64 a1, .slice A2 l2.length c2] w fun e w' => ∃ v0_ : Value, e = .returned (v0_) ∧ Kd.N k106 106 w' w.heap.size (fun k_ => ((P0_ k_ ∨ P2_ k_) ∨ w.heap.size ≤ k_)) v0_ r ∧ Below w.heap.size w w' := by
  have hu106 := Tryd.underlying106
  have HO0 := Aside0.mk (show Kd.V k106 106 w w.heap.size (fun k_ => ((P0_ k_ ∨ P2_ k_) ∨ w.heap.size ≤ k_)) (.slice A0 l0.length c0) l0 from Kd.V_mono hs0 (fun k_ hk => .inl (.inl hk)))
  have HO2 := Aside0.mk (show Kd.V (Kd.int .u8) 5 w w.heap.size (fun k_ => ((P0_ k_ ∨ P2_ k_) ∨ w.heap.size ≤ k_)) (.slice A2 l2.length c2) l2 from Kd.V_mono hs2 (fun k_ hk => .inl (.inr hk)))
  have HB := Aside0.mk (Below.refl w.heap.size w)
  have H : (kilnref3_put.l0 k l0 a1 l2 ([] : List (S106)) 0) = some r := h
  clear h
  have H' := Aside0.mk H
  clear H
  go_enter Tryd.func48, Tryd.ntmps48
  go_wp2
  go_loopg [7, 8] k (fun kq v7 v8 w' => ∃ (x7_1 : List (S106)) (x8_1 : Int), v8 = .int .i64 x8_1 ∧ Aside0 (kilnref3_put.l0 kq l0 a1 l2 x7_1 x8_1 = some r) ∧ Aside0 (kq ≤ k) ∧ Aside0 (Kd.V k106 106 w' w.heap.size (fun k_ => ((P0_ k_ ∨ P2_ k_) ∨ w.heap.size ≤ k_) ∧ some k_ ≠ (v7 : Value).ownBlock) (.slice A0 l0.length c0) l0) ∧ Aside0 (Kd.V (Kd.int .u8) 5 w' w.heap.size (fun k_ => ((P0_ k_ ∨ P2_ k_) ∨ w.heap.size ≤ k_) ∧ some k_ ≠ (v7 : Value).ownBlock) (.slice A2 l2.length c2) l2) ∧ Aside0 (Kd.N k106 106 w' w.heap.size (fun k_ => ((P0_ k_ ∨ P2_ k_) ∨ w.heap.size ≤ k_)) v7 x7_1) ∧ Aside0 (Below w.heap.size w w'))
  case atStart => exact ⟨(([] : List (S106))), (0), (by first | rfl | (simp; done) | (simp [*]; done)), H', ⟨Nat.le_refl _⟩, ⟨by (with_reducible repeat (first | apply Kd.V_alloc | apply Kd.V_drewN | apply Kd.V_drew)); exact Kd.V_mono HO0.out (fun _ hk => ⟨hk, (by simp [Value.ownBlock])⟩)⟩, ⟨by (with_reducible repeat (first | apply Kd.V_alloc | apply Kd.V_drewN | apply Kd.V_drew)); exact Kd.V_mono HO2.out (fun _ hk => ⟨hk, (by simp [Value.ownBlock])⟩)⟩, ⟨by first | exact Kd.S_nil _ _ _ _ _ | exact Kd.N_nil _ _ _ _ _ | exact Kd.V_nil _ _ _ _ _ | exact Kd.Q_nil _ _ _ _ _ | exact Kd.R_nil _ _ _ _ _⟩, ⟨by repeat (first | (with_reducible first | exact HB.out | apply below_alloc | apply pw_below_drewN | apply below_drew1) | exact HB.out)⟩⟩
  case round =>
    clear H'
    try clear c2
    try clear p2
    obtain ⟨x7_1, x8_1, rfl, HA, HK1, HO_0, HO_2, HO_7, HB⟩ := hrel
    cases gk with
    | zero => exact absurd HA.out (by simp [kilnref3_put.l0])
    | succ k1 =>
      have H := HA.out
      clear HA
      simp only [kilnref3_put.l0] at H
      by_cases c4 : x8_1 < (l0.length : Int)
      · rw [if_pos c4] at H
        have c4b0 : decide (x8_1 < (l0.length : Int)) = true := decide_eq_true c4
        clear c4
        by_cases c5 : 0 ≤ x8_1
        · rw [if_pos c5] at H
          have c5b0 : decide (0 ≤ x8_1) = true := decide_eq_true c5
          clear c5
          by_cases c6 : ((rd_T106 l0 x8_1).f0) = a1
          · rw [if_pos c6] at H
            have c6b0 : (((rd_T106 l0 x8_1).f0) == a1) = true := beq_iff_eq.mpr c6
            have c6b1 : (((rd_T106 l0 x8_1).f0) != a1) = false := bne_eq_false_iff_eq.mpr c6
            clear c6
            have H' := Aside0.mk H
            clear H
            have p133 : 0 ≤ (x8_1 : Int) := of_decide_eq_true (by first | (with_reducible assumption) | assumption)
            have q133 : x8_1 < (l0.length : Int) := of_decide_eq_true (by first | (with_reducible assumption) | assumption)
            obtain ⟨ad133, A133_1, c133_1, e133, hx133_0, hx133_1, hl133_1, hi133_1⟩ := at_T106 (Kd.V_reads' HO_0.out).2.2 x8_1 p133 q133
            cases e133
            obtain ⟨ce133, hce133, hMe133, hcc133⟩ := Kd.V_get HO_0.out z106 x8_1 p133 (by first | exact q133 | exact of_decide_eq_true (by first | (with_reducible assumption) | assumption) | (have e_ := (Kd.V_reads' HO_0.out).1; omega))
            obtain ⟨ua133_1, uc133_1, rfl, ul133_1, ge133_1⟩ := k106_openF hMe133
            have hv133_1 := hcc133 1 _ rfl
            rw [add_field _ _ 1 (by omega)] at hv133_1
            replace hv133_1 := Option.some.inj (hv133_1.symm.trans hx133_1)
            injection hv133_1 with hva_ hvn_ hvc_
            rw [hva_] at ge133_1
            rw [hvc_] at ul133_1
            have HL133_1 := Aside0.mk (show Kd.V (Kd.int .u8) 5 _ w.heap.size _ _ ((rd_T106 l0 x8_1).f1) from Kd.V_mk ul133_1 ge133_1)
            clear hva_ hvn_ hvc_ ge133_1 ul133_1
            clear hcc133 hce133
            have HR133_1 := Aside0.mk hi133_1
            have HC133_1 := Aside0.mk hl133_1
            clear hi133_1 hl133_1
            replace p133 := eq_true p133
            replace q133 := eq_true q133
            go_wp2
            go_roundg k1
            case measure => have := HK1.out; omega
            case rel => exact ⟨(x7_1), (wrap64 (x8_1 + 1)), (by first | rfl | (simp; done) | (simp [*]; done)), H', ⟨by have := HK1.out; omega⟩, ⟨by (with_reducible repeat (first | apply Kd.V_alloc | apply Kd.V_drewN | apply Kd.V_drew)); exact HO_0.out⟩, ⟨by (with_reducible repeat (first | apply Kd.V_alloc | apply Kd.V_drewN | apply Kd.V_drew)); exact HO_2.out⟩, ⟨by (with_reducible repeat (first | apply Kd.N_alloc | apply Kd.N_drewN | apply Kd.N_drew)); exact HO_7.out⟩, ⟨by repeat (first | (with_reducible first | exact HB.out | apply below_alloc | apply pw_below_drewN | apply below_drew1) | exact HB.out)⟩⟩
          · rw [if_neg c6] at H
            have c6b0 : (((rd_T106 l0 x8_1).f0) == a1) = false := beq_eq_false_iff_ne.mpr c6
            have c6b1 : (((rd_T106 l0 x8_1).f0) != a1) = true := bne_iff_ne.mpr c6
            by_cases c7 : x7_1.length < 4398046511104
            · rw [if_pos c7] at H
              have LMc7 := Aside0.mk c7
              clear c7
              obtain ⟨y135, hy135⟩ : ∃ y_ : List (S106), y_ = (x7_1 ++ [(⟨(rd_T106 l0 x8_1).f0, (rd_T106 l0 x8_1).f1⟩ : S106)]) := ⟨_, rfl⟩
              replace H : (kilnref3_put.l0 k1 l0 a1 l2 y135 (wrap64 (x8_1 + 1))) = some r := by first | (rw [hy135]; with_reducible exact H) | (have H2_ := (Option.bind_some _ _).symm.trans H; rw [hy135]; with_reducible exact H2_) | (have H2_ := (Option.bind_some _ _).symm.trans H; with_reducible exact H2_) | with_reducible exact H | (rw [hy135]; exact H) | exact H
              have Ny135 := Aside0.mk hy135
              clear hy135
              have H' := Aside0.mk H
              clear H
              have p133 : 0 ≤ (x8_1 : Int) := of_decide_eq_true (by first | (with_reducible assumption) | assumption)
              have q133 : x8_1 < (l0.length : Int) := of_decide_eq_true (by first | (with_reducible assumption) | assumption)
              obtain ⟨ad133, A133_1, c133_1, e133, hx133_0, hx133_1, hl133_1, hi133_1⟩ := at_T106 (Kd.V_reads' HO_0.out).2.2 x8_1 p133 q133
              cases e133
              obtain ⟨ce133, hce133, hMe133, hcc133⟩ := Kd.V_get HO_0.out z106 x8_1 p133 (by first | exact q133 | exact of_decide_eq_true (by first | (with_reducible assumption) | assumption) | (have e_ := (Kd.V_reads' HO_0.out).1; omega))
              obtain ⟨ua133_1, uc133_1, rfl, ul133_1, ge133_1⟩ := k106_openF hMe133
              have hv133_1 := hcc133 1 _ rfl
              rw [add_field _ _ 1 (by omega)] at hv133_1
              replace hv133_1 := Option.some.inj (hv133_1.symm.trans hx133_1)
              injection hv133_1 with hva_ hvn_ hvc_
              rw [hva_] at ge133_1
              rw [hvc_] at ul133_1
              have HL133_1 := Aside0.mk (show Kd.V (Kd.int .u8) 5 _ w.heap.size _ _ ((rd_T106 l0 x8_1).f1) from Kd.V_mk ul133_1 ge133_1)
              clear hva_ hvn_ hvc_ ge133_1 ul133_1
              clear hcc133 hce133
              have HR133_1 := Aside0.mk hi133_1
              have HC133_1 := Aside0.mk hl133_1
              clear hi133_1 hl133_1
              replace p133 := eq_true p133
              replace q133 := eq_true q133
              have p134 : 0 ≤ (x8_1 : Int) := of_decide_eq_true (by first | (with_reducible assumption) | assumption)
              have q134 : x8_1 < (l0.length : Int) := of_decide_eq_true (by first | (with_reducible assumption) | assumption)
              obtain ⟨ad134, A134_1, c134_1, e134, hx134_0, hx134_1, hl134_1, hi134_1⟩ := at_T106 (Kd.V_reads' HO_0.out).2.2 x8_1 p134 q134
              obtain rfl : ad133 = ad134 := (by injection e134)
              obtain ⟨ce134, hce134, hMe134, hcc134⟩ := Kd.V_get HO_0.out z106 x8_1 p134 (by first | exact q134 | exact of_decide_eq_true (by first | (with_reducible assumption) | assumption) | (have e_ := (Kd.V_reads' HO_0.out).1; omega))
              obtain ⟨ua134_1, uc134_1, rfl, ul134_1, ge134_1⟩ := k106_openF hMe134
              have hv134_1 := hcc134 1 _ rfl
              rw [add_field _ _ 1 (by omega)] at hv134_1
              replace hv134_1 := Option.some.inj (hv134_1.symm.trans hx134_1)
              injection hv134_1 with hva_ hvn_ hvc_
              rw [hva_] at ge134_1
              rw [hvc_] at ul134_1
              have HL134_1 := Aside0.mk (show Kd.V (Kd.int .u8) 5 _ w.heap.size _ _ ((rd_T106 l0 x8_1).f1) from Kd.V_mk ul134_1 ge134_1)
              clear hva_ hvn_ hvc_ ge134_1 ul134_1
              clear hcc134 hce134
              have HR134_1 := Aside0.mk hi134_1
              have HC134_1 := Aside0.mk hl134_1
              clear hi134_1 hl134_1
              replace p134 := eq_true p134
              replace q134 := eq_true q134
              have ea_ := Option.some.inj (hx133_1.symm.trans hx134_1)
              injection ea_ with ea_ en_ ec_
              subst ea_
              subst ec_
              clear en_
              go_wp2_with (first | ((with_reducible refine gate_builtin (b := .append) (xs := #[.tmp 22, .tmp 27]) rfl ?_); at_builtin; refine Kd.N_append k106 (w0 := w) w.heap.size rfl (.tmp 22) (.tmp 27) 39 106 (.agg #[(.int .i64 0), (.slice none 0 0)]) 32 rfl Tryd.underlying39 info106 rfl (by decide) (by omega) u7 x7_1 (⟨(rd_T106 l0 x8_1).f0, (rd_T106 l0 x8_1).f1⟩ : S106) [.int .i64 ((rd_T106 l0 x8_1).f0), .slice A133_1 ((rd_T106 l0 x8_1).f1).length c133_1] (fun k_ => ((P0_ k_ ∨ P2_ k_) ∨ w.heap.size ≤ k_)) (fun k_ => ((fun k_ => ((P0_ k_ ∨ P2_ k_) ∨ w.heap.size ≤ k_))) k_ ∧ some k_ ≠ (u7 : Value).ownBlock) rfl rfl ?aP (fun _ hk => hk) ?aF ?aO ?aB ?aS ?aL ?_; (case aP => exact (k106_mkF _ _ (⟨(rd_T106 l0 x8_1).f0, (rd_T106 l0 x8_1).f1⟩ : S106) (Kd.V_reads' (Kd.V_mono (ok' := (fun k_ => ((fun k_ => ((P0_ k_ ∨ P2_ k_) ∨ w.heap.size ≤ k_))) k_ ∧ some k_ ≠ (u7 : Value).ownBlock)) (HL134_1.out) (fun k_ hk => ⟨hk.1, hk.2⟩))).2.1 (Kd.V_F (Kd.V_mono (ok' := (fun k_ => ((fun k_ => ((P0_ k_ ∨ P2_ k_) ∨ w.heap.size ≤ k_))) k_ ∧ some k_ ≠ (u7 : Value).ownBlock)) (HL134_1.out) (fun k_ hk => ⟨hk.1, hk.2⟩))))); (case aB => exact (by repeat (first | (with_reducible first | exact HB.out | apply below_alloc | apply pw_below_drewN | apply below_drew1) | exact HB.out))); (case aF => exact (fun k_ hk => (.inr (Nat.le_trans (below_size (by repeat (first | (with_reducible first | exact HB.out | apply below_alloc | apply pw_below_drewN | apply below_drew1) | exact HB.out))) hk)))); (case aO => exact (by (with_reducible repeat (first | apply Kd.N_alloc | apply Kd.N_drewN | apply Kd.N_drew)); exact HO_7.out)); (case aS => exact (below_size (by repeat (first | (with_reducible first | exact HB.out | apply below_alloc | apply pw_below_drewN | apply below_drew1) | exact HB.out)))); (case aL => have := LMc7.out; omega); intro v136 w8 ho hb hg hat; rw [← Ny135.out] at ho; have n0_ := Aside0.mk (Kd.V_afterv (ok := (fun k_ => ((P0_ k_ ∨ P2_ k_) ∨ w.heap.size ≤ k_))) (by (with_reducible repeat (first | apply Kd.V_alloc | apply Kd.V_drewN | apply Kd.V_drew)); exact HO_0.out) hg hat); have n1_ := Aside0.mk (Kd.V_afterv (ok := (fun k_ => ((P0_ k_ ∨ P2_ k_) ∨ w.heap.size ≤ k_))) (by (with_reducible repeat (first | apply Kd.V_alloc | apply Kd.V_drewN | apply Kd.V_drew)); exact HO_2.out) hg hat); have n2_ := Aside0.mk (Kd.V_afterv (ok := (fun k_ => ((P0_ k_ ∨ P2_ k_) ∨ w.heap.size ≤ k_))) (by (with_reducible repeat (first | apply Kd.V_alloc | apply Kd.V_drewN | apply Kd.V_drew)); exact HL133_1.out) hg hat); have n3_ := Aside0.mk (Kd.V_afterv (ok := (fun k_ => ((P0_ k_ ∨ P2_ k_) ∨ w.heap.size ≤ k_))) (by (with_reducible repeat (first | apply Kd.V_alloc | apply Kd.V_drewN | apply Kd.V_drew)); exact HL134_1.out) hg hat); have n4_ := Aside0.mk (hb); have n5_ := Aside0.mk (ho); clear HO_0; clear HO_2; clear HL133_1; clear HL134_1; clear HB; clear HO_7; have HO_0 := n0_; have HO_2 := n1_; have HL133_1 := n2_; have HL134_1 := n3_; have HB := n4_; have HO137 := n5_; clear n0_ n1_ n2_ n3_ n4_ n5_; clear ho hb hg hat))
              go_roundg k1
              case measure => have := HK1.out; omega
              case rel => exact ⟨(y135), (wrap64 (x8_1 + 1)), (by first | rfl | (simp; done) | (simp [*]; done)), H', ⟨by have := HK1.out; omega⟩, ⟨by (with_reducible repeat (first | apply Kd.V_alloc | apply Kd.V_drewN | apply Kd.V_drew)); exact HO_0.out⟩, ⟨by (with_reducible repeat (first | apply Kd.V_alloc | apply Kd.V_drewN | apply Kd.V_drew)); exact HO_2.out⟩, ⟨by (with_reducible repeat (first | apply Kd.N_alloc | apply Kd.N_drewN | apply Kd.N_drew)); exact HO137.out⟩, ⟨by repeat (first | (with_reducible first | exact HB.out | apply below_alloc | apply pw_below_drewN | apply below_drew1) | exact HB.out)⟩⟩
            · rw [if_neg c7] at H
              exact absurd H (by simp)
        · rw [if_neg c5] at H
          exact absurd H (by simp)
      · rw [if_neg c4] at H
        have c4b0 : decide (x8_1 < (l0.length : Int)) = false := decide_eq_false c4
        clear c4
        by_cases c9 : x7_1.length < 4398046511104
        · rw [if_pos c9] at H
          have LMc9 := Aside0.mk c9
          clear c9
          obtain ⟨y138, hy138⟩ : ∃ y_ : List (S106), y_ = (x7_1 ++ [(⟨a1, l2⟩ : S106)]) := ⟨_, rfl⟩
          replace H : (some y138) = some r := by first | (rw [hy138]; with_reducible exact H) | (have H2_ := (Option.bind_some _ _).symm.trans H; rw [hy138]; with_reducible exact H2_) | (have H2_ := (Option.bind_some _ _).symm.trans H; with_reducible exact H2_) | with_reducible exact H | (rw [hy138]; exact H) | exact H
          have Ny138 := Aside0.mk hy138
          clear hy138
          obtain rfl := Option.some.inj H
          go_wp2_with (first | ((with_reducible refine gate_builtin (b := .append) (xs := #[.tmp 29, .tmp 33]) rfl ?_); at_builtin; refine Kd.N_append k106 (w0 := w) w.heap.size rfl (.tmp 29) (.tmp 33) 39 106 (.agg #[(.int .i64 0), (.slice none 0 0)]) 32 rfl Tryd.underlying39 info106 rfl (by decide) (by omega) u7 x7_1 (⟨a1, l2⟩ : S106) [.int .i64 a1, .slice A2 l2.length c2] (fun k_ => ((P0_ k_ ∨ P2_ k_) ∨ w.heap.size ≤ k_)) (fun k_ => ((fun k_ => ((P0_ k_ ∨ P2_ k_) ∨ w.heap.size ≤ k_))) k_ ∧ some k_ ≠ (u7 : Value).ownBlock) rfl rfl ?aP (fun _ hk => hk) ?aF ?aO ?aB ?aS ?aL ?_; (case aP => exact (k106_mkF _ _ (⟨a1, l2⟩ : S106) (Kd.V_reads' (Kd.V_mono (ok' := (fun k_ => ((fun k_ => ((P0_ k_ ∨ P2_ k_) ∨ w.heap.size ≤ k_))) k_ ∧ some k_ ≠ (u7 : Value).ownBlock)) (HO_2.out) (fun k_ hk => ⟨hk.1, hk.2⟩))).2.1 (Kd.V_F (Kd.V_mono (ok' := (fun k_ => ((fun k_ => ((P0_ k_ ∨ P2_ k_) ∨ w.heap.size ≤ k_))) k_ ∧ some k_ ≠ (u7 : Value).ownBlock)) (HO_2.out) (fun k_ hk => ⟨hk.1, hk.2⟩))))); (case aB => exact (by repeat (first | (with_reducible first | exact HB.out | apply below_alloc | apply pw_below_drewN | apply below_drew1) | exact HB.out))); (case aF => exact (fun k_ hk => (.inr (Nat.le_trans (below_size (by repeat (first | (with_reducible first | exact HB.out | apply below_alloc | apply pw_below_drewN | apply below_drew1) | exact HB.out))) hk)))); (case aO => exact (by (with_reducible repeat (first | apply Kd.N_alloc | apply Kd.N_drewN | apply Kd.N_drew)); exact HO_7.out)); (case aS => exact (below_size (by repeat (first | (with_reducible first | exact HB.out | apply below_alloc | apply pw_below_drewN | apply below_drew1) | exact HB.out)))); (case aL => have := LMc9.out; omega); intro v139 w10 ho hb hg hat; rw [← Ny138.out] at ho; have n0_ := Aside0.mk (Kd.V_afterv (ok := (fun k_ => ((P0_ k_ ∨ P2_ k_) ∨ w.heap.size ≤ k_))) (by (with_reducible repeat (first | apply Kd.V_alloc | apply Kd.V_drewN | apply Kd.V_drew)); exact HO_0.out) hg hat); have n1_ := Aside0.mk (Kd.V_afterv (ok := (fun k_ => ((P0_ k_ ∨ P2_ k_) ∨ w.heap.size ≤ k_))) (by (with_reducible repeat (first | apply Kd.V_alloc | apply Kd.V_drewN | apply Kd.V_drew)); exact HO_2.out) hg hat); have n2_ := Aside0.mk (hb); have n3_ := Aside0.mk (ho); clear HO_0; clear HO_2; clear HB; clear HO_7; have HO_0 := n0_; have HO_2 := n1_; have HB := n2_; have HO140 := n3_; clear n0_ n1_ n2_ n3_; clear ho hb hg hat))
          go_ret
          exact ⟨_, by first | rfl | (simp [errW_none, errW_some] <;> rfl) | (simp [*, errW_none, errW_some] <;> rfl), by (with_reducible repeat (first | apply Kd.N_alloc | apply Kd.N_drewN | apply Kd.N_drew)); exact HO140.out, by repeat (first | (with_reducible first | exact HB.out | apply below_alloc | apply pw_below_drewN | apply below_drew1) | exact HB.out)⟩
        · rw [if_neg c9] at H
          exact absurd H (by simp)
def kilnref3_Flush.l0 : Nat → Int → Int → List (S106) → List (S106) → Int → Int → Int → Option (Int × (List (S106)) × (List (S106)) × Int × Int × Int)
  | 0, _, _, _, _, _, _, _ => none
  | k + 1, x3, x142000, x142001, x142002, x142003, x142004, x142005 => if x3 < (x142002.length : Int) then (if 0 ≤ x3 then ((kilnref3_put.f k x142001 ((rd_T106 x142002 x3).f0) ((rd_T106 x142002 x3).f1)).bind fun t145 => (kilnref3_Flush.l0 k (wrap64 (x3 + 1)) x142000 t145 x142002 x142003 x142004 x142005)) else (none)) else (some (x142000, x142001, ([] : List (S106)), x142003, x142004, wrap64 (x142005 + 1)))
def kilnref3_Flush.f (k : Nat) (a0_0 : Int) (l0_1 : List (S106)) (l0_2 : List (S106)) (a0_3 : Int) (a0_4 : Int) (a0_5 : Int) : Option (Int × (List (S106)) × (List (S106)) × Int × Int × Int) := kilnref3_Flush.l0 k 0 a0_0 l0_1 l0_2 a0_3 a0_4 a0_5
theorem kilnref3_Flush.mono_l : ∀ k, (∀ y0 y1 y2 y3 y4 y5 y6, LeO (kilnref3_Flush.l0 k y0 y1 y2 y3 y4 y5 y6) (kilnref3_Flush.l0 (k + 1) y0 y1 y2 y3 y4 y5 y6))
  | 0 => fun _ _ _ _ _ _ _ r h => by simp [kilnref3_Flush.l0] at h
  | k + 1 => by
    have ih0 := kilnref3_Flush.mono_l k
    · intro y0 y1 y2 y3 y4 y5 y6
      unfold kilnref3_Flush.l0
      repeat' first
      | (with_reducible exact ih0 _ _ _ _ _ _ _)
      | (with_reducible exact kilnref3_put.mono _ _ _ _)
      | (with_reducible exact LeO.refl _)
      | (with_reducible exact LeO.none _)
      | (with_reducible refine LeO.ite ?_ ?_)
      | (with_reducible refine LeO.bind ?_ (fun _ => ?_))
      | exact ih0 _ _ _ _ _ _ _
      | exact kilnref3_put.mono _ _ _ _
      | exact LeO.none _
      | refine LeO.ite ?_ ?_
      | refine LeO.bind ?_ (fun _ => ?_)
theorem kilnref3_Flush.mono : ∀ a0 a1 a2 a3 a4 a5 k, LeO (kilnref3_Flush.f k a0 a1 a2 a3 a4 a5) (kilnref3_Flush.f (k + 1) a0 a1 a2 a3 a4 a5) := by
  intro a0 a1 a2 a3 a4 a5 k
  have ih0 := kilnref3_Flush.mono_l k
  unfold kilnref3_Flush.f
  repeat' first
      | (with_reducible exact ih0 _ _ _ _ _ _ _)
      | (with_reducible exact kilnref3_put.mono _ _ _ _)
      | (with_reducible exact LeO.refl _)
      | (with_reducible exact LeO.none _)
      | (with_reducible refine LeO.ite ?_ ?_)
      | (with_reducible refine LeO.bind ?_ (fun _ => ?_))
      | exact ih0 _ _ _ _ _ _ _
      | exact kilnref3_put.mono _ _ _ _
      | exact LeO.none _
      | refine LeO.ite ?_ ?_
      | refine LeO.bind ?_ (fun _ => ?_)
def kilnref3_Flush.T4 : Bool × List (List Nat × List Nat) := (true, [([], []), ([0], [0]), ([], []), ([2], [2]), ([], []), ([3, 4], [3, 4]), ([5], [5]), ([6], [6]), ([], []), ([8], [8]), ([], []), ([9, 10], [9, 10]), ([11], [11]), ([12], [12]), ([1, 7, 13], [1, 7, 13]), ([0, 1, 2, 3, 4, 5, 6, 7, 8, 9, 10, 11, 12, 13, 14], []), ([15, 14, 14, 0, 1, 2, 3, 4, 5, 6, 7, 8, 9, 10, 11, 12, 13, 14], [14, 15])])
def kilnref3_Flush.B4 : List Nat := [0, 1, 0, 4, 0, 28, 60, 124, 0, 256, 0, 1792, 3840, 7936, 16383, 32767, 65535]
theorem kilnref3_Flush.tab4 : rtab .any (opsOf Tryd.f21 4) = kilnref3_Flush.T4 := by kernel_rfl
theorem kilnref3_Flush.bits4 : waitsOk kilnref3_Flush.T4.2 kilnref3_Flush.B4 = true := by kernel_rfl
set_option maxHeartbeats 8000000 in
set_option maxRecDepth 100000 in
theorem kilnref3_Flush.calls (k : Nat) (a0_0 : Int) (P0_1_ : Nat → Prop) (A0_1 : Option Addr) (c0_1 : Nat) (l0_1 : List (S106)) (P0_2_ : Nat → Prop) (A0_2 : Option Addr) (c0_2 : Nat) (l0_2 : List (S106)) (a0_3 : Int) (a0_4 : Int) (a0_5 : Int) (r1 : Int) (r2 : List (S106)) (r3 : List (S106)) (r4 : Int) (r5 : Int) (r6 : Int) (w : World) (hs0_1 : Kd.V k106 106 w w.heap.size (fun k_ => P0_1_ k_) (.slice A0_1 l0_1.length c0_1) l0_1) (hs0_2 : Kd.V k106 106 w w.heap.size (fun k_ => P0_2_ k_) (.slice A0_2 l0_2.length c0_2) l0_2) (h : kilnref3_Flush.f k a0_0 l0_1 l0_2 a0_3 a0_4 a0_5 = some (r1, r2, r3, r4, r5, r6)) :
    Calls Tryd.prog 21 #[.agg #[.int .i64 a0_0, .slice A0_1 l0_1.length c0_1, .slice A0_2 l0_2.length c0_2, .int .i64 a0_3, .int .i64 a0_4, .int .i64 a0_5]] w fun e w' => ∃ v1_ v2_ : Value, e = .returned (.agg #[.int .i64 r1, v1_, v2_, .int .i64 r4, .int .i64 r5, .int .i64 r6]) ∧ Kd.V k106 106 w' w.heap.size (fun k_ => ((P0_1_ k_ ∨ P0_2_ k_) ∨ w.heap.size ≤ k_) ∧ some k_ ≠ (v2_ : Value).ownBlock) v1_ r2 ∧ Kd.N k106 106 w' w.heap.size (fun k_ => ((P0_1_ k_ ∨ P0_2_ k_) ∨ w.heap.size ≤ k_)) v2_ r3 ∧ Below w.heap.size w w' := by
  have hu43 := Tryd.underlying43
  have HO0_1 := Aside0.mk (show Kd.V k106 106 w w.heap.size (fun k_ => ((P0_1_ k_ ∨ P0_2_ k_) ∨ w.heap.size ≤ k_)) (.slice A0_1 l0_1.length c0_1) l0_1 from Kd.V_mono hs0_1 (fun k_ hk => .inl (.inl hk)))
  have HO0_2 := Aside0.mk (show Kd.V k106 106 w w.heap.size (fun k_ => ((P0_1_ k_ ∨ P0_2_ k_) ∨ w.heap.size ≤ k_)) (.slice A0_2 l0_2.length c0_2) l0_2 from Kd.V_mono hs0_2 (fun k_ hk => .inl (.inr hk)))
  have HB := Aside0.mk (Below.refl w.heap.size w)
  have H : (kilnref3_Flush.l0 k 0 a0_0 l0_1 l0_2 a0_3 a0_4 a0_5) = some (r1, r2, r3, r4, r5, r6) := h
  clear h
  have H' := Aside0.mk H
  clear H
  go_enter Tryd.func21, Tryd.ntmps21
  go_wp2_with (first | ((with_reducible refine gate_dst (N := 1) rfl ?_); refine box_event ?hg (N := 1) ?hd (cs := #[.int .i64 a0_0, .slice A0_1 l0_1.length c0_1, .slice A0_2 l0_2.length c0_2, .int .i64 a0_3, .int .i64 a0_4, .int .i64 a0_5]) (t := 43) ?hr ?_; (case hd => rfl); (case hg => rfl); (case hr => first | (go_simp; done) | (go_simp; rfl)); intro gb141 hg w2 hbox hb; have n0_ := Aside0.mk (Kd.V_below (Kd.V_elderB (by (with_reducible repeat (first | apply Kd.V_alloc | apply Kd.V_drewN | apply Kd.V_drew)); exact HO0_1.out) gb141 (Nat.le_of_eq hg.symm)) hb); have n1_ := Aside0.mk (Kd.V_below (Kd.V_elderB (by (with_reducible repeat (first | apply Kd.V_alloc | apply Kd.V_drewN | apply Kd.V_drew)); exact HO0_2.out) gb141 (Nat.le_of_eq hg.symm)) hb); have n2_ := Aside0.mk (below_step (by repeat (first | (with_reducible first | exact HB.out | apply below_alloc | apply pw_below_drewN | apply below_drew1) | exact HB.out)) hb); have n3_ := Aside0.mk (hbox); have n4_ := Aside0.mk ((by rw [hg]; exact (below_size (by repeat (first | (with_reducible first | exact HB.out | apply below_alloc | apply pw_below_drewN | apply below_drew1) | exact HB.out))) : w.heap.size ≤ gb141)); have n5_ := Aside0.mk ((by rw [hg]; exact (below_size (by repeat (first | (with_reducible first | exact HB.out | apply below_alloc | apply pw_below_drewN | apply below_drew1) | exact HB.out))) : w.heap.size ≤ gb141)); clear HO0_1; clear HO0_2; clear HB; have HO0_1 := n0_; have HO0_2 := n1_; have HB := n2_; have BK141 := n3_; have GW141 := n4_; have GE141 := n5_; clear n0_ n1_ n2_ n3_ n4_ n5_; clear hb hbox hg) | ((with_reducible refine gate_dst (N := 2) rfl ?_); refine box_event ?hg (N := 2) ?hd (cs := #[.int .i64 0, .slice none 0 0, .slice none 0 0, .int .i64 0, .int .i64 0, .int .i64 0]) (t := 43) ?hr ?_; (case hd => rfl); (case hg => rfl); (case hr => first | (go_simp; done) | (go_simp; rfl)); intro gb142 hg w3 hbox hb; have n0_ := Aside0.mk (Kd.V_below (Kd.V_elderB (by (with_reducible repeat (first | apply Kd.V_alloc | apply Kd.V_drewN | apply Kd.V_drew)); exact HO0_1.out) gb142 (Nat.le_of_eq hg.symm)) hb); have n1_ := Aside0.mk (Kd.V_below (Kd.V_elderB (by (with_reducible repeat (first | apply Kd.V_alloc | apply Kd.V_drewN | apply Kd.V_drew)); exact HO0_2.out) gb142 (Nat.le_of_eq hg.symm)) hb); have n2_ := Aside0.mk (blk_below (g := gb141) (o := .cells #[.int .i64 a0_0, .slice A0_1 l0_1.length c0_1, .slice A0_2 l0_2.length c0_2, .int .i64 a0_3, .int .i64 a0_4, .int .i64 a0_5] 43 (0, 0)) (by (with_reducible repeat (first | refine blk_drewN ?_ _ | refine blk_drew ?_ | refine blk_alloc ?_ _)); exact BK141.out) hb); have n3_ := Aside0.mk (below_step (by repeat (first | (with_reducible first | exact HB.out | apply below_alloc | apply pw_below_drewN | apply below_drew1 | refine below_set ?_ GE141.out) | exact HB.out)) hb); have n4_ := Aside0.mk (hbox); have n5_ := Aside0.mk ((by rw [hg]; exact (below_size (by repeat (first | (with_reducible first | exact HB.out | apply below_alloc | apply pw_below_drewN | apply below_drew1 | refine below_set ?_ GE141.out) | exact HB.out))) : w.heap.size ≤ gb142)); have n6_ := Aside0.mk ((by rw [hg]; exact (below_size (by repeat (first | (with_reducible first | exact HB.out | apply below_alloc | apply pw_below_drewN | apply below_drew1 | refine below_set ?_ GE141.out) | exact HB.out))) : w.heap.size ≤ gb142)); have n7_ := Aside0.mk ((by rw [hg]; exact Nat.ne_of_lt (blk_lt (g := gb141) (o := .cells #[.int .i64 a0_0, .slice A0_1 l0_1.length c0_1, .slice A0_2 l0_2.length c0_2, .int .i64 a0_3, .int .i64 a0_4, .int .i64 a0_5] 43 (0, 0)) (by (with_reducible repeat (first | refine blk_drewN ?_ _ | refine blk_drew ?_ | refine blk_alloc ?_ _)); exact BK141.out)) : gb141 ≠ gb142)); have n8_ := Aside0.mk ((by rw [hg]; exact Nat.ne_of_gt (blk_lt (g := gb141) (o := .cells #[.int .i64 a0_0, .slice A0_1 l0_1.length c0_1, .slice A0_2 l0_2.length c0_2, .int .i64 a0_3, .int .i64 a0_4, .int .i64 a0_5] 43 (0, 0)) (by (with_reducible repeat (first | refine blk_drewN ?_ _ | refine blk_drew ?_ | refine blk_alloc ?_ _)); exact BK141.out)) : gb142 ≠ gb141)); clear HO0_1; clear HO0_2; clear BK141; clear HB; have HO0_1 := n0_; have HO0_2 := n1_; have BK141 := n2_; have HB := n3_; have BK142 := n4_; have GW142 := n5_; have GE142 := n6_; have NB141_142 := n7_; have NB142_141 := n8_; clear n0_ n1_ n2_ n3_ n4_ n5_ n6_ n7_ n8_; clear hb hbox hg))
  go_loopg [3] k (fun kq v3 w' => ∃ (x3_1 : Int) (x142001_1 : List (S106)) (u142001 : Value), v3 = .int .i64 x3_1 ∧ Aside0 (kilnref3_Flush.l0 kq x3_1 a0_0 x142001_1 l0_2 a0_3 a0_4 a0_5 = some (r1, r2, r3, r4, r5, r6)) ∧ Aside0 (kq ≤ k) ∧ Aside0 (Kd.V k106 106 w' w.heap.size (fun k_ => ((P0_1_ k_ ∨ P0_2_ k_) ∨ w.heap.size ≤ k_) ∧ k_ ≠ gb141 ∧ k_ ≠ gb142) u142001 x142001_1) ∧ Aside0 (Kd.V k106 106 w' w.heap.size (fun k_ => ((P0_1_ k_ ∨ P0_2_ k_) ∨ w.heap.size ≤ k_) ∧ k_ ≠ gb141 ∧ k_ ≠ gb142) (.slice A0_2 l0_2.length c0_2) l0_2) ∧ Aside0 (w'.heap[gb141]? = some (.cells #[.int .i64 a0_0, u142001, (.slice A0_2 l0_2.length c0_2), .int .i64 a0_3, .int .i64 a0_4, .int .i64 a0_5] 43 (0, 0))) ∧ Aside0 (w'.heap[gb142]? = some (.cells #[.int .i64 0, (.slice none 0 0), (.slice none 0 0), .int .i64 0, .int .i64 0, .int .i64 0] 43 (0, 0))) ∧ Aside0 (Below w.heap.size w w'))
  case atStart => exact ⟨(0), (l0_1), (.slice A0_1 l0_1.length c0_1), (by first | rfl | (simp; done) | (simp [*]; done)), H', ⟨Nat.le_refl _⟩, ⟨by (with_reducible repeat (first | apply Kd.V_alloc | apply Kd.V_drewN | apply Kd.V_drew)); exact Kd.V_mono HO0_1.out (fun _ hk => ⟨hk.1.1, ⟨hk.1.2, hk.2⟩⟩)⟩, ⟨by (with_reducible repeat (first | apply Kd.V_alloc | apply Kd.V_drewN | apply Kd.V_drew)); exact Kd.V_mono HO0_2.out (fun _ hk => ⟨hk.1.1, ⟨hk.1.2, hk.2⟩⟩)⟩, ⟨by (with_reducible repeat (first | refine blk_drewN ?_ _ | refine blk_drew ?_ | refine blk_alloc ?_ _)); exact BK141.out⟩, ⟨by (with_reducible repeat (first | refine blk_drewN ?_ _ | refine blk_drew ?_ | refine blk_alloc ?_ _)); exact BK142.out⟩, ⟨by repeat (first | (with_reducible first | exact HB.out | apply below_alloc | apply pw_below_drewN | apply below_drew1 | refine below_set ?_ GE141.out | refine below_set ?_ GE142.out) | exact HB.out)⟩⟩
  case round =>
    clear H'
    try clear c2
    try clear p2
    obtain ⟨x3_1, x142001_1, u142001, rfl, HA, HK1, HO_142001, HO_142002, BK141, BK142, HB⟩ := hrel
    cases gk with
    | zero => exact absurd HA.out (by simp [kilnref3_Flush.l0])
    | succ k1 =>
      have H := HA.out
      clear HA
      simp only [kilnref3_Flush.l0] at H
      by_cases c4 : x3_1 < (l0_2.length : Int)
      · rw [if_pos c4] at H
        have c4b0 : decide (x3_1 < (l0_2.length : Int)) = true := decide_eq_true c4
        clear c4
        by_cases c5 : 0 ≤ x3_1
        · rw [if_pos c5] at H
          have c5b0 : decide (0 ≤ x3_1) = true := decide_eq_true c5
          clear c5
          replace H := Option.bind_eq_some_iff.mp H
          obtain ⟨t145, A60, H⟩ := H
          replace H : (kilnref3_Flush.l0 k1 (wrap64 (x3_1 + 1)) a0_0 t145 l0_2 a0_3 a0_4 a0_5) = some (r1, r2, r3, r4, r5, r6) := H
          have A6 := Aside0.mk A60
          clear A60
          have H' := Aside0.mk H
          clear H
          have hnb7 := NB141_142.out
          have hnc7 := NB142_141.out
          have hcz8_0 : wr.cell? ⟨gb141, 0, none⟩ = some (.int .i64 a0_0) := (blk_cell BK141.out 0).trans rfl
          have hcz8_1 : wr.cell? ⟨gb141, 1, none⟩ = some (u142001) := (blk_cell BK141.out 1).trans rfl
          have hcz8_2 : wr.cell? ⟨gb141, 2, none⟩ = some (.slice A0_2 l0_2.length c0_2) := (blk_cell BK141.out 2).trans rfl
          have hcz8_3 : wr.cell? ⟨gb141, 3, none⟩ = some (.int .i64 a0_3) := (blk_cell BK141.out 3).trans rfl
          have hcz8_4 : wr.cell? ⟨gb141, 4, none⟩ = some (.int .i64 a0_4) := (blk_cell BK141.out 4).trans rfl
          have hcz8_5 : wr.cell? ⟨gb141, 5, none⟩ = some (.int .i64 a0_5) := (blk_cell BK141.out 5).trans rfl
          have hfz8_0 := blk_frozen BK141.out 0
          have hfz8_1 := blk_frozen BK141.out 1
          have hfz8_2 := blk_frozen BK141.out 2
          have hfz8_3 := blk_frozen BK141.out 3
          have hfz8_4 := blk_frozen BK141.out 4
          have hfz8_5 := blk_frozen BK141.out 5
          try go_wp2
          have n0_ := Aside0.mk (Kd.V_drew HO_142001.out)
          have n1_ := Aside0.mk (Kd.V_drew HO_142002.out)
          have n2_ := Aside0.mk (blk_drew BK141.out)
          have n3_ := Aside0.mk (blk_drew BK142.out)
          have n4_ := Aside0.mk (below_drew1 HB.out)
          clear HO_142001
          clear HO_142002
          clear BK141
          clear BK142
          clear HB
          have HO_142001 := n0_
          have HO_142002 := n1_
          have BK141 := n2_
          have BK142 := n3_
          have HB := n4_
          clear n0_ n1_ n2_ n3_ n4_
          have p143 : 0 ≤ (x3_1 : Int) := of_decide_eq_true (by first | (with_reducible assumption) | assumption)
          have q143 : x3_1 < (l0_2.length : Int) := of_decide_eq_true (by first | (with_reducible assumption) | assumption)
          obtain ⟨ad143, A143_1, c143_1, e143, hx143_0, hx143_1, hl143_1, hi143_1⟩ := at_T106 (Kd.V_reads' HO_142002.out).2.2 x3_1 p143 q143
          cases e143
          obtain ⟨ce143, hce143, hMe143, hcc143⟩ := Kd.V_get HO_142002.out z106 x3_1 p143 (by first | exact q143 | exact of_decide_eq_true (by first | (with_reducible assumption) | assumption) | (have e_ := (Kd.V_reads' HO_142002.out).1; omega))
          obtain ⟨ua143_1, uc143_1, rfl, ul143_1, ge143_1⟩ := k106_openF hMe143
          have hv143_1 := hcc143 1 _ rfl
          rw [add_field _ _ 1 (by omega)] at hv143_1
          replace hv143_1 := Option.some.inj (hv143_1.symm.trans hx143_1)
          injection hv143_1 with hva_ hvn_ hvc_
          rw [hva_] at ge143_1
          rw [hvc_] at ul143_1
          have HL143_1 := Aside0.mk (show Kd.V (Kd.int .u8) 5 _ w.heap.size _ _ ((rd_T106 l0_2 x3_1).f1) from Kd.V_mk ul143_1 ge143_1)
          clear hva_ hvn_ hvc_ ge143_1 ul143_1
          clear hcc143 hce143
          have HR143_1 := Aside0.mk hi143_1
          have HC143_1 := Aside0.mk hl143_1
          clear hi143_1 hl143_1
          replace p143 := eq_true p143
          replace q143 := eq_true q143
          have p144 : 0 ≤ (x3_1 : Int) := of_decide_eq_true (by first | (with_reducible assumption) | assumption)
          have q144 : x3_1 < (l0_2.length : Int) := of_decide_eq_true (by first | (with_reducible assumption) | assumption)
          obtain ⟨ad144, A144_1, c144_1, e144, hx144_0, hx144_1, hl144_1, hi144_1⟩ := at_T106 (Kd.V_reads' HO_142002.out).2.2 x3_1 p144 q144
          obtain rfl : ad143 = ad144 := (by injection e144)
          obtain ⟨ce144, hce144, hMe144, hcc144⟩ := Kd.V_get HO_142002.out z106 x3_1 p144 (by first | exact q144 | exact of_decide_eq_true (by first | (with_reducible assumption) | assumption) | (have e_ := (Kd.V_reads' HO_142002.out).1; omega))
          obtain ⟨ua144_1, uc144_1, rfl, ul144_1, ge144_1⟩ := k106_openF hMe144
          have hv144_1 := hcc144 1 _ rfl
          rw [add_field _ _ 1 (by omega)] at hv144_1
          replace hv144_1 := Option.some.inj (hv144_1.symm.trans hx144_1)
          injection hv144_1 with hva_ hvn_ hvc_
          rw [hva_] at ge144_1
          rw [hvc_] at ul144_1
          have HL144_1 := Aside0.mk (show Kd.V (Kd.int .u8) 5 _ w.heap.size _ _ ((rd_T106 l0_2 x3_1).f1) from Kd.V_mk ul144_1 ge144_1)
          clear hva_ hvn_ hvc_ ge144_1 ul144_1
          clear hcc144 hce144
          have HR144_1 := Aside0.mk hi144_1
          have HC144_1 := Aside0.mk hl144_1
          clear hi144_1 hl144_1
          replace p144 := eq_true p144
          replace q144 := eq_true q144
          have ea_ := Option.some.inj (hx143_1.symm.trans hx144_1)
          injection ea_ with ea_ en_ ec_
          subst ea_
          subst ec_
          clear en_
          obtain ⟨Ao10, co10, eo10⟩ := Kd.V_slice HO_142001.out
          (first | subst eo10 | (injection eo10 with f1_ f2_ f3_; have f4_ := f1_.symm; have f5_ := f3_.symm; clear f1_ f2_ f3_; subst f4_; subst f5_))
          refine start_ (n := 17) (S := fun w' => w'.cell? ⟨gb141, 0, none⟩ = some (.int .i64 a0_0) ∧ w'.cell? ⟨gb141, 1, none⟩ = some (.slice Ao10 x142001_1.length co10) ∧ w'.cell? ⟨gb141, 2, none⟩ = some (.slice (some ad143) l0_2.length c0_2) ∧ w'.cell? ⟨gb141, 3, none⟩ = some (.int .i64 a0_3) ∧ w'.cell? ⟨gb141, 4, none⟩ = some (.int .i64 a0_4) ∧ w'.cell? ⟨gb141, 5, none⟩ = some (.int .i64 a0_5) ∧ w'.cell? (ad143.add ((x3_1).toNat * 2)) = some (.int .i64 ((rd_T106 l0_2 x3_1).f0)) ∧ w'.cell? ⟨(ad143.add ((x3_1).toNat * 2)).block, (ad143.add ((x3_1).toNat * 2)).off + 1, none⟩ = some (.slice A143_1 ((rd_T106 l0_2 x3_1).f1).length c143_1) ∧ w'.cell? (ad143.add ((x3_1).toNat * 2)) = some (.int .i64 ((rd_T106 l0_2 x3_1).f0)) ∧ w'.cell? ⟨(ad143.add ((x3_1).toNat * 2)).block, (ad143.add ((x3_1).toNat * 2)).off + 1, none⟩ = some (.slice A143_1 ((rd_T106 l0_2 x3_1).f1).length c143_1)) (ds := [16]) (bb 17 0) (by kernel_rfl) rfl rfl ⟨(blk_cell BK141.out 0).trans rfl, (blk_cell BK141.out 1).trans rfl, (blk_cell BK141.out 2).trans rfl, (blk_cell BK141.out 3).trans rfl, (blk_cell BK141.out 4).trans rfl, (blk_cell BK141.out 5).trans rfl, hx143_0, hx143_1, hx144_0, hx144_1⟩ (fun hHeld => ?_); refine with_tabW kilnref3_Flush.tab4 kilnref3_Flush.bits4 (fun HT_ HW_ => ?_)
          generalize wr.drew = w9 at HO_142001 HO_142002 BK141 BK142 HB HL143_1 HL144_1 HR143_1 HR144_1 hx143_0 hx143_1 hx144_0 hx144_1 hHeld ⊢
          refine pure_ (i := 0) (N := some 11) (v := ?_) (a' := ?_) (bb 17 1) rfl rfl (any_of HT_.out (by kernel_rfl)) (fun _ _ _ h => h) (Or.inl ⟨by rfl, ?_⟩) ?_ ?_
          rotate_left
          · intro w'
            go_simp
            with_reducible rfl
          rotate_left
          · simp only [Act.put, List.setIfInBounds_toArray, List.set_cons_zero, List.set_cons_succ, i64_w, i32_w]
            rfl
          refine pure_ (i := 2) (N := some 13) (v := ?_) (a' := ?_) (bb 17 5) rfl rfl (any_of HT_.out (by kernel_rfl)) (fun _ _ _ h => h) (Or.inl ⟨by rfl, ?_⟩) ?_ ?_
          rotate_left
          · intro w'
            go_simp
            with_reducible rfl
          rotate_left
          · simp only [Act.put, List.setIfInBounds_toArray, List.set_cons_zero, List.set_cons_succ, i64_w, i32_w]
            rfl
          refine pure_ (i := 4) (N := some 15) (v := ?_) (a' := ?_) (bb 17 21) rfl rfl (any_of HT_.out (by kernel_rfl)) (fun _ _ _ h => h) (Or.inl ⟨by rfl, ?_⟩) ?_ ?_
          rotate_left
          · intro w'
            go_simp
            with_reducible rfl
          rotate_left
          · simp only [Act.put, List.setIfInBounds_toArray, List.set_cons_zero, List.set_cons_succ, i64_w, i32_w]
            rfl
          refine pure_ (i := 8) (N := some 19) (v := ?_) (a' := ?_) (bb 17 277) rfl rfl (any_of HT_.out (by kernel_rfl)) (fun _ _ _ h => h) (Or.inl ⟨by rfl, ?_⟩) ?_ ?_
          rotate_left
          · intro w'
            go_simp
            with_reducible rfl
          rotate_left
          · simp only [Act.put, List.setIfInBounds_toArray, List.set_cons_zero, List.set_cons_succ, i64_w, i32_w]
            rfl
          refine pure_ (i := 10) (N := some 21) (v := ?_) (a' := ?_) (bb 17 1301) rfl rfl (any_of HT_.out (by kernel_rfl)) (fun _ _ _ h => h) (Or.inl ⟨by rfl, ?_⟩) ?_ ?_
          rotate_left
          · intro w'
            go_simp
            with_reducible rfl
          rotate_left
          · simp only [Act.put, List.setIfInBounds_toArray, List.set_cons_zero, List.set_cons_succ, i64_w, i32_w]
            rfl
          refine take_ (i := 1) (N := some 12) (v := ?_) (a' := ?_) (bb 17 1303) rfl rfl (take_ofW HT_.out HW_.out (by kernel_rfl)) (fun _ _ _ h => h) (Or.inl ⟨by rfl, ?_⟩) hHeld ?_ ?_
          rotate_left
          · rintro w' ⟨s0, s1, s2, s3, s4, s5, s6, s7, s8, s9⟩
            go_simp
            with_reducible rfl
          rotate_left
          · simp only [Act.put, List.setIfInBounds_toArray, List.set_cons_zero, List.set_cons_succ, i64_w, i32_w]
            rfl
          refine take_ (i := 3) (N := some 14) (v := ?_) (a' := ?_) (bb 17 1311) rfl rfl (take_ofW HT_.out HW_.out (by kernel_rfl)) (fun _ _ _ h => h) (Or.inl ⟨by rfl, ?_⟩) hHeld ?_ ?_
          rotate_left
          · rintro w' ⟨s0, s1, s2, s3, s4, s5, s6, s7, s8, s9⟩
            go_simp
            with_reducible rfl
          rotate_left
          · simp only [Act.put, List.setIfInBounds_toArray, List.set_cons_zero, List.set_cons_succ, i64_w, i32_w]
            rfl
          refine pure_ (i := 5) (N := some 16) (v := ?_) (a' := ?_) (bb 17 1343) rfl rfl (any_of HT_.out (by kernel_rfl)) (fun _ _ _ h => h) (Or.inl ⟨by rfl, ?_⟩) ?_ ?_
          rotate_left
          · intro w'
            go_simp
            with_reducible rfl
          rotate_left
          · simp only [Act.put, List.setIfInBounds_toArray, List.set_cons_zero, List.set_cons_succ, i64_w, i32_w]
            rfl
          refine pure_ (i := 6) (N := some 17) (v := ?_) (a' := ?_) (bb 17 1407) rfl rfl (any_of HT_.out (by kernel_rfl)) (fun _ _ _ h => h) (Or.inl ⟨by rfl, ?_⟩) ?_ ?_
          rotate_left
          · intro w'
            go_simp
            with_reducible rfl
          rotate_left
          · simp only [Act.put, List.setIfInBounds_toArray, List.set_cons_zero, List.set_cons_succ, i64_w, i32_w]
            rfl
          refine take_ (i := 7) (N := some 18) (v := ?_) (a' := ?_) (bb 17 1535) rfl rfl (take_ofW HT_.out HW_.out (by kernel_rfl)) (fun _ _ _ h => h) (Or.inl ⟨by rfl, ?_⟩) hHeld ?_ ?_
          rotate_left
          · rintro w' ⟨s0, s1, s2, s3, s4, s5, s6, s7, s8, s9⟩
            go_simp
            with_reducible rfl
          rotate_left
          · simp only [Act.put, List.setIfInBounds_toArray, List.set_cons_zero, List.set_cons_succ, i64_w, i32_w]
            rfl
          refine take_ (i := 9) (N := some 20) (v := ?_) (a' := ?_) (bb 17 2047) rfl rfl (take_ofW HT_.out HW_.out (by kernel_rfl)) (fun _ _ _ h => h) (Or.inl ⟨by rfl, ?_⟩) hHeld ?_ ?_
          rotate_left
          · rintro w' ⟨s0, s1, s2, s3, s4, s5, s6, s7, s8, s9⟩
            go_simp
            with_reducible rfl
          rotate_left
          · simp only [Act.put, List.setIfInBounds_toArray, List.set_cons_zero, List.set_cons_succ, i64_w, i32_w]
            rfl
          refine pure_ (i := 11) (N := some 22) (v := ?_) (a' := ?_) (bb 17 4095) rfl rfl (any_of HT_.out (by kernel_rfl)) (fun _ _ _ h => h) (Or.inl ⟨by rfl, ?_⟩) ?_ ?_
          rotate_left
          · intro w'
            go_simp
            with_reducible rfl
          rotate_left
          · simp only [Act.put, List.setIfInBounds_toArray, List.set_cons_zero, List.set_cons_succ, i64_w, i32_w]
            rfl
          refine pure_ (i := 12) (N := some 23) (v := ?_) (a' := ?_) (bb 17 8191) rfl rfl (any_of HT_.out (by kernel_rfl)) (fun _ _ _ h => h) (Or.inl ⟨by rfl, ?_⟩) ?_ ?_
          rotate_left
          · intro w'
            go_simp
            with_reducible rfl
          rotate_left
          · simp only [Act.put, List.setIfInBounds_toArray, List.set_cons_zero, List.set_cons_succ, i64_w, i32_w]
            rfl
          refine take_ (i := 13) (N := some 24) (v := ?_) (a' := ?_) (bb 17 16383) rfl rfl (take_ofW HT_.out HW_.out (by kernel_rfl)) (fun _ _ _ h => h) (Or.inl ⟨by rfl, ?_⟩) hHeld ?_ ?_
          rotate_left
          · rintro w' ⟨s0, s1, s2, s3, s4, s5, s6, s7, s8, s9⟩
            go_simp
            with_reducible rfl
          rotate_left
          · simp only [Act.put, List.setIfInBounds_toArray, List.set_cons_zero, List.set_cons_succ, i64_w, i32_w]
            rfl
          refine one_ (i := 14) (N := some 25) (bb 17 32767) rfl rfl (one_of HT_.out (by kernel_rfl)) (by decide) (fun K hK => ?_)
          refine goes_ Tryd.func48 (by kernel_rfl) rfl #[.slice Ao10 x142001_1.length co10, .int .i64 ((rd_T106 l0_2 x3_1).f0), .slice A143_1 ((rd_T106 l0_2 x3_1).f1).length c143_1] (by rfl) rfl rfl (by (try simp only [List.map_toArray, List.map_cons, List.map_nil]); first | done | rfl | (simp only [List.length_drop, List.length_take]; rfl)) ?_
          with_reducible refine (kilnref3_put.calls k1 (fun k_ => (((P0_1_ k_ ∨ P0_2_ k_) ∨ w.heap.size ≤ k_) ∧ (k_ ≠ gb141 ∧ k_ ≠ gb142))) _ _ x142001_1 ((rd_T106 l0_2 x3_1).f0) (fun k_ => (((P0_1_ k_ ∨ P0_2_ k_) ∨ w.heap.size ≤ k_) ∧ (k_ ≠ gb141 ∧ k_ ≠ gb142))) _ _ ((rd_T106 l0_2 x3_1).f1) t145 _ ?side1 ?side2 A6.out).mono ?_
          (case side1 => exact HO_142001.out)
          (case side2 => exact HL144_1.out)
          rintro e w11 ⟨v146, rfl, ho0, hb⟩
          have HS6_ := (hb.cell (World.block_lt_of_cell? _ _ (hHeld.2.2.2.2.2.2.1))).trans (hHeld.2.2.2.2.2.2.1)
          have HS7_ := (hb.cell (World.block_lt_of_cell? _ _ (hHeld.2.2.2.2.2.2.2.1))).trans (hHeld.2.2.2.2.2.2.2.1)
          have HS8_ := (hb.cell (World.block_lt_of_cell? _ _ (hHeld.2.2.2.2.2.2.2.2.1))).trans (hHeld.2.2.2.2.2.2.2.2.1)
          have HS9_ := (hb.cell (World.block_lt_of_cell? _ _ (hHeld.2.2.2.2.2.2.2.2.2))).trans (hHeld.2.2.2.2.2.2.2.2.2)
          refine ⟨_, rfl, ?_⟩
          have n0_ := Aside0.mk (Kd.V_elder' (by (with_reducible repeat (first | apply Kd.V_alloc | apply Kd.V_drewN | apply Kd.V_drew)); exact HO_142001.out) (Kd.N_base ho0) hb)
          have n1_ := Aside0.mk (Kd.V_elder' (by (with_reducible repeat (first | apply Kd.V_alloc | apply Kd.V_drewN | apply Kd.V_drew)); exact HO_142002.out) (Kd.N_base ho0) hb)
          have n2_ := Aside0.mk (Kd.V_elder' (by (with_reducible repeat (first | apply Kd.V_alloc | apply Kd.V_drewN | apply Kd.V_drew)); exact HL143_1.out) (Kd.N_base ho0) hb)
          have n3_ := Aside0.mk (Kd.V_elder' (by (with_reducible repeat (first | apply Kd.V_alloc | apply Kd.V_drewN | apply Kd.V_drew)); exact HL144_1.out) (Kd.N_base ho0) hb)
          have n4_ := Aside0.mk (Kd.N_lower (Kd.N_mono (ok' := fun k_ => ((P0_1_ k_ ∨ P0_2_ k_) ∨ w.heap.size ≤ k_) ∧ k_ ≠ gb141 ∧ k_ ≠ gb142) ho0 (fun k_ hk_ => ⟨Or.elim hk_ (fun hs_ => Or.elim hs_ (fun hs_ => hs_.1) (fun hs_ => hs_.1)) (fun hn_ => (.inr (Nat.le_trans (below_size (by repeat (first | (with_reducible first | exact HB.out | apply below_alloc | apply pw_below_drewN | apply below_drew1 | refine below_set ?_ GE141.out | refine below_set ?_ GE142.out) | exact HB.out))) hn_))), Or.elim hk_ (fun hs_ => Or.elim hs_ (fun hs_ => hs_.2.1) (fun hs_ => hs_.2.1)) (fun hn_ => (Kd.freshB (g := gb141) (o := .cells #[.int .i64 a0_0, .slice Ao10 x142001_1.length co10, .slice (some ad143) l0_2.length c0_2, .int .i64 a0_3, .int .i64 a0_4, .int .i64 a0_5] 43 (0, 0)) (by (with_reducible repeat (first | refine blk_drewN ?_ _ | refine blk_drew ?_ | refine blk_alloc ?_ _)); exact BK141.out) k_ hn_)), Or.elim hk_ (fun hs_ => Or.elim hs_ (fun hs_ => hs_.2.2) (fun hs_ => hs_.2.2)) (fun hn_ => (Kd.freshB (g := gb142) (o := .cells #[.int .i64 0, .slice none 0 0, .slice none 0 0, .int .i64 0, .int .i64 0, .int .i64 0] 43 (0, 0)) (by (with_reducible repeat (first | refine blk_drewN ?_ _ | refine blk_drew ?_ | refine blk_alloc ?_ _)); exact BK142.out) k_ hn_))⟩)) (below_size (by repeat (first | (with_reducible first | exact HB.out | apply below_alloc | apply pw_below_drewN | apply below_drew1 | refine below_set ?_ GE141.out | refine below_set ?_ GE142.out) | exact HB.out))))
          have n5_ := Aside0.mk (blk_below (g := gb141) (o := .cells #[.int .i64 a0_0, .slice Ao10 x142001_1.length co10, .slice (some ad143) l0_2.length c0_2, .int .i64 a0_3, .int .i64 a0_4, .int .i64 a0_5] 43 (0, 0)) (by (with_reducible repeat (first | refine blk_drewN ?_ _ | refine blk_drew ?_ | refine blk_alloc ?_ _)); exact BK141.out) hb)
          have n6_ := Aside0.mk (blk_below (g := gb142) (o := .cells #[.int .i64 0, .slice none 0 0, .slice none 0 0, .int .i64 0, .int .i64 0, .int .i64 0] 43 (0, 0)) (by (with_reducible repeat (first | refine blk_drewN ?_ _ | refine blk_drew ?_ | refine blk_alloc ?_ _)); exact BK142.out) hb)
          have n7_ := Aside0.mk (Kd.C_below (by repeat (first | (with_reducible exact HR143_1.out) | (with_reducible refine Kd.C_alloc ?_ _) | (with_reducible refine Kd.C_drewN ?_ _) | (with_reducible refine Kd.C_drew ?_) | exact HR143_1.out)) hb)
          have n8_ := Aside0.mk (Kd.C_below (by repeat (first | (with_reducible exact HR144_1.out) | (with_reducible refine Kd.C_alloc ?_ _) | (with_reducible refine Kd.C_drewN ?_ _) | (with_reducible refine Kd.C_drew ?_) | exact HR144_1.out)) hb)
          have n9_ := Aside0.mk (below_step (by repeat (first | (with_reducible first | exact HB.out | apply below_alloc | apply pw_below_drewN | apply below_drew1 | refine below_set ?_ GE141.out | refine below_set ?_ GE142.out) | exact HB.out)) hb)
          clear HO_142001
          clear HO_142002
          clear HL143_1
          clear HL144_1
          clear BK141
          clear BK142
          clear HR143_1
          clear HR144_1
          clear HB
          have HO_142001 := n0_
          have HO_142002 := n1_
          have HL143_1 := n2_
          have HL144_1 := n3_
          have HO147 := n4_
          have BK141 := n5_
          have BK142 := n6_
          have HR143_1 := n7_
          have HR144_1 := n8_
          have HB := n9_
          clear n0_ n1_ n2_ n3_ n4_ n5_ n6_ n7_ n8_ n9_
          (try clear hb)
          (try clear hb2)
          (try clear hk)
          (try clear hi)
          (try clear ho0)
          obtain ⟨Ao12, co12, eo12⟩ := Kd.N_slice HO147.out
          (first | subst eo12 | (injection eo12 with f1_ f2_ f3_; have f4_ := f1_.symm; have f5_ := f3_.symm; clear f1_ f2_ f3_; subst f4_; subst f5_))
          refine hK.out _ _ ⟨(blk_cell BK141.out 0).trans rfl, (blk_cell BK141.out 1).trans rfl, (blk_cell BK141.out 2).trans rfl, (blk_cell BK141.out 3).trans rfl, (blk_cell BK141.out 4).trans rfl, (blk_cell BK141.out 5).trans rfl, HS6_, HS7_, HS8_, HS9_⟩ (fun hHeld => ?_)
          clear hK K
          refine norm_ (a' := ?_) ?_ ?_
          rotate_left
          · show Act.put _ (some 25) _ = _
            simp only [Act.put, List.setIfInBounds_toArray, List.set_cons_zero, List.set_cons_succ, i64_w, i32_w]
            rfl
          refine pure_ (i := 15) (N := some 26) (v := ?_) (a' := ?_) (bb 17 65535) rfl rfl (any_of HT_.out (by kernel_rfl)) (fun _ _ _ h => h) (Or.inl ⟨by rfl, ?_⟩) ?_ ?_
          rotate_left
          · intro w'
            go_simp
            with_reducible rfl
          rotate_left
          · simp only [Act.put, List.setIfInBounds_toArray, List.set_cons_zero, List.set_cons_succ, i64_w, i32_w]
            rfl
          refine last_ (i := 16) (N := none) (bb 17 131071) rfl rfl (one_of HT_.out (by kernel_rfl)) (by decide) (fun K hK => ?_)
          have hs13 : w11.cell? ⟨gb141, 1, none⟩ = some (.slice Ao10 x142001_1.length co10) := (blk_cell BK141.out 1).trans rfl
          have hfs13 := blk_frozen BK141.out 1
          have hns13_1 := NB142_141.out
          have hms13_1 := NB141_142.out
          refine skip_ (w1 := ?_) (by rfl) rfl ?_ ?_
          rotate_left
          · go_simp
            rfl
          refine hK.out _ _ ?_
          clear hK K
          refine done_ (done_of HT_.out (by kernel_rfl)) ?_
          try go_wp2
          go_roundg k1
          case measure => have := HK1.out; omega
          case rel => exact ⟨(wrap64 (x3_1 + 1)), (t145), (.slice Ao12 t145.length co12), (by first | rfl | (simp; done) | (simp [*]; done)), H', ⟨by have := HK1.out; omega⟩, ⟨Kd.N_V (by (with_reducible repeat (first | apply Kd.N_alloc | apply Kd.N_drewN | apply Kd.N_drew)); exact Kd.N_mono (Kd.N_far (p := ⟨gb141, 1, none⟩) (Kd.N_mono HO147.out (fun k_ hk => (⟨hk, hk.2.1⟩ : _ ∧ k_ ≠ gb141))) (fun _ hk => hk.2) (.slice Ao12 t145.length co12)) (fun _ hk => ⟨hk.1.1, ⟨hk.1.2.1, hk.1.2.2⟩⟩))⟩, ⟨by (with_reducible repeat (first | apply Kd.V_alloc | apply Kd.V_drewN | apply Kd.V_drew)); exact Kd.V_mono (Kd.V_far (p := ⟨gb141, 1, none⟩) (Kd.V_mono HO_142002.out (fun k_ hk => (⟨hk, hk.1.2.1⟩ : _ ∧ k_ ≠ gb141))) (fun _ hk => hk.2) (.slice Ao12 t145.length co12)) (fun _ hk => ⟨hk.1.1.1, ⟨hk.1.1.2.1, hk.1.1.2.2⟩⟩)⟩, ⟨by (with_reducible repeat (first | refine blk_drewN ?_ _ | refine blk_drew ?_ | refine blk_alloc ?_ _)); refine blk_put (cs := #[.int .i64 a0_0, .slice Ao10 x142001_1.length co10, .slice (some ad143) l0_2.length c0_2, .int .i64 a0_3, .int .i64 a0_4, .int .i64 a0_5]) ?_ 1 _ rfl; (with_reducible repeat (first | refine blk_drewN ?_ _ | refine blk_drew ?_ | refine blk_alloc ?_ _)); exact BK141.out⟩, ⟨by (with_reducible repeat (first | refine blk_drewN ?_ _ | refine blk_drew ?_ | refine blk_alloc ?_ _)); refine blk_far ?_ NB142_141.out _; (with_reducible repeat (first | refine blk_drewN ?_ _ | refine blk_drew ?_ | refine blk_alloc ?_ _)); exact BK142.out⟩, ⟨by repeat (first | (with_reducible first | exact HB.out | apply below_alloc | apply pw_below_drewN | apply below_drew1 | refine below_set ?_ GE141.out | refine below_set ?_ GE142.out) | exact HB.out)⟩⟩
        · rw [if_neg c5] at H
          exact absurd H (by simp)
      · rw [if_neg c4] at H
        have c4b0 : decide (x3_1 < (l0_2.length : Int)) = false := decide_eq_false c4
        clear c4
        simp only [Option.some.injEq, Prod.mk.injEq] at H
        obtain ⟨rfl, rfl, rfl, rfl, rfl, rfl⟩ := H
        have hnb14 := NB141_142.out
        have hnc14 := NB142_141.out
        have hcz15_0 : wr.cell? ⟨gb141, 0, none⟩ = some (.int .i64 a0_0) := (blk_cell BK141.out 0).trans rfl
        have hcz15_1 : wr.cell? ⟨gb141, 1, none⟩ = some (u142001) := (blk_cell BK141.out 1).trans rfl
        have hcz15_2 : wr.cell? ⟨gb141, 2, none⟩ = some (.slice A0_2 l0_2.length c0_2) := (blk_cell BK141.out 2).trans rfl
        have hcz15_3 : wr.cell? ⟨gb141, 3, none⟩ = some (.int .i64 a0_3) := (blk_cell BK141.out 3).trans rfl
        have hcz15_4 : wr.cell? ⟨gb141, 4, none⟩ = some (.int .i64 a0_4) := (blk_cell BK141.out 4).trans rfl
        have hcz15_5 : wr.cell? ⟨gb141, 5, none⟩ = some (.int .i64 a0_5) := (blk_cell BK141.out 5).trans rfl
        have hfz15_0 := blk_frozen BK141.out 0
        have hfz15_1 := blk_frozen BK141.out 1
        have hfz15_2 := blk_frozen BK141.out 2
        have hfz15_3 := blk_frozen BK141.out 3
        have hfz15_4 := blk_frozen BK141.out 4
        have hfz15_5 := blk_frozen BK141.out 5
        have hcz16_0 : wr.cell? ⟨gb142, 0, none⟩ = some (.int .i64 0) := (blk_cell BK142.out 0).trans rfl
        have hcz16_1 : wr.cell? ⟨gb142, 1, none⟩ = some (.slice none 0 0) := (blk_cell BK142.out 1).trans rfl
        have hcz16_2 : wr.cell? ⟨gb142, 2, none⟩ = some (.slice none 0 0) := (blk_cell BK142.out 2).trans rfl
        have hcz16_3 : wr.cell? ⟨gb142, 3, none⟩ = some (.int .i64 0) := (blk_cell BK142.out 3).trans rfl
        have hcz16_4 : wr.cell? ⟨gb142, 4, none⟩ = some (.int .i64 0) := (blk_cell BK142.out 4).trans rfl
        have hcz16_5 : wr.cell? ⟨gb142, 5, none⟩ = some (.int .i64 0) := (blk_cell BK142.out 5).trans rfl
        have hfz16_0 := blk_frozen BK142.out 0
        have hfz16_1 := blk_frozen BK142.out 1
        have hfz16_2 := blk_frozen BK142.out 2
        have hfz16_3 := blk_frozen BK142.out 3
        have hfz16_4 := blk_frozen BK142.out 4
        have hfz16_5 := blk_frozen BK142.out 5
        obtain ⟨Ao17, co17, eo17⟩ := Kd.V_slice HO_142001.out
        subst eo17
        go_wp2
        refine bodyPost_ret (results_cell_row rfl _ _ gb142 43 #[.int .i64 a0_0, .slice Ao17 x142001_1.length co17, .slice none 0 0, .int .i64 a0_3, .int .i64 a0_4, .int .i64 (wrap64 (a0_5 + 1))] (0, 0) _ rfl (by (with_reducible repeat (first | refine blk_drewN ?_ _ | refine blk_drew ?_ | refine blk_alloc ?_ _)); refine blk_put (cs := #[.int .i64 a0_0, .slice Ao17 x142001_1.length co17, .slice none 0 0, .int .i64 a0_3, .int .i64 a0_4, .int .i64 0]) ?_ 5 _ rfl; (with_reducible repeat (first | refine blk_drewN ?_ _ | refine blk_drew ?_ | refine blk_alloc ?_ _)); refine blk_put (cs := #[.int .i64 a0_0, .slice Ao17 x142001_1.length co17, .slice none 0 0, .int .i64 a0_3, .int .i64 0, .int .i64 0]) ?_ 4 _ rfl; (with_reducible repeat (first | refine blk_drewN ?_ _ | refine blk_drew ?_ | refine blk_alloc ?_ _)); refine blk_put (cs := #[.int .i64 a0_0, .slice Ao17 x142001_1.length co17, .slice none 0 0, .int .i64 0, .int .i64 0, .int .i64 0]) ?_ 3 _ rfl; (with_reducible repeat (first | refine blk_drewN ?_ _ | refine blk_drew ?_ | refine blk_alloc ?_ _)); refine blk_put (cs := #[.int .i64 a0_0, .slice Ao17 x142001_1.length co17, .slice none 0 0, .int .i64 0, .int .i64 0, .int .i64 0]) ?_ 2 _ rfl; (with_reducible repeat (first | refine blk_drewN ?_ _ | refine blk_drew ?_ | refine blk_alloc ?_ _)); refine blk_put (cs := #[.int .i64 a0_0, .slice none 0 0, .slice none 0 0, .int .i64 0, .int .i64 0, .int .i64 0]) ?_ 1 _ rfl; (with_reducible repeat (first | refine blk_drewN ?_ _ | refine blk_drew ?_ | refine blk_alloc ?_ _)); refine blk_put (cs := #[.int .i64 0, .slice none 0 0, .slice none 0 0, .int .i64 0, .int .i64 0, .int .i64 0]) ?_ 0 _ rfl; (with_reducible repeat (first | refine blk_drewN ?_ _ | refine blk_drew ?_ | refine blk_alloc ?_ _)); refine blk_far ?_ NB142_141.out _; (with_reducible repeat (first | refine blk_drewN ?_ _ | refine blk_drew ?_ | refine blk_alloc ?_ _)); refine blk_far ?_ NB142_141.out _; (with_reducible repeat (first | refine blk_drewN ?_ _ | refine blk_drew ?_ | refine blk_alloc ?_ _)); exact BK142.out) Tryd.underlying43 rfl (by kernel_rfl)) rfl ?_
        exact ⟨_, _, by first | rfl | (simp [errW_none, errW_some] <;> rfl) | (simp [*, errW_none, errW_some] <;> rfl), by (with_reducible repeat (first | apply Kd.V_alloc | apply Kd.V_drewN | apply Kd.V_drew)); exact Kd.V_mono (Kd.V_far (p := ⟨gb142, 5, none⟩) (Kd.V_far (p := ⟨gb142, 4, none⟩) (Kd.V_far (p := ⟨gb142, 3, none⟩) (Kd.V_far (p := ⟨gb142, 2, none⟩) (Kd.V_far (p := ⟨gb142, 1, none⟩) (Kd.V_far (p := ⟨gb142, 0, none⟩) (Kd.V_far (p := ⟨gb141, 5, none⟩) (Kd.V_far (p := ⟨gb141, 2, none⟩) (Kd.V_mono (Kd.V_mono HO_142001.out (fun k_ hk => (⟨hk, hk.2.1⟩ : _ ∧ k_ ≠ gb141))) (fun k_ hk => (⟨hk, hk.1.2.2⟩ : _ ∧ k_ ≠ gb142))) (fun _ hk => hk.1.2) (.slice none 0 0)) (fun _ hk => hk.1.2) (.int .i64 (wrap64 (a0_5 + 1)))) (fun _ hk => hk.2) (.int .i64 a0_0)) (fun _ hk => hk.2) (.slice Ao17 x142001_1.length co17)) (fun _ hk => hk.2) (.slice none 0 0)) (fun _ hk => hk.2) (.int .i64 a0_3)) (fun _ hk => hk.2) (.int .i64 a0_4)) (fun _ hk => hk.2) (.int .i64 (wrap64 (a0_5 + 1)))) (fun _ hk => ⟨hk.1.1.1, (by simp [Value.ownBlock])⟩), by first | exact Kd.S_nil _ _ _ _ _ | exact Kd.N_nil _ _ _ _ _ | exact Kd.V_nil _ _ _ _ _ | exact Kd.Q_nil _ _ _ _ _ | exact Kd.R_nil _ _ _ _ _, by repeat (first | (with_reducible first | exact HB.out | apply below_alloc | apply pw_below_drewN | apply below_drew1 | refine below_set ?_ GE141.out | refine below_set ?_ GE142.out) | exact HB.out)⟩
def kilnref3_Zeros.f  : Option (List Int) := if 512 ≤ 281474976710656 then (some (List.replicate 512 0)) else (none)
set_option maxHeartbeats 8000000 in
set_option maxRecDepth 100000 in
theorem kilnref3_Zeros.calls  (r : List Int) (w : World) (h : kilnref3_Zeros.f  = some r) :
    Calls Tryd.prog 50 #[] w fun e w' => ∃ v0_ : Value, e = .returned (v0_) ∧ Kd.R (Kd.int .u8) 5 w' w.heap.size (fun _ => True) v0_ r ∧ Below w.heap.size w w' := by
  have HB := Aside0.mk (Below.refl w.heap.size w)
  have H : (if 512 ≤ 281474976710656 then (some (List.replicate 512 0)) else (none)) = some r := h
  clear h
  by_cases c1 : 512 ≤ 281474976710656
  · rw [if_pos c1] at H
    have c1b0 := eq_true c1
    have c1b1 : decide (512 ≤ 281474976710656) = true := decide_eq_true c1
    clear c1
    obtain ⟨y150, hy150⟩ : ∃ y_ : List Int, y_ = (List.replicate 512 0) := ⟨_, rfl⟩
    replace H : (some y150) = some r := by first | (rw [hy150]; with_reducible exact H) | (have H2_ := (Option.bind_some _ _).symm.trans H; rw [hy150]; with_reducible exact H2_) | (have H2_ := (Option.bind_some _ _).symm.trans H; with_reducible exact H2_) | with_reducible exact H | (rw [hy150]; exact H) | exact H
    have Ny150 := Aside0.mk hy150
    clear hy150
    obtain rfl := Option.some.inj H
    go_enter Tryd.func50, Tryd.ntmps50
    go_wp2_with (first | ((with_reducible refine gate_dst (N := 1) rfl ?_); refine Kd.R_make (Kd.int .u8) _ 5 rfl (N := 1) rfl 28 _ _ rfl 512 rfl rfl Tryd.underlying28 (.int .u8 0) 1 info5 rfl (by decide) (by omega) 0 (ok := fun _ => True) (okp := fun _ => True) rfl (fun _ hk => hk) trivial (by omega) (by omega) (Below.refl _ _) (Nat.le_refl _) ?_; intro v151 w2 ho3 hb hg_ hnew_; clear hg_ hnew_; (first | rw [← Ny150.out] at ho3 | (simp only [Int.reduceToNat] at ho3; rw [← Ny150.out] at ho3)); have n0_ := Aside0.mk (Kd.R_lower ho3 (below_size (by repeat (first | (with_reducible first | exact HB.out | apply below_alloc | apply pw_below_drewN | apply below_drew1) | exact HB.out)))); have n1_ := Aside0.mk (below_step (by repeat (first | (with_reducible first | exact HB.out | apply below_alloc | apply pw_below_drewN | apply below_drew1) | exact HB.out)) hb); clear HB; have HO152 := n0_; have HB := n1_; clear n0_ n1_; clear hb ho3))
    go_ret
    exact ⟨_, by first | rfl | (simp [errW_none, errW_some] <;> rfl) | (simp [*, errW_none, errW_some] <;> rfl), by (with_reducible repeat (first | apply Kd.R_alloc | apply Kd.R_drewN | apply Kd.R_drew)); exact HO152.out, by repeat (first | (with_reducible first | exact HB.out | apply below_alloc | apply pw_below_drewN | apply below_drew1) | exact HB.out)⟩
  · rw [if_neg c1] at H
    exact absurd H (by simp)
def kilnref3_lasts.l0 : Nat → Int → Int → Int → List (S106) → List (S106) → Int → Int → Int → Option (List Int)
  | 0, _, _, _, _, _, _, _, _ => none
  | k + 1, x1, x5, x173000, x173001, x173002, x173003, x173004, x173005 => if x5 ≥ 0 then (if 0 ≤ x5 then (if x5 < (x173001.length : Int) then (if ((rd_T106 x173001 x5).f0) = x1 then (some ((rd_T106 x173001 x5).f1)) else (kilnref3_lasts.l0 k x1 (wrap64 (x5 - 1)) x173000 x173001 x173002 x173003 x173004 x173005)) else (none)) else (none)) else ((kilnref3_Zeros.f).bind fun t175 => (some t175))
def kilnref3_lasts.f (k : Nat) (a0_0 : Int) (l0_1 : List (S106)) (l0_2 : List (S106)) (a0_3 : Int) (a0_4 : Int) (a0_5 : Int) (a1 : Int) : Option (List Int) := kilnref3_lasts.l0 k a1 (wrap64 ((l0_1.length : Int) - 1)) a0_0 l0_1 l0_2 a0_3 a0_4 a0_5
theorem kilnref3_lasts.mono_l : ∀ k, (∀ y0 y1 y2 y3 y4 y5 y6 y7, LeO (kilnref3_lasts.l0 k y0 y1 y2 y3 y4 y5 y6 y7) (kilnref3_lasts.l0 (k + 1) y0 y1 y2 y3 y4 y5 y6 y7))
  | 0 => fun _ _ _ _ _ _ _ _ r h => by simp [kilnref3_lasts.l0] at h
  | k + 1 => by
    have ih0 := kilnref3_lasts.mono_l k
    · intro y0 y1 y2 y3 y4 y5 y6 y7
      unfold kilnref3_lasts.l0
      repeat' first
      | (with_reducible exact ih0 _ _ _ _ _ _ _ _)
      | (with_reducible exact LeO.refl _)
      | (with_reducible exact LeO.none _)
      | (with_reducible refine LeO.ite ?_ ?_)
      | (with_reducible refine LeO.bind ?_ (fun _ => ?_))
      | exact ih0 _ _ _ _ _ _ _ _
      | exact LeO.none _
      | refine LeO.ite ?_ ?_
      | refine LeO.bind ?_ (fun _ => ?_)
theorem kilnref3_lasts.mono : ∀ a0 a1 a2 a3 a4 a5 a6 k, LeO (kilnref3_lasts.f k a0 a1 a2 a3 a4 a5 a6) (kilnref3_lasts.f (k + 1) a0 a1 a2 a3 a4 a5 a6) := by
  intro a0 a1 a2 a3 a4 a5 a6 k
  have ih0 := kilnref3_lasts.mono_l k
  unfold kilnref3_lasts.f
  repeat' first
      | (with_reducible exact ih0 _ _ _ _ _ _ _ _)
      | (with_reducible exact LeO.refl _)
      | (with_reducible exact LeO.none _)
      | (with_reducible refine LeO.ite ?_ ?_)
      | (with_reducible refine LeO.bind ?_ (fun _ => ?_))
      | exact ih0 _ _ _ _ _ _ _ _
      | exact LeO.none _
      | refine LeO.ite ?_ ?_
      | refine LeO.bind ?_ (fun _ => ?_)
set_option maxHeartbeats 8000000 in
set_option maxRecDepth 100000 in
theorem kilnref3_lasts.calls (k : Nat) (a0_0 : Int) (P0_1_ : Nat → Prop) (A0_1 : Option Addr) (c0_1 : Nat) (l0_1 : List (S106)) (A0_2 : Option Addr) (c0_2 : Nat) (l0_2 : List (S106)) (a0_3 : Int) (a0_4 : Int) (a0_5 : Int) (a1 : Int) (r : List Int) (w : World) (hs0_1 : Kd.V k106 106 w w.heap.size (fun k_ => P0_1_ k_) (.slice A0_1 l0_1.length c0_1) l0_1) (hr0_2 : Kd.C k106 w A0_2 l0_2.length l0_2) (hc0_2 : l0_2.length ≤ c0_2) (h : kilnref3_lasts.f k a0_0 l0_1 l0_2 a0_3 a0_4 a0_5 a1 = some r) :
    Calls Tryd.prog 75 #[.agg #[.int .i64 a0_0, .slice A0_1 l0_1.length c0_1, .slice A0_2 l0_2.length c0_2, .int .i64 a0_3, .int .i64 a0_4, .int .i64 a0_5], .int .i64 a1] w fun e w' => ∃ v0_ : Value, e = .returned (v0_) ∧ Kd.V (Kd.int .u8) 5 w' w.heap.size (fun k_ => (P0_1_ k_ ∨ w.heap.size ≤ k_)) v0_ r ∧ Below w.heap.size w w' := by
  have hu43 := Tryd.underlying43
  have HO0_1 := Aside0.mk (show Kd.V k106 106 w w.heap.size (fun k_ => (P0_1_ k_ ∨ w.heap.size ≤ k_)) (.slice A0_1 l0_1.length c0_1) l0_1 from Kd.V_mono hs0_1 (fun k_ hk => .inl hk))
  have HR0_2 := Aside0.mk hr0_2
  have HC0_2 := Aside0.mk hc0_2
  clear hr0_2 hc0_2
  have HB := Aside0.mk (Below.refl w.heap.size w)
  have H : (kilnref3_lasts.l0 k a1 (wrap64 ((l0_1.length : Int) - 1)) a0_0 l0_1 l0_2 a0_3 a0_4 a0_5) = some r := h
  clear h
  have H' := Aside0.mk H
  clear H
  go_enter Tryd.func75, Tryd.ntmps75
  go_wp2_with (first | ((with_reducible refine gate_dst (N := 2) rfl ?_); refine box_event ?hg (N := 2) ?hd (cs := #[.int .i64 a0_0, .slice A0_1 l0_1.length c0_1, .slice A0_2 l0_2.length c0_2, .int .i64 a0_3, .int .i64 a0_4, .int .i64 a0_5]) (t := 43) ?hr ?_; (case hd => rfl); (case hg => rfl); (case hr => first | (go_simp; done) | (go_simp; rfl)); intro gb172 hg w3 hbox hb; have n0_ := Aside0.mk (Kd.V_below (Kd.V_elderB (by (with_reducible repeat (first | apply Kd.V_alloc | apply Kd.V_drewN | apply Kd.V_drew)); exact HO0_1.out) gb172 (Nat.le_of_eq hg.symm)) hb); have n1_ := Aside0.mk (below_step (by repeat (first | (with_reducible first | exact HB.out | apply below_alloc | apply pw_below_drewN | apply below_drew1) | exact HB.out)) hb); have n2_ := Aside0.mk (hbox); have n3_ := Aside0.mk ((by rw [hg]; exact (below_size (by repeat (first | (with_reducible first | exact HB.out | apply below_alloc | apply pw_below_drewN | apply below_drew1) | exact HB.out))) : w.heap.size ≤ gb172)); have n4_ := Aside0.mk ((by rw [hg]; exact (below_size (by repeat (first | (with_reducible first | exact HB.out | apply below_alloc | apply pw_below_drewN | apply below_drew1) | exact HB.out))) : w.heap.size ≤ gb172)); clear HO0_1; clear HB; have HO0_1 := n0_; have HB := n1_; have BK172 := n2_; have GW172 := n3_; have GE172 := n4_; clear n0_ n1_ n2_ n3_ n4_; clear hb hbox hg; have hcz4_0 : w3.cell? ⟨gb172, 0, none⟩ = some (.int .i64 a0_0) := (blk_cell BK172.out 0).trans rfl; have hcz4_1 : w3.cell? ⟨gb172, 1, none⟩ = some (.slice A0_1 l0_1.length c0_1) := (blk_cell BK172.out 1).trans rfl; have hcz4_2 : w3.cell? ⟨gb172, 2, none⟩ = some (.slice A0_2 l0_2.length c0_2) := (blk_cell BK172.out 2).trans rfl; have hcz4_3 : w3.cell? ⟨gb172, 3, none⟩ = some (.int .i64 a0_3) := (blk_cell BK172.out 3).trans rfl; have hcz4_4 : w3.cell? ⟨gb172, 4, none⟩ = some (.int .i64 a0_4) := (blk_cell BK172.out 4).trans rfl; have hcz4_5 : w3.cell? ⟨gb172, 5, none⟩ = some (.int .i64 a0_5) := (blk_cell BK172.out 5).trans rfl; have hfz4_0 := blk_frozen BK172.out 0; have hfz4_1 := blk_frozen BK172.out 1; have hfz4_2 := blk_frozen BK172.out 2; have hfz4_3 := blk_frozen BK172.out 3; have hfz4_4 := blk_frozen BK172.out 4; have hfz4_5 := blk_frozen BK172.out 5))
  go_loopg [5] k (fun kq v5 w' => ∃ (x5_1 : Int), v5 = .int .i64 x5_1 ∧ Aside0 (kilnref3_lasts.l0 kq a1 x5_1 a0_0 l0_1 l0_2 a0_3 a0_4 a0_5 = some r) ∧ Aside0 (kq ≤ k) ∧ Aside0 (Kd.V k106 106 w' w.heap.size (fun k_ => (P0_1_ k_ ∨ w.heap.size ≤ k_) ∧ k_ ≠ gb172) (.slice A0_1 l0_1.length c0_1) l0_1) ∧ Aside0 (w'.heap[gb172]? = some (.cells #[.int .i64 a0_0, (.slice A0_1 l0_1.length c0_1), (.slice A0_2 l0_2.length c0_2), .int .i64 a0_3, .int .i64 a0_4, .int .i64 a0_5] 43 (0, 0))) ∧ Aside0 (Below w.heap.size w w'))
  case atStart => exact ⟨(wrap64 ((l0_1.length : Int) - 1)), (by first | rfl | (simp; done) | (simp [*]; done)), H', ⟨Nat.le_refl _⟩, ⟨by (with_reducible repeat (first | apply Kd.V_alloc | apply Kd.V_drewN | apply Kd.V_drew)); exact HO0_1.out⟩, ⟨by (with_reducible repeat (first | refine blk_drewN ?_ _ | refine blk_drew ?_ | refine blk_alloc ?_ _)); exact BK172.out⟩, ⟨by repeat (first | (with_reducible first | exact HB.out | apply below_alloc | apply pw_below_drewN | apply below_drew1 | refine below_set ?_ GE172.out) | exact HB.out)⟩⟩
  case round =>
    clear H'
    try clear p2
    try clear hcz4_0
    try clear hcz4_1
    try clear hcz4_2
    try clear hcz4_3
    try clear hcz4_4
    try clear hcz4_5
    try clear hfz4_0
    try clear hfz4_1
    try clear hfz4_2
    try clear hfz4_3
    try clear hfz4_4
    try clear hfz4_5
    obtain ⟨x5_1, rfl, HA, HK1, HO_173001, BK172, HB⟩ := hrel
    cases gk with
    | zero => exact absurd HA.out (by simp [kilnref3_lasts.l0])
    | succ k1 =>
      have H := HA.out
      clear HA
      simp only [kilnref3_lasts.l0] at H
      by_cases c5 : x5_1 ≥ 0
      · rw [if_pos c5] at H
        have c5b0 : decide (0 ≤ x5_1) = true := decide_eq_true c5
        clear c5
        by_cases c6 : 0 ≤ x5_1
        · rw [if_pos c6] at H
          have c6b0 : decide (0 ≤ x5_1) = true := decide_eq_true c6
          clear c6
          by_cases c7 : x5_1 < (l0_1.length : Int)
          · rw [if_pos c7] at H
            have c7b0 : decide (x5_1 < (l0_1.length : Int)) = true := decide_eq_true c7
            clear c7
            by_cases c8 : ((rd_T106 l0_1 x5_1).f0) = a1
            · rw [if_pos c8] at H
              have c8b0 : (((rd_T106 l0_1 x5_1).f0) == a1) = true := beq_iff_eq.mpr c8
              have c8b1 : (((rd_T106 l0_1 x5_1).f0) != a1) = false := bne_eq_false_iff_eq.mpr c8
              clear c8
              obtain rfl := Option.some.inj H
              have hcz9_0 : wr.cell? ⟨gb172, 0, none⟩ = some (.int .i64 a0_0) := (blk_cell BK172.out 0).trans rfl
              have hcz9_1 : wr.cell? ⟨gb172, 1, none⟩ = some (.slice A0_1 l0_1.length c0_1) := (blk_cell BK172.out 1).trans rfl
              have hcz9_2 : wr.cell? ⟨gb172, 2, none⟩ = some (.slice A0_2 l0_2.length c0_2) := (blk_cell BK172.out 2).trans rfl
              have hcz9_3 : wr.cell? ⟨gb172, 3, none⟩ = some (.int .i64 a0_3) := (blk_cell BK172.out 3).trans rfl
              have hcz9_4 : wr.cell? ⟨gb172, 4, none⟩ = some (.int .i64 a0_4) := (blk_cell BK172.out 4).trans rfl
              have hcz9_5 : wr.cell? ⟨gb172, 5, none⟩ = some (.int .i64 a0_5) := (blk_cell BK172.out 5).trans rfl
              have hfz9_0 := blk_frozen BK172.out 0
              have hfz9_1 := blk_frozen BK172.out 1
              have hfz9_2 := blk_frozen BK172.out 2
              have hfz9_3 := blk_frozen BK172.out 3
              have hfz9_4 := blk_frozen BK172.out 4
              have hfz9_5 := blk_frozen BK172.out 5
              have p173 : 0 ≤ (x5_1 : Int) := of_decide_eq_true (by first | (with_reducible assumption) | assumption)
              have q173 : x5_1 < (l0_1.length : Int) := of_decide_eq_true (by first | (with_reducible assumption) | assumption)
              obtain ⟨ad173, A173_1, c173_1, e173, hx173_0, hx173_1, hl173_1, hi173_1⟩ := at_T106 (Kd.V_reads' HO_173001.out).2.2 x5_1 p173 q173
              cases e173
              obtain ⟨ce173, hce173, hMe173, hcc173⟩ := Kd.V_get HO_173001.out z106 x5_1 p173 (by first | exact q173 | exact of_decide_eq_true (by first | (with_reducible assumption) | assumption) | (have e_ := (Kd.V_reads' HO_173001.out).1; omega))
              obtain ⟨ua173_1, uc173_1, rfl, ul173_1, ge173_1⟩ := k106_openF hMe173
              have hv173_1 := hcc173 1 _ rfl
              rw [add_field _ _ 1 (by omega)] at hv173_1
              replace hv173_1 := Option.some.inj (hv173_1.symm.trans hx173_1)
              injection hv173_1 with hva_ hvn_ hvc_
              rw [hva_] at ge173_1
              rw [hvc_] at ul173_1
              have HL173_1 := Aside0.mk (show Kd.V (Kd.int .u8) 5 _ w.heap.size _ _ ((rd_T106 l0_1 x5_1).f1) from Kd.V_mk ul173_1 ge173_1)
              clear hva_ hvn_ hvc_ ge173_1 ul173_1
              clear hcc173 hce173
              have HR173_1 := Aside0.mk hi173_1
              have HC173_1 := Aside0.mk hl173_1
              clear hi173_1 hl173_1
              replace p173 := eq_true p173
              replace q173 := eq_true q173
              have p174 : 0 ≤ (x5_1 : Int) := of_decide_eq_true (by first | (with_reducible assumption) | assumption)
              have q174 : x5_1 < (l0_1.length : Int) := of_decide_eq_true (by first | (with_reducible assumption) | assumption)
              obtain ⟨ad174, A174_1, c174_1, e174, hx174_0, hx174_1, hl174_1, hi174_1⟩ := at_T106 (Kd.V_reads' HO_173001.out).2.2 x5_1 p174 q174
              obtain rfl : ad173 = ad174 := (by injection e174)
              obtain ⟨ce174, hce174, hMe174, hcc174⟩ := Kd.V_get HO_173001.out z106 x5_1 p174 (by first | exact q174 | exact of_decide_eq_true (by first | (with_reducible assumption) | assumption) | (have e_ := (Kd.V_reads' HO_173001.out).1; omega))
              obtain ⟨ua174_1, uc174_1, rfl, ul174_1, ge174_1⟩ := k106_openF hMe174
              have hv174_1 := hcc174 1 _ rfl
              rw [add_field _ _ 1 (by omega)] at hv174_1
              replace hv174_1 := Option.some.inj (hv174_1.symm.trans hx174_1)
              injection hv174_1 with hva_ hvn_ hvc_
              rw [hva_] at ge174_1
              rw [hvc_] at ul174_1
              have HL174_1 := Aside0.mk (show Kd.V (Kd.int .u8) 5 _ w.heap.size _ _ ((rd_T106 l0_1 x5_1).f1) from Kd.V_mk ul174_1 ge174_1)
              clear hva_ hvn_ hvc_ ge174_1 ul174_1
              clear hcc174 hce174
              have HR174_1 := Aside0.mk hi174_1
              have HC174_1 := Aside0.mk hl174_1
              clear hi174_1 hl174_1
              replace p174 := eq_true p174
              replace q174 := eq_true q174
              have ea_ := Option.some.inj (hx173_1.symm.trans hx174_1)
              injection ea_ with ea_ en_ ec_
              subst ea_
              subst ec_
              clear en_
              go_wp2
              go_ret
              exact ⟨_, by first | rfl | (simp [errW_none, errW_some] <;> rfl) | (simp [*, errW_none, errW_some] <;> rfl), by (with_reducible repeat (first | apply Kd.V_alloc | apply Kd.V_drewN | apply Kd.V_drew)); exact Kd.V_mono HL174_1.out (fun _ hk => hk.1), by repeat (first | (with_reducible first | exact HB.out | apply below_alloc | apply pw_below_drewN | apply below_drew1 | refine below_set ?_ GE172.out) | exact HB.out)⟩
            · rw [if_neg c8] at H
              have c8b0 : (((rd_T106 l0_1 x5_1).f0) == a1) = false := beq_eq_false_iff_ne.mpr c8
              have c8b1 : (((rd_T106 l0_1 x5_1).f0) != a1) = true := bne_iff_ne.mpr c8
              have H' := Aside0.mk H
              clear H
              have hcz10_0 : wr.cell? ⟨gb172, 0, none⟩ = some (.int .i64 a0_0) := (blk_cell BK172.out 0).trans rfl
              have hcz10_1 : wr.cell? ⟨gb172, 1, none⟩ = some (.slice A0_1 l0_1.length c0_1) := (blk_cell BK172.out 1).trans rfl
              have hcz10_2 : wr.cell? ⟨gb172, 2, none⟩ = some (.slice A0_2 l0_2.length c0_2) := (blk_cell BK172.out 2).trans rfl
              have hcz10_3 : wr.cell? ⟨gb172, 3, none⟩ = some (.int .i64 a0_3) := (blk_cell BK172.out 3).trans rfl
              have hcz10_4 : wr.cell? ⟨gb172, 4, none⟩ = some (.int .i64 a0_4) := (blk_cell BK172.out 4).trans rfl
              have hcz10_5 : wr.cell? ⟨gb172, 5, none⟩ = some (.int .i64 a0_5) := (blk_cell BK172.out 5).trans rfl
              have hfz10_0 := blk_frozen BK172.out 0
              have hfz10_1 := blk_frozen BK172.out 1
              have hfz10_2 := blk_frozen BK172.out 2
              have hfz10_3 := blk_frozen BK172.out 3
              have hfz10_4 := blk_frozen BK172.out 4
              have hfz10_5 := blk_frozen BK172.out 5
              have p173 : 0 ≤ (x5_1 : Int) := of_decide_eq_true (by first | (with_reducible assumption) | assumption)
              have q173 : x5_1 < (l0_1.length : Int) := of_decide_eq_true (by first | (with_reducible assumption) | assumption)
              obtain ⟨ad173, A173_1, c173_1, e173, hx173_0, hx173_1, hl173_1, hi173_1⟩ := at_T106 (Kd.V_reads' HO_173001.out).2.2 x5_1 p173 q173
              cases e173
              obtain ⟨ce173, hce173, hMe173, hcc173⟩ := Kd.V_get HO_173001.out z106 x5_1 p173 (by first | exact q173 | exact of_decide_eq_true (by first | (with_reducible assumption) | assumption) | (have e_ := (Kd.V_reads' HO_173001.out).1; omega))
              obtain ⟨ua173_1, uc173_1, rfl, ul173_1, ge173_1⟩ := k106_openF hMe173
              have hv173_1 := hcc173 1 _ rfl
              rw [add_field _ _ 1 (by omega)] at hv173_1
              replace hv173_1 := Option.some.inj (hv173_1.symm.trans hx173_1)
              injection hv173_1 with hva_ hvn_ hvc_
              rw [hva_] at ge173_1
              rw [hvc_] at ul173_1
              have HL173_1 := Aside0.mk (show Kd.V (Kd.int .u8) 5 _ w.heap.size _ _ ((rd_T106 l0_1 x5_1).f1) from Kd.V_mk ul173_1 ge173_1)
              clear hva_ hvn_ hvc_ ge173_1 ul173_1
              clear hcc173 hce173
              have HR173_1 := Aside0.mk hi173_1
              have HC173_1 := Aside0.mk hl173_1
              clear hi173_1 hl173_1
              replace p173 := eq_true p173
              replace q173 := eq_true q173
              go_wp2
              go_roundg k1
              case measure => have := HK1.out; omega
              case rel => exact ⟨(wrap64 (x5_1 - 1)), (by first | rfl | (simp; done) | (simp [*]; done)), H', ⟨by have := HK1.out; omega⟩, ⟨by (with_reducible repeat (first | apply Kd.V_alloc | apply Kd.V_drewN | apply Kd.V_drew)); exact HO_173001.out⟩, ⟨by (with_reducible repeat (first | refine blk_drewN ?_ _ | refine blk_drew ?_ | refine blk_alloc ?_ _)); exact BK172.out⟩, ⟨by repeat (first | (with_reducible first | exact HB.out | apply below_alloc | apply pw_below_drewN | apply below_drew1 | refine below_set ?_ GE172.out) | exact HB.out)⟩⟩
          · rw [if_neg c7] at H
            exact absurd H (by simp)
        · rw [if_neg c6] at H
          exact absurd H (by simp)
      · rw [if_neg c5] at H
        have c5b0 : decide (0 ≤ x5_1) = false := decide_eq_false c5
        clear c5
        replace H := Option.bind_eq_some_iff.mp H
        obtain ⟨t175, A110, H⟩ := H
        replace H : (some t175) = some r := H
        have A11 := Aside0.mk A110
        clear A110
        obtain rfl := Option.some.inj H
        go_wp2_with (first | ((with_reducible refine gate_callee (f := 50) rfl ?_); refine goesL_ (some 28) rfl rfl Tryd.func50 (by kernel_rfl) rfl #[] rfl (by (try simp only [List.map_toArray, List.map_cons, List.map_nil]); first | done | rfl | (simp only [List.length_drop, List.length_take]; rfl)) ?_; (with_reducible refine (kilnref3_Zeros.calls  t175 _ A11.out).mono ?_); rintro e w12 ⟨v176, rfl, ho0, hb⟩; refine ⟨_, rfl, ?_⟩; have n0_ := Aside0.mk (Kd.V_elder' (by (with_reducible repeat (first | apply Kd.V_alloc | apply Kd.V_drewN | apply Kd.V_drew)); exact HO_173001.out) (Kd.R_base ho0) hb); have n1_ := Aside0.mk (Kd.R_lower (Kd.R_newM (M := fun k_ => (w.heap.size ≤ k_)) ho0 (below_size (by repeat (first | (with_reducible first | exact HB.out | apply below_alloc | apply pw_below_drewN | apply below_drew1 | refine below_set ?_ GE172.out) | exact HB.out))) (fun k_ h_ => h_)) (below_size (by repeat (first | (with_reducible first | exact HB.out | apply below_alloc | apply pw_below_drewN | apply below_drew1 | refine below_set ?_ GE172.out) | exact HB.out)))); have n2_ := Aside0.mk (blk_below (g := gb172) (o := .cells #[.int .i64 a0_0, .slice A0_1 l0_1.length c0_1, .slice A0_2 l0_2.length c0_2, .int .i64 a0_3, .int .i64 a0_4, .int .i64 a0_5] 43 (0, 0)) (by (with_reducible repeat (first | refine blk_drewN ?_ _ | refine blk_drew ?_ | refine blk_alloc ?_ _)); exact BK172.out) hb); have n3_ := Aside0.mk (below_step (by repeat (first | (with_reducible first | exact HB.out | apply below_alloc | apply pw_below_drewN | apply below_drew1 | refine below_set ?_ GE172.out) | exact HB.out)) hb); clear HO_173001; clear BK172; clear HB; have HO_173001 := n0_; have HO177 := n1_; have BK172 := n2_; have HB := n3_; clear n0_ n1_ n2_ n3_; (try clear hb); (try clear hb2); (try clear hk); (try clear hi); (try clear ho0)))
        go_ret
        exact ⟨_, by first | rfl | (simp [errW_none, errW_some] <;> rfl) | (simp [*, errW_none, errW_some] <;> rfl), Kd.V_mono (Kd.R_V (by (with_reducible repeat (first | apply Kd.R_alloc | apply Kd.R_drewN | apply Kd.R_drew)); exact Kd.R_mono HO177.out (fun _ hk => hk.1))) (fun k_ hk => by first | exact ⟨(.inr (hk.1)), hk.2⟩ | exact (.inr (hk))), by repeat (first | (with_reducible first | exact HB.out | apply below_alloc | apply pw_below_drewN | apply below_drew1 | refine below_set ?_ GE172.out) | exact HB.out)⟩
def kilnref3_Now.l0 : Nat → Int → Int → Int → List (S106) → List (S106) → Int → Int → Int → Option (List Int)
  | 0, _, _, _, _, _, _, _, _ => none
  | k + 1, x1, x5, x179000, x179001, x179002, x179003, x179004, x179005 => if x5 ≥ 0 then (if 0 ≤ x5 then (if x5 < (x179002.length : Int) then (if ((rd_T106 x179002 x5).f0) = x1 then ((kilnref3_Copy.f ((rd_T106 x179002 x5).f1)).bind fun t181 => (some t181)) else (kilnref3_Now.l0 k x1 (wrap64 (x5 - 1)) x179000 x179001 x179002 x179003 x179004 x179005)) else (none)) else (none)) else ((kilnref3_lasts.f k x179000 x179001 x179002 x179003 x179004 x179005 x1).bind fun t184 => ((kilnref3_Copy.f t184).bind fun t187 => (some t187)))
def kilnref3_Now.f (k : Nat) (a0_0 : Int) (l0_1 : List (S106)) (l0_2 : List (S106)) (a0_3 : Int) (a0_4 : Int) (a0_5 : Int) (a1 : Int) : Option (List Int) := kilnref3_Now.l0 k a1 (wrap64 ((l0_2.length : Int) - 1)) a0_0 l0_1 l0_2 a0_3 a0_4 a0_5
theorem kilnref3_Now.mono_l : ∀ k, (∀ y0 y1 y2 y3 y4 y5 y6 y7, LeO (kilnref3_Now.l0 k y0 y1 y2 y3 y4 y5 y6 y7) (kilnref3_Now.l0 (k + 1) y0 y1 y2 y3 y4 y5 y6 y7))
  | 0 => fun _ _ _ _ _ _ _ _ r h => by simp [kilnref3_Now.l0] at h
  | k + 1 => by
    have ih0 := kilnref3_Now.mono_l k
    · intro y0 y1 y2 y3 y4 y5 y6 y7
      unfold kilnref3_Now.l0
      repeat' first
      | (with_reducible exact ih0 _ _ _ _ _ _ _ _)
      | (with_reducible exact kilnref3_lasts.mono _ _ _ _ _ _ _ _)
      | (with_reducible exact LeO.refl _)
      | (with_reducible exact LeO.none _)
      | (with_reducible refine LeO.ite ?_ ?_)
      | (with_reducible refine LeO.bind ?_ (fun _ => ?_))
      | exact ih0 _ _ _ _ _ _ _ _
      | exact kilnref3_lasts.mono _ _ _ _ _ _ _ _
      | exact LeO.none _
      | refine LeO.ite ?_ ?_
      | refine LeO.bind ?_ (fun _ => ?_)
theorem kilnref3_Now.mono : ∀ a0 a1 a2 a3 a4 a5 a6 k, LeO (kilnref3_Now.f k a0 a1 a2 a3 a4 a5 a6) (kilnref3_Now.f (k + 1) a0 a1 a2 a3 a4 a5 a6) := by
  intro a0 a1 a2 a3 a4 a5 a6 k
  have ih0 := kilnref3_Now.mono_l k
  unfold kilnref3_Now.f
  repeat' first
      | (with_reducible exact ih0 _ _ _ _ _ _ _ _)
      | (with_reducible exact kilnref3_lasts.mono _ _ _ _ _ _ _ _)
      | (with_reducible exact LeO.refl _)
      | (with_reducible exact LeO.none _)
      | (with_reducible refine LeO.ite ?_ ?_)
      | (with_reducible refine LeO.bind ?_ (fun _ => ?_))
      | exact ih0 _ _ _ _ _ _ _ _
      | exact kilnref3_lasts.mono _ _ _ _ _ _ _ _
      | exact LeO.none _
      | refine LeO.ite ?_ ?_
      | refine LeO.bind ?_ (fun _ => ?_)
set_option maxHeartbeats 8000000 in
set_option maxRecDepth 100000 in
theorem kilnref3_Now.calls (k : Nat) (a0_0 : Int) (A0_1 : Option Addr) (c0_1 : Nat) (l0_1 : List (S106)) (A0_2 : Option Addr) (c0_2 : Nat) (l0_2 : List (S106)) (a0_3 : Int) (a0_4 : Int) (a0_5 : Int) (a1 : Int) (r : List Int) (w : World) (hr0_1 : Kd.C k106 w A0_1 l0_1.length l0_1) (hc0_1 : l0_1.length ≤ c0_1) (hr0_2 : Kd.C k106 w A0_2 l0_2.length l0_2) (hc0_2 : l0_2.length ≤ c0_2) (h : kilnref3_Now.f k a0_0 l0_1 l0_2 a0_3 a0_4 a0_5 a1 = some r) :
    Calls Tryd.prog 70 #[.agg #[.int .i64 a0_0, .slice A0_1 l0_1.length c0_1, .slice A0_2 l0_2.length c0_2, .int .i64 a0_3, .int .i64 a0_4, .int .i64 a0_5], .int .i64 a1] w fun e w' => ∃ v0_ : Value, e = .returned (v0_) ∧ Kd.R (Kd.int .u8) 5 w' w.heap.size (fun _ => True) v0_ r ∧ Below w.heap.size w w' := by
  have hu43 := Tryd.underlying43
  have HR0_1 := Aside0.mk hr0_1
  have HC0_1 := Aside0.mk hc0_1
  clear hr0_1 hc0_1
  have HR0_2 := Aside0.mk hr0_2
  have HC0_2 := Aside0.mk hc0_2
  clear hr0_2 hc0_2
  have HB := Aside0.mk (Below.refl w.heap.size w)
  have H : (kilnref3_Now.l0 k a1 (wrap64 ((l0_2.length : Int) - 1)) a0_0 l0_1 l0_2 a0_3 a0_4 a0_5) = some r := h
  clear h
  have H' := Aside0.mk H
  clear H
  go_enter Tryd.func70, Tryd.ntmps70
  go_wp2_with (first | ((with_reducible refine gate_dst (N := 2) rfl ?_); refine box_event ?hg (N := 2) ?hd (cs := #[.int .i64 a0_0, .slice A0_1 l0_1.length c0_1, .slice A0_2 l0_2.length c0_2, .int .i64 a0_3, .int .i64 a0_4, .int .i64 a0_5]) (t := 43) ?hr ?_; (case hd => rfl); (case hg => rfl); (case hr => first | (go_simp; done) | (go_simp; rfl)); intro gb178 hg w3 hbox hb; have n0_ := Aside0.mk (below_step (by repeat (first | (with_reducible first | exact HB.out | apply below_alloc | apply pw_below_drewN | apply below_drew1) | exact HB.out)) hb); have n1_ := Aside0.mk (hbox); have n2_ := Aside0.mk ((by rw [hg]; exact (below_size (by repeat (first | (with_reducible first | exact HB.out | apply below_alloc | apply pw_below_drewN | apply below_drew1) | exact HB.out))) : w.heap.size ≤ gb178)); have n3_ := Aside0.mk ((by rw [hg]; exact (below_size (by repeat (first | (with_reducible first | exact HB.out | apply below_alloc | apply pw_below_drewN | apply below_drew1) | exact HB.out))) : w.heap.size ≤ gb178)); clear HB; have HB := n0_; have BK178 := n1_; have GW178 := n2_; have GE178 := n3_; clear n0_ n1_ n2_ n3_; clear hb hbox hg; have hcz4_0 : w3.cell? ⟨gb178, 0, none⟩ = some (.int .i64 a0_0) := (blk_cell BK178.out 0).trans rfl; have hcz4_1 : w3.cell? ⟨gb178, 1, none⟩ = some (.slice A0_1 l0_1.length c0_1) := (blk_cell BK178.out 1).trans rfl; have hcz4_2 : w3.cell? ⟨gb178, 2, none⟩ = some (.slice A0_2 l0_2.length c0_2) := (blk_cell BK178.out 2).trans rfl; have hcz4_3 : w3.cell? ⟨gb178, 3, none⟩ = some (.int .i64 a0_3) := (blk_cell BK178.out 3).trans rfl; have hcz4_4 : w3.cell? ⟨gb178, 4, none⟩ = some (.int .i64 a0_4) := (blk_cell BK178.out 4).trans rfl; have hcz4_5 : w3.cell? ⟨gb178, 5, none⟩ = some (.int .i64 a0_5) := (blk_cell BK178.out 5).trans rfl; have hfz4_0 := blk_frozen BK178.out 0; have hfz4_1 := blk_frozen BK178.out 1; have hfz4_2 := blk_frozen BK178.out 2; have hfz4_3 := blk_frozen BK178.out 3; have hfz4_4 := blk_frozen BK178.out 4; have hfz4_5 := blk_frozen BK178.out 5))
  go_loopg [5] k (fun kq v5 w' => ∃ (x5_1 : Int), v5 = .int .i64 x5_1 ∧ Aside0 (kilnref3_Now.l0 kq a1 x5_1 a0_0 l0_1 l0_2 a0_3 a0_4 a0_5 = some r) ∧ Aside0 (kq ≤ k) ∧ Aside0 (w'.heap[gb178]? = some (.cells #[.int .i64 a0_0, (.slice A0_1 l0_1.length c0_1), (.slice A0_2 l0_2.length c0_2), .int .i64 a0_3, .int .i64 a0_4, .int .i64 a0_5] 43 (0, 0))) ∧ Aside0 (Below w.heap.size w w'))
  case atStart => exact ⟨(wrap64 ((l0_2.length : Int) - 1)), (by first | rfl | (simp; done) | (simp [*]; done)), H', ⟨Nat.le_refl _⟩, ⟨by (with_reducible repeat (first | refine blk_drewN ?_ _ | refine blk_drew ?_ | refine blk_alloc ?_ _)); exact BK178.out⟩, ⟨by repeat (first | (with_reducible first | exact HB.out | apply below_alloc | apply pw_below_drewN | apply below_drew1 | refine below_set ?_ GE178.out) | exact HB.out)⟩⟩
  case round =>
    clear H'
    try clear p2
    try clear hcz4_0
    try clear hcz4_1
    try clear hcz4_2
    try clear hcz4_3
    try clear hcz4_4
    try clear hcz4_5
    try clear hfz4_0
    try clear hfz4_1
    try clear hfz4_2
    try clear hfz4_3
    try clear hfz4_4
    try clear hfz4_5
    obtain ⟨x5_1, rfl, HA, HK1, BK178, HB⟩ := hrel
    cases gk with
    | zero => exact absurd HA.out (by simp [kilnref3_Now.l0])
    | succ k1 =>
      have H := HA.out
      clear HA
      simp only [kilnref3_Now.l0] at H
      by_cases c5 : x5_1 ≥ 0
      · rw [if_pos c5] at H
        have c5b0 : decide (0 ≤ x5_1) = true := decide_eq_true c5
        clear c5
        by_cases c6 : 0 ≤ x5_1
        · rw [if_pos c6] at H
          have c6b0 : decide (0 ≤ x5_1) = true := decide_eq_true c6
          clear c6
          by_cases c7 : x5_1 < (l0_2.length : Int)
          · rw [if_pos c7] at H
            have c7b0 : decide (x5_1 < (l0_2.length : Int)) = true := decide_eq_true c7
            clear c7
            by_cases c8 : ((rd_T106 l0_2 x5_1).f0) = a1
            · rw [if_pos c8] at H
              have c8b0 : (((rd_T106 l0_2 x5_1).f0) == a1) = true := beq_iff_eq.mpr c8
              have c8b1 : (((rd_T106 l0_2 x5_1).f0) != a1) = false := bne_eq_false_iff_eq.mpr c8
              clear c8
              replace H := Option.bind_eq_some_iff.mp H
              obtain ⟨t181, A90, H⟩ := H
              replace H : (some t181) = some r := H
              have A9 := Aside0.mk A90
              clear A90
              obtain rfl := Option.some.inj H
              have hcz10_0 : wr.cell? ⟨gb178, 0, none⟩ = some (.int .i64 a0_0) := (blk_cell BK178.out 0).trans rfl
              have hcz10_1 : wr.cell? ⟨gb178, 1, none⟩ = some (.slice A0_1 l0_1.length c0_1) := (blk_cell BK178.out 1).trans rfl
              have hcz10_2 : wr.cell? ⟨gb178, 2, none⟩ = some (.slice A0_2 l0_2.length c0_2) := (blk_cell BK178.out 2).trans rfl
              have hcz10_3 : wr.cell? ⟨gb178, 3, none⟩ = some (.int .i64 a0_3) := (blk_cell BK178.out 3).trans rfl
              have hcz10_4 : wr.cell? ⟨gb178, 4, none⟩ = some (.int .i64 a0_4) := (blk_cell BK178.out 4).trans rfl
              have hcz10_5 : wr.cell? ⟨gb178, 5, none⟩ = some (.int .i64 a0_5) := (blk_cell BK178.out 5).trans rfl
              have hfz10_0 := blk_frozen BK178.out 0
              have hfz10_1 := blk_frozen BK178.out 1
              have hfz10_2 := blk_frozen BK178.out 2
              have hfz10_3 := blk_frozen BK178.out 3
              have hfz10_4 := blk_frozen BK178.out 4
              have hfz10_5 := blk_frozen BK178.out 5
              have p179 : 0 ≤ (x5_1 : Int) := of_decide_eq_true (by first | (with_reducible assumption) | assumption)
              have q179 : x5_1 < (l0_2.length : Int) := of_decide_eq_true (by first | (with_reducible assumption) | assumption)
              obtain ⟨ad179, A179_1, c179_1, e179, hx179_0, hx179_1, hl179_1, hi179_1⟩ := at_T106 HR0_2.out x5_1 p179 q179
              cases e179
              replace hx179_0 := (HB.out.cell (World.block_lt_of_cell? w _ hx179_0)).trans hx179_0
              replace hx179_1 := (HB.out.cell (World.block_lt_of_cell? w _ hx179_1)).trans hx179_1
              have HR179_1 := Aside0.mk hi179_1
              have HC179_1 := Aside0.mk hl179_1
              clear hi179_1 hl179_1
              replace p179 := eq_true p179
              replace q179 := eq_true q179
              have p180 : 0 ≤ (x5_1 : Int) := of_decide_eq_true (by first | (with_reducible assumption) | assumption)
              have q180 : x5_1 < (l0_2.length : Int) := of_decide_eq_true (by first | (with_reducible assumption) | assumption)
              obtain ⟨ad180, A180_1, c180_1, e180, hx180_0, hx180_1, hl180_1, hi180_1⟩ := at_T106 HR0_2.out x5_1 p180 q180
              obtain rfl : ad179 = ad180 := (by injection e180)
              replace hx180_0 := (HB.out.cell (World.block_lt_of_cell? w _ hx180_0)).trans hx180_0
              replace hx180_1 := (HB.out.cell (World.block_lt_of_cell? w _ hx180_1)).trans hx180_1
              have HR180_1 := Aside0.mk hi180_1
              have HC180_1 := Aside0.mk hl180_1
              clear hi180_1 hl180_1
              replace p180 := eq_true p180
              replace q180 := eq_true q180
              have ea_ := Option.some.inj (hx179_1.symm.trans hx180_1)
              injection ea_ with ea_ en_ ec_
              subst ea_
              subst ec_
              clear en_
              go_wp2_with (first | ((with_reducible refine gate_callee (f := 44) rfl ?_); refine goesL_ (some 28) rfl rfl Tryd.func44 (by kernel_rfl) rfl #[.slice A179_1 ((rd_T106 l0_2 x5_1).f1).length c179_1] rfl (by (try simp only [List.map_toArray, List.map_cons, List.map_nil]); first | done | rfl | (simp only [List.length_drop, List.length_take]; rfl)) ?_; (with_reducible refine (kilnref3_Copy.calls _ _ ((rd_T106 l0_2 x5_1).f1) t181 _ ?side1 ?side2 A9.out).mono ?_); (case side1 => repeat (first | exact (Kd.C_below HR180_1.out HB.out) | (with_reducible refine Kd.C_alloc ?_ _) | (with_reducible refine Kd.C_drewN ?_ _) | (with_reducible refine Kd.C_drew ?_))); (case side2 => exact HC180_1.out); rintro e w11 ⟨v182, rfl, ho0, hb⟩; refine ⟨_, rfl, ?_⟩; have n0_ := Aside0.mk (Kd.R_lower ho0 (below_size (by repeat (first | (with_reducible first | exact HB.out | apply below_alloc | apply pw_below_drewN | apply below_drew1 | refine below_set ?_ GE178.out) | exact HB.out)))); have n1_ := Aside0.mk (blk_below (g := gb178) (o := .cells #[.int .i64 a0_0, .slice A0_1 l0_1.length c0_1, .slice (some ad179) l0_2.length c0_2, .int .i64 a0_3, .int .i64 a0_4, .int .i64 a0_5] 43 (0, 0)) (by (with_reducible repeat (first | refine blk_drewN ?_ _ | refine blk_drew ?_ | refine blk_alloc ?_ _)); exact BK178.out) hb); have n2_ := Aside0.mk (below_step (by repeat (first | (with_reducible first | exact HB.out | apply below_alloc | apply pw_below_drewN | apply below_drew1 | refine below_set ?_ GE178.out) | exact HB.out)) hb); clear BK178; clear HB; have HO183 := n0_; have BK178 := n1_; have HB := n2_; clear n0_ n1_ n2_; (try clear hb); (try clear hb2); (try clear hk); (try clear hi); (try clear ho0)))
              go_ret
              exact ⟨_, by first | rfl | (simp [errW_none, errW_some] <;> rfl) | (simp [*, errW_none, errW_some] <;> rfl), by (with_reducible repeat (first | apply Kd.R_alloc | apply Kd.R_drewN | apply Kd.R_drew)); exact HO183.out, by repeat (first | (with_reducible first | exact HB.out | apply below_alloc | apply pw_below_drewN | apply below_drew1 | refine below_set ?_ GE178.out) | exact HB.out)⟩
            · rw [if_neg c8] at H
              have c8b0 : (((rd_T106 l0_2 x5_1).f0) == a1) = false := beq_eq_false_iff_ne.mpr c8
              have c8b1 : (((rd_T106 l0_2 x5_1).f0) != a1) = true := bne_iff_ne.mpr c8
              have H' := Aside0.mk H
              clear H
              have hcz12_0 : wr.cell? ⟨gb178, 0, none⟩ = some (.int .i64 a0_0) := (blk_cell BK178.out 0).trans rfl
              have hcz12_1 : wr.cell? ⟨gb178, 1, none⟩ = some (.slice A0_1 l0_1.length c0_1) := (blk_cell BK178.out 1).trans rfl
              have hcz12_2 : wr.cell? ⟨gb178, 2, none⟩ = some (.slice A0_2 l0_2.length c0_2) := (blk_cell BK178.out 2).trans rfl
              have hcz12_3 : wr.cell? ⟨gb178, 3, none⟩ = some (.int .i64 a0_3) := (blk_cell BK178.out 3).trans rfl
              have hcz12_4 : wr.cell? ⟨gb178, 4, none⟩ = some (.int .i64 a0_4) := (blk_cell BK178.out 4).trans rfl
              have hcz12_5 : wr.cell? ⟨gb178, 5, none⟩ = some (.int .i64 a0_5) := (blk_cell BK178.out 5).trans rfl
              have hfz12_0 := blk_frozen BK178.out 0
              have hfz12_1 := blk_frozen BK178.out 1
              have hfz12_2 := blk_frozen BK178.out 2
              have hfz12_3 := blk_frozen BK178.out 3
              have hfz12_4 := blk_frozen BK178.out 4
              have hfz12_5 := blk_frozen BK178.out 5
              have p179 : 0 ≤ (x5_1 : Int) := of_decide_eq_true (by first | (with_reducible assumption) | assumption)
              have q179 : x5_1 < (l0_2.length : Int) := of_decide_eq_true (by first | (with_reducible assumption) | assumption)
              obtain ⟨ad179, A179_1, c179_1, e179, hx179_0, hx179_1, hl179_1, hi179_1⟩ := at_T106 HR0_2.out x5_1 p179 q179
              cases e179
              replace hx179_0 := (HB.out.cell (World.block_lt_of_cell? w _ hx179_0)).trans hx179_0
              replace hx179_1 := (HB.out.cell (World.block_lt_of_cell? w _ hx179_1)).trans hx179_1
              have HR179_1 := Aside0.mk hi179_1
              have HC179_1 := Aside0.mk hl179_1
              clear hi179_1 hl179_1
              replace p179 := eq_true p179
              replace q179 := eq_true q179
              go_wp2
              go_roundg k1
              case measure => have := HK1.out; omega
              case rel => exact ⟨(wrap64 (x5_1 - 1)), (by first | rfl | (simp; done) | (simp [*]; done)), H', ⟨by have := HK1.out; omega⟩, ⟨by (with_reducible repeat (first | refine blk_drewN ?_ _ | refine blk_drew ?_ | refine blk_alloc ?_ _)); exact BK178.out⟩, ⟨by repeat (first | (with_reducible first | exact HB.out | apply below_alloc | apply pw_below_drewN | apply below_drew1 | refine below_set ?_ GE178.out) | exact HB.out)⟩⟩
          · rw [if_neg c7] at H
            exact absurd H (by simp)
        · rw [if_neg c6] at H
          exact absurd H (by simp)
      · rw [if_neg c5] at H
        have c5b0 : decide (0 ≤ x5_1) = false := decide_eq_false c5
        clear c5
        replace H := Option.bind_eq_some_iff.mp H
        obtain ⟨t184, A130, H⟩ := H
        replace H : ((kilnref3_Copy.f t184).bind fun t187 => (some t187)) = some r := H
        have A13 := Aside0.mk A130
        clear A130
        replace H := Option.bind_eq_some_iff.mp H
        obtain ⟨t187, A140, H⟩ := H
        replace H : (some t187) = some r := H
        have A14 := Aside0.mk A140
        clear A140
        obtain rfl := Option.some.inj H
        have hcz15_0 : wr.cell? ⟨gb178, 0, none⟩ = some (.int .i64 a0_0) := (blk_cell BK178.out 0).trans rfl
        have hcz15_1 : wr.cell? ⟨gb178, 1, none⟩ = some (.slice A0_1 l0_1.length c0_1) := (blk_cell BK178.out 1).trans rfl
        have hcz15_2 : wr.cell? ⟨gb178, 2, none⟩ = some (.slice A0_2 l0_2.length c0_2) := (blk_cell BK178.out 2).trans rfl
        have hcz15_3 : wr.cell? ⟨gb178, 3, none⟩ = some (.int .i64 a0_3) := (blk_cell BK178.out 3).trans rfl
        have hcz15_4 : wr.cell? ⟨gb178, 4, none⟩ = some (.int .i64 a0_4) := (blk_cell BK178.out 4).trans rfl
        have hcz15_5 : wr.cell? ⟨gb178, 5, none⟩ = some (.int .i64 a0_5) := (blk_cell BK178.out 5).trans rfl
        have hfz15_0 := blk_frozen BK178.out 0
        have hfz15_1 := blk_frozen BK178.out 1
        have hfz15_2 := blk_frozen BK178.out 2
        have hfz15_3 := blk_frozen BK178.out 3
        have hfz15_4 := blk_frozen BK178.out 4
        have hfz15_5 := blk_frozen BK178.out 5
        go_wp2_with (first | ((with_reducible refine gate_callee (f := 75) rfl ?_); refine goesL_ (some 31) rfl rfl Tryd.func75 (by kernel_rfl) rfl #[.agg #[.int .i64 a0_0, .slice A0_1 l0_1.length c0_1, .slice A0_2 l0_2.length c0_2, .int .i64 a0_3, .int .i64 a0_4, .int .i64 a0_5], .int .i64 a1] rfl (by (try simp only [List.map_toArray, List.map_cons, List.map_nil]); first | done | rfl | (simp only [List.length_drop, List.length_take]; rfl)) ?_; (with_reducible refine (kilnref3_lasts.calls k1 a0_0 (fun k_ => k_ < w.heap.size) _ _ l0_1 _ _ l0_2 a0_3 a0_4 a0_5 a1 t184 _ ?side1 ?side2 ?side3 A13.out).mono ?_); (case side1 => exact Kd.V_mk HC0_1.out (Kd.F_below (Kd.C_F k106_heap HR0_1.out) (by repeat (first | (with_reducible first | exact HB.out | apply below_alloc | apply pw_below_drewN | apply below_drew1 | refine below_set ?_ GE178.out) | exact HB.out)))); (case side2 => repeat (first | exact (Kd.C_below HR0_2.out HB.out) | (with_reducible refine Kd.C_alloc ?_ _) | (with_reducible refine Kd.C_drewN ?_ _) | (with_reducible refine Kd.C_drew ?_))); (case side3 => exact HC0_2.out); rintro e w16 ⟨v185, rfl, ho0, hb⟩; refine ⟨_, rfl, ?_⟩; have n0_ := Aside0.mk (Kd.V_lower (Kd.V_mono (ok' := fun k_ => k_ ≠ gb178) ho0 (fun k_ hk_ => Or.elim hk_ (fun hs_ => fun e_ => Nat.not_le.2 hs_ (by rw [e_]; exact GW178.out)) (fun hn_ => (Kd.freshB (g := gb178) (o := .cells #[.int .i64 a0_0, .slice A0_1 l0_1.length c0_1, .slice A0_2 l0_2.length c0_2, .int .i64 a0_3, .int .i64 a0_4, .int .i64 a0_5] 43 (0, 0)) (by (with_reducible repeat (first | refine blk_drewN ?_ _ | refine blk_drew ?_ | refine blk_alloc ?_ _)); exact BK178.out) k_ hn_)))) (below_size (by repeat (first | (with_reducible first | exact HB.out | apply below_alloc | apply pw_below_drewN | apply below_drew1 | refine below_set ?_ GE178.out) | exact HB.out)))); have n1_ := Aside0.mk (blk_below (g := gb178) (o := .cells #[.int .i64 a0_0, .slice A0_1 l0_1.length c0_1, .slice A0_2 l0_2.length c0_2, .int .i64 a0_3, .int .i64 a0_4, .int .i64 a0_5] 43 (0, 0)) (by (with_reducible repeat (first | refine blk_drewN ?_ _ | refine blk_drew ?_ | refine blk_alloc ?_ _)); exact BK178.out) hb); have n2_ := Aside0.mk (below_step (by repeat (first | (with_reducible first | exact HB.out | apply below_alloc | apply pw_below_drewN | apply below_drew1 | refine below_set ?_ GE178.out) | exact HB.out)) hb); clear BK178; clear HB; have HO186 := n0_; have BK178 := n1_; have HB := n2_; clear n0_ n1_ n2_; (try clear hb); (try clear hb2); (try clear hk); (try clear hi); (try clear ho0); obtain ⟨Ao17, co17, eo17⟩ := Kd.V_slice HO186.out; subst eo17) | ((with_reducible refine gate_callee (f := 44) rfl ?_); refine goesL_ (some 32) rfl rfl Tryd.func44 (by kernel_rfl) rfl #[.slice Ao17 t184.length co17] rfl (by (try simp only [List.map_toArray, List.map_cons, List.map_nil]); first | done | rfl | (simp only [List.length_drop, List.length_take]; rfl)) ?_; (with_reducible refine (kilnref3_Copy.calls _ _ t184 t187 _ ?side1 ?side2 A14.out).mono ?_); (case side1 => repeat (first | exact (Kd.V_reads' HO186.out).2.2 | (with_reducible refine Kd.C_alloc ?_ _) | (with_reducible refine Kd.C_drewN ?_ _) | (with_reducible refine Kd.C_drew ?_))); (case side2 => exact (Kd.V_reads' HO186.out).2.1); rintro e w18 ⟨v188, rfl, ho0, hb⟩; refine ⟨_, rfl, ?_⟩; have n0_ := Aside0.mk (Kd.V_elder' (by (with_reducible repeat (first | apply Kd.V_alloc | apply Kd.V_drewN | apply Kd.V_drew)); exact HO186.out) (Kd.R_base ho0) hb); have n1_ := Aside0.mk (Kd.R_lower ho0 (below_size (by repeat (first | (with_reducible first | exact HB.out | apply below_alloc | apply pw_below_drewN | apply below_drew1 | refine below_set ?_ GE178.out) | exact HB.out)))); have n2_ := Aside0.mk (blk_below (g := gb178) (o := .cells #[.int .i64 a0_0, .slice A0_1 l0_1.length c0_1, .slice A0_2 l0_2.length c0_2, .int .i64 a0_3, .int .i64 a0_4, .int .i64 a0_5] 43 (0, 0)) (by (with_reducible repeat (first | refine blk_drewN ?_ _ | refine blk_drew ?_ | refine blk_alloc ?_ _)); exact BK178.out) hb); have n3_ := Aside0.mk (below_step (by repeat (first | (with_reducible first | exact HB.out | apply below_alloc | apply pw_below_drewN | apply below_drew1 | refine below_set ?_ GE178.out) | exact HB.out)) hb); clear HO186; clear BK178; clear HB; have HO186 := n0_; have HO189 := n1_; have BK178 := n2_; have HB := n3_; clear n0_ n1_ n2_ n3_; (try clear hb); (try clear hb2); (try clear hk); (try clear hi); (try clear ho0)))
        go_ret
        exact ⟨_, by first | rfl | (simp [errW_none, errW_some] <;> rfl) | (simp [*, errW_none, errW_some] <;> rfl), by (with_reducible repeat (first | apply Kd.R_alloc | apply Kd.R_drewN | apply Kd.R_drew)); exact HO189.out, by repeat (first | (with_reducible first | exact HB.out | apply below_alloc | apply pw_below_drewN | apply below_drew1 | refine below_set ?_ GE178.out) | exact HB.out)⟩
end Go.Proofs.YtaflofcnjakaaaaDoor.Z

namespace Go.Proofs.YtaflofcnjakaaaaDoor.BulkW
open Go.ChangeShapes Go.WideShapes Go.Proofs.YtaflofcnjakaaaaDoorW.PrintWords
set_option linter.unusedVariables false
section
variable {H : Type} (enc : TypeId × Value → H) (P : Program) (W : World) (base : Nat) (spare : Nat → Bool) (held : Bool)
def Opens {α : Type} (t : TypeId) (d : Kd α) (Ok : α → Prop) : Prop :=
  ∀ (fuel : Nat) (cs : List Value) (x : DataW H × List MemPlace), DataW.trod enc P W base spare held fuel t cs = some x → (∀ n ∈ x.1.weights P t, n ≤ reachBytes) → ∃ y, d.K W y cs ∧ Ok y
variable {enc P W base spare held}
theorem opens_int {t : TypeId} {k : IntKind} (ht : P.underlying t = some (.int k)) : Opens enc P W base spare held t (Kd.int k) (fun y => (Lit.int k y).wf = true) := by
  intro fuel cs x h _
  obtain ⟨n, rfl, rfl, hw⟩ := DataW.trod_int ht h
  exact ⟨n, rfl, hw⟩
theorem cells_of {a : Addr} {n : Nat} {cs : List Value} (h : W.cells? base a n = some cs) : cs.length = n ∧ ∀ i u, cs[i]? = some u → W.cell? (a.add i) = some u := by
  obtain ⟨_, hl, hc⟩ := World.cells?_some h
  refine ⟨hl, fun i u hu => ?_⟩
  have hi : i < cs.length := (List.getElem?_eq_some_iff.1 hu).1
  rw [hc i (by omega), hu]
theorem in_all {P : Program} {e : TypeId} {n : Nat} : ∀ {l : List (DataW H)} {d : DataW H}, d ∈ l → n ∈ d.weights P e → n ∈ DataW.weightsAll P e l
  | x :: r, d, hd, hn => by
    unfold DataW.weightsAll
    rcases List.mem_cons.1 hd with rfl | hd
    · exact List.mem_append_left _ hn
    · exact List.mem_append_right _ (in_all hd hn)
theorem opens_slice {α : Type} {t e q : TypeId} {d : Kd α} {Ok : α → Prop} (ht : P.underlying t = some (.slice e)) (hc : P.cellsOf e = d.sz)
    (he : Opens enc P W base spare held e d Ok) :
    Opens enc P W base spare held t (Kd.slice q d) (fun ys => ys.length * P.bytesOf e ≤ reachBytes ∧ ∀ y ∈ ys, Ok y) := by
  intro fuel cs x h hwt
  rcases DataW.trod_slice ht h with ⟨rfl, rfl⟩ | ⟨a, len, cap, elems, rest, n, _, rfl, rfl, hb, hl, hmax, hlen, hel, _, _⟩
  · refine ⟨[], ⟨none, 0, rfl, Nat.le_refl _, rfl, Nat.zero_le _, fun h => absurd h (Nat.lt_irrefl _)⟩, by simp, fun y hy => by cases hy⟩
  · have hw1 : ∀ n ∈ ((elems.map (·.1)).length + (rest.map (·.1)).length) * P.bytesOf e :: (DataW.weightsAll P e (elems.map (·.1)) ++ DataW.weightsAll P e (rest.map (·.1))), n ≤ reachBytes := by
      have h1 := hwt
      dsimp only at h1
      unfold DataW.weights at h1
      rw [ht] at h1
      exact h1
    have each : ∀ i (hi : i < elems.length), ∃ y, (∃ c, c.length = d.sz ∧ d.K W y c ∧ ∀ j u, c[j]? = some u → W.cell? (a.add (i * d.sz + j)) = some u) ∧ Ok y := by
      intro i hi
      have h1 := hel i (by omega)
      rw [List.getElem?_eq_getElem hi, Option.bind_eq_some_iff] at h1
      obtain ⟨c, h2, h3⟩ := h1
      obtain ⟨y, hk, hok⟩ := he _ _ _ h3 (fun n hn => hw1 n (List.mem_cons_of_mem _ (List.mem_append_left _ (in_all (List.mem_map.2 ⟨elems[i], List.getElem_mem hi, rfl⟩) hn))))
      obtain ⟨hcl, hcell⟩ := cells_of h2
      rw [hc] at hcl hcell
      refine ⟨y, ⟨c, hcl, hk, fun j u hu => ?_⟩, hok⟩
      have := hcell j u hu
      rwa [Addr.add_add] at this
    have all : ∀ m, m ≤ elems.length → ∃ ys : List α, ys.length = m ∧ ∀ i y, ys[i]? = some y → (∃ c, c.length = d.sz ∧ d.K W y c ∧ ∀ j u, c[j]? = some u → W.cell? (a.add (i * d.sz + j)) = some u) ∧ Ok y := by
      intro m
      induction m with
      | zero => intro _; exact ⟨[], rfl, fun i y hy => by simp at hy⟩
      | succ m ih =>
        intro hm1
        obtain ⟨ys, hys, hall⟩ := ih (by omega)
        obtain ⟨y, hy, hoky⟩ := each m (by omega)
        refine ⟨ys ++ [y], by simp [hys], fun i z hz => ?_⟩
        by_cases hi : i < m
        · rw [List.getElem?_append_left (by omega)] at hz
          exact hall i z hz
        · have hi2 : i < (ys ++ [y]).length := (List.getElem?_eq_some_iff.1 hz).1
          simp [hys] at hi2
          obtain rfl : i = m := by omega
          rw [List.getElem?_append_right (by omega), hys] at hz
          simp at hz
          subst hz
          exact ⟨hy, hoky⟩
    obtain ⟨ys, hys, hall⟩ := all elems.length (Nat.le_refl _)
    refine ⟨ys, ⟨some a, cap, by rw [hys, hlen], by omega, rfl, ?_, fun _ => ⟨a, rfl, fun j p hp => (hall j p hp).1⟩⟩, ?_, fun y hy => ?_⟩
    · rw [hys, hlen]
      have : (maxLen : Nat) ≤ 9223372036854775807 := by decide
      omega
    · have h1 := hw1 _ List.mem_cons_self
      rw [List.length_map, List.length_map] at h1
      rw [hys]
      exact Nat.le_trans (Nat.mul_le_mul_right _ (Nat.le_add_right _ _)) h1
    · obtain ⟨i, hi⟩ := List.getElem?_of_mem hy
      exact (hall i y hi).2
theorem arg_full {α : Type} {t q : TypeId} {d : Kd α} {Ok : List α → Prop} {a : Option Addr} {len cap : Nat} {dd : DataW H} {ps : List MemPlace}
    (hs : Opens enc P W base spare held t (Kd.slice q d) Ok) (h : DataW.Trod enc P W base spare held t (.slice a len cap) dd ps) (hw : ∀ n ∈ dd.weights P t, n ≤ reachBytes) : ∃ l, len = l.length ∧ l.length ≤ cap ∧ Kd.C d W a l.length l ∧ l.length ≤ 9223372036854775807 ∧ Ok l := by
  obtain ⟨fuel, hf⟩ := h
  obtain ⟨l, ⟨A, c, he, hl, hC⟩, hok⟩ := hs _ _ _ hf hw
  simp [Value.cells] at he
  obtain ⟨rfl, rfl, rfl⟩ := he
  exact ⟨l, rfl, hl, hC, hC.2.1, hok⟩
end
theorem weights_at {H : Type} {P : Program} : ∀ {ts : List TypeId} {ds : List (DataW H)}, (DataW.weightsEach P ts ds).all (· ≤ reachBytes) = true → ∀ (j : Nat) (t : TypeId) (d : DataW H), ts[j]? = some t → ds[j]? = some d → ∀ n ∈ d.weights P t, n ≤ reachBytes
  | t0 :: ts, d0 :: ds, h, j, t, d, ht, hd, n, hn => by
    unfold DataW.weightsEach at h
    rw [List.all_append, Bool.and_eq_true] at h
    cases j with
    | zero =>
      obtain rfl : t0 = t := Option.some.inj ht
      obtain rfl : d0 = d := Option.some.inj hd
      exact of_decide_eq_true (List.all_eq_true.1 h.1 n hn)
    | succ j => exact weights_at h.2 j t d ht hd n hn
  | [], _, _, j, t, d, ht, _, _, _ => by simp at ht
  | _ :: _, [], _, j, t, d, _, hd, _, _ => by simp at hd
end Go.Proofs.YtaflofcnjakaaaaDoor.BulkW

namespace Go.Proofs.YtaflofcnjakaaaaDoor.M
open Go.RowKit Go.Maps Go.Proofs.YtaflofcnjakaaaaDoorW.PrintWords Go.Proofs.YtaflofcnjakaaaaDoorW.PrintLast Go.Proofs.YtaflofcnjakaaaaDoorW.PrintMore
set_option linter.unusedVariables false
set_option linter.unusedSimpArgs false
structure Th where
  P : World → (Nat → Prop) → Prop
  foot : ∀ {w : World} {F : Nat → Prop}, P w F → ∀ b, F b → b < w.heap.size
  step : ∀ {w w' : World} {F : Nat → Prop}, P w F → (∀ b, F b → w'.heap[b]? = w.heap[b]?) → P w' F
def Hold (w : World) : List Th → (Nat → Prop) → Prop
  | [], _ => True
  | t :: L, U => ∃ F, t.P w F ∧ (∀ b, F b → U b) ∧ Hold w L (fun b => U b ∧ ¬ F b)
theorem Hold.mono {w : World} : ∀ {L : List Th} {U U' : Nat → Prop}, Hold w L U → (∀ b, U b → b < w.heap.size → U' b) → Hold w L U'
  | [], _, _, _, _ => trivial
  | t :: L, U, U', ⟨F, h1, h2, h3⟩, h => ⟨F, h1, fun b hb => h b (h2 b hb) (t.foot h1 b hb), Hold.mono h3 (fun b hb hlt => ⟨h b hb.1 hlt, hb.2⟩)⟩
theorem Hold.move {w w' : World} : ∀ {L : List Th} {U : Nat → Prop}, Hold w L U → (∀ b, U b → b < w.heap.size → w'.heap[b]? = w.heap[b]?) → Hold w' L U
  | [], _, _, _ => trivial
  | t :: L, U, ⟨F, h1, h2, h3⟩, h => ⟨F, t.step h1 (fun b hb => h b (h2 b hb) (t.foot h1 b hb)), h2, Hold.move h3 (fun b hb hlt => h b hb.1 hlt)⟩
theorem Hold.split {w : World} : ∀ {M L : List Th} {U : Nat → Prop}, Hold w (M ++ L) U → ∃ U1 : Nat → Prop, (∀ b, U1 b → U b) ∧ Hold w M U1 ∧ Hold w L (fun b => U b ∧ ¬ U1 b)
  | [], L, U, h => ⟨fun _ => False, fun _ h => h.elim, trivial, Hold.mono h (fun b hb _ => ⟨hb, fun h => h⟩)⟩
  | t :: M, L, U, ⟨F, h1, h2, h3⟩ => by
    obtain ⟨U1, e1, e2, e3⟩ := Hold.split (M := M) h3
    refine ⟨fun b => F b ∨ U1 b, fun b hb => hb.elim (h2 b) (fun h => (e1 b h).1), ⟨F, h1, fun b hb => .inl hb, Hold.mono e2 (fun b hb _ => ⟨.inr hb, (e1 b hb).2⟩)⟩, Hold.mono e3 (fun b hb _ => ⟨hb.1.1, fun h => h.elim hb.1.2 hb.2⟩)⟩
theorem Hold.append {w : World} : ∀ {M L : List Th} {U1 U2 U : Nat → Prop}, Hold w M U1 → Hold w L U2 → (∀ b, U1 b → U b ∧ ¬ U2 b) → (∀ b, U2 b → U b) → Hold w (M ++ L) U
  | [], L, U1, U2, U, _, h2, _, h4 => Hold.mono h2 (fun b hb _ => h4 b hb)
  | t :: M, L, U1, U2, U, ⟨F, h1, h2, h3⟩, h5, h6, h7 => ⟨F, h1, fun b hb => (h6 b (h2 b hb)).1, Hold.append (M := M) h3 h5 (fun b hb => ⟨⟨(h6 b hb.1).1, hb.2⟩, (h6 b hb.1).2⟩) (fun b hb => ⟨h7 b hb, fun hF => (h6 b (h2 b hF)).2 hb⟩)⟩
theorem Hold.perm {w : World} {L L' : List Th} (hp : L.Perm L') : ∀ {U : Nat → Prop}, Hold w L U → Hold w L' U := by
  induction hp with
  | nil => exact fun h => h
  | cons t _ ih => rintro U ⟨F, h1, h2, h3⟩; exact ⟨F, h1, h2, ih h3⟩
  | swap a b L =>
    rintro U ⟨F, h1, h2, G, g1, g2, h3⟩
    exact ⟨G, g1, fun x hx => (g2 x hx).1, F, h1, fun x hx => ⟨h2 x hx, fun hG => (g2 x hG).2 hx⟩, Hold.mono h3 (fun x hx _ => ⟨⟨hx.1.1, hx.2⟩, hx.1.2⟩)⟩
  | trans _ _ ih1 ih2 => exact fun h => ih2 (ih1 h)
structure Sep (w0 w : World) (L : List Th) : Prop where
  below : Below w0.heap.size w0 w
  hold : Hold w L (fun b => w0.heap.size ≤ b)
section
variable {w0 w w' : World} {L M N : List Th} {t t' : Th}
theorem Sep.refl (w : World) : Sep w w [] := ⟨Below.refl _ _, trivial⟩
theorem Sep.step (h : Sep w0 w L) (hb : Below w.heap.size w w') : Sep w0 w' L := ⟨below_step h.below hb, h.hold.move (fun b _ hlt => hb.block b hlt)⟩
theorem Sep.perm (h : Sep w0 w L) (hp : L.Perm M) : Sep w0 w M := ⟨h.below, h.hold.perm hp⟩
theorem Sep.up1 {a b : Th} (h : Sep w0 w (a :: b :: L)) : Sep w0 w (b :: a :: L) := h.perm (List.Perm.swap b a L)
theorem Sep.up2 {a b c : Th} (h : Sep w0 w (a :: b :: c :: L)) : Sep w0 w (c :: a :: b :: L) := h.perm (List.perm_middle (l₁ := [a, b]))
theorem Sep.up3 {a b c d : Th} (h : Sep w0 w (a :: b :: c :: d :: L)) : Sep w0 w (d :: a :: b :: c :: L) := h.perm (List.perm_middle (l₁ := [a, b, c]))
theorem Sep.down2 {a b c : Th} (h : Sep w0 w (c :: a :: b :: L)) : Sep w0 w (a :: b :: c :: L) := h.perm (List.perm_middle (l₁ := [a, b])).symm
theorem Sep.drop (h : Sep w0 w (t :: L)) : Sep w0 w L := by
  obtain ⟨hb, F, h1, h2, h3⟩ := h
  exact ⟨hb, h3.mono (fun b hb _ => hb.1)⟩
theorem Sep.split (h : Sep w0 w (M ++ L)) : ∃ U : Nat → Prop, Hold w M U ∧ (∀ b, U b → w0.heap.size ≤ b) ∧ ∀ (N : List Th) (w' : World), Hold w' N (fun b => U b ∨ w.heap.size ≤ b) → Chg U w w' → Sep w0 w' (N ++ L) := by
  obtain ⟨hb, h1⟩ := h
  obtain ⟨U1, e1, e2, e3⟩ := h1.split
  have hs := below_size hb
  refine ⟨U1, e2, e1, fun N w' hN hc => ⟨Chg.below hb hc hs e1, ?_⟩⟩
  have h4 : Hold w L (fun b => (w0.heap.size ≤ b ∧ ¬ U1 b) ∧ b < w.heap.size) := e3.mono (fun b hb hlt => ⟨hb, hlt⟩)
  exact hN.append (h4.move (fun b hU hlt => hc.block b hlt hU.1.2)) (fun b hb => ⟨hb.elim (e1 b) (Nat.le_trans hs), fun hx => hb.elim hx.1.2 (fun h => Nat.not_lt.2 h hx.2)⟩) (fun b hb => hb.1.1)
theorem Sep.open_ (h : Sep w0 w (t :: L)) : ∃ F, t.P w F ∧ (∀ b, F b → w0.heap.size ≤ b) ∧ ∀ (N : List Th) (w' : World), Hold w' N (fun b => F b ∨ w.heap.size ≤ b) → Chg F w w' → Sep w0 w' (N ++ L) := by
  obtain ⟨U, ⟨F, h1, h2, _⟩, h3, h4⟩ := Sep.split (M := [t]) h
  refine ⟨F, h1, fun b hb => h3 b (h2 b hb), fun N w' hN hc => h4 N w' (hN.mono (fun b hb _ => hb.imp (h2 b) id)) (hc.mono h2)⟩
theorem Sep.open1 (h : Sep w0 w (t :: L)) : ∃ F, t.P w F ∧ (∀ b, F b → w0.heap.size ≤ b) ∧ ∀ (t' : Th) (w' : World) (F' : Nat → Prop), t'.P w' F' → (∀ b, F' b → F b ∨ w.heap.size ≤ b) → Chg F w w' → Sep w0 w' (t' :: L) := by
  obtain ⟨F, h1, h2, h3⟩ := h.open_
  exact ⟨F, h1, h2, fun t' w' F' h4 h5 hc => h3 [t'] w' ⟨F', h4, h5, trivial⟩ hc⟩
theorem Sep.push (h : Sep w0 w L) (hb : Below w.heap.size w w') {F : Nat → Prop} (ht : t.P w' F) (hF : ∀ b, F b → w.heap.size ≤ b) : Sep w0 w' (t :: L) := by
  obtain ⟨U, _, _, h3⟩ := Sep.split (M := []) h
  exact h3 [t] w' ⟨F, ht, fun b hb => .inr (hF b hb), trivial⟩ ((Chg.of_below (F := fun _ => False) hb).mono (fun _ h => h.elim))
theorem Sep.get (h : Sep w0 w (t :: L)) : ∃ F, t.P w F ∧ ∀ b, F b → w0.heap.size ≤ b := by
  obtain ⟨F, h1, h2, _⟩ := h.open_
  exact ⟨F, h1, h2⟩
theorem Sep.conv (h : Sep w0 w (t :: L)) (hc : ∀ F, t.P w F → ∃ F', t'.P w F' ∧ ∀ b, F' b → F b) : Sep w0 w (t' :: L) := by
  obtain ⟨F, h1, _, h3⟩ := h.open1
  obtain ⟨F', h4, h5⟩ := hc F h1
  exact h3 t' w F' h4 (fun b hb => .inl (h5 b hb)) (Chg.refl _ _)
theorem Sep.size (h : Sep w0 w L) : w0.heap.size ≤ w.heap.size := below_size h.below
end
def noT : Th := ⟨fun _ _ => False, fun h => h.elim, fun h _ => h.elim⟩
theorem map_getD (L : List Th) : L = (List.range L.length).map (fun i => L.getD i noT) := by
  apply List.ext_getElem
  · simp
  · intro i h1 h2
    rw [List.getElem_map, List.getElem_range, List.getD_eq_getElem?_getD, List.getElem?_eq_getElem h1]
    rfl
theorem Sep.sel {w0 w : World} {L : List Th} (h : Sep w0 w L) (n : Nat) (idx : List Nat) (M : List Th) (hn : L.length = n) (hp : idx.Nodup ∧ ∀ i ∈ idx, i < n) (hM : idx.map (fun i => L.getD i noT) = M) : Sep w0 w M := by
  subst hn
  have h1 : (List.range L.length).Perm (idx ++ (List.range L.length).filter (fun i => decide (i ∉ idx))) := by
    rw [List.perm_ext_iff_of_nodup List.nodup_range (List.nodup_append.2 ⟨hp.1, List.nodup_range.filter _, fun a ha b hb e => by
      subst e
      have := (List.mem_filter.1 hb).2
      simp at this
      exact this ha⟩)]
    intro x
    rw [List.mem_append, List.mem_filter, List.mem_range]
    constructor
    · intro hx
      by_cases e : x ∈ idx
      · exact .inl e
      · exact .inr ⟨hx, by simpa using e⟩
    · rintro (e | ⟨e, _⟩)
      · exact hp.2 x e
      · exact e
  have h2 := h1.map (fun i => L.getD i noT)
  rw [← map_getD, List.map_append, hM] at h2
  obtain ⟨hb, hh⟩ := h.perm h2
  obtain ⟨U1, e1, e2, _⟩ := hh.split
  exact ⟨hb, e2.mono (fun b hb _ => e1 b hb)⟩
theorem same_lt {w w' : World} {b : Nat} (h : w'.heap[b]? = w.heap[b]?) (hb : b < w.heap.size) : b < w'.heap.size := by
  rw [Array.getElem?_eq_getElem hb] at h
  exact (Array.getElem?_eq_some_iff.1 h).1
def ownT {α : Type} (d : Kd α) (e : Nat) (v : Value) (xs : List α) : Th where
  P := fun w F => (∃ base, d.R e w base F v xs) ∧ ∀ b, F b → b < w.heap.size
  foot := fun h => h.2
  step := by
    rintro w w' F ⟨⟨base, h1⟩, h2⟩ h
    exact ⟨⟨base, Kd.R_step h1 (fun k hk _ => h k hk)⟩, fun b hb => same_lt (h b hb) (h2 b hb)⟩
def rowsT {α : Type} (d : Kd α) (e : Nat) (v : Value) (xs : List α) : Th where
  P := fun w F => (∃ base, Kd.S d e w base F v xs) ∧ ∀ b, F b → b < w.heap.size
  foot := fun h => h.2
  step := by
    rintro w w' F ⟨⟨base, h1⟩, h2⟩ h
    exact ⟨⟨base, Kd.S_step h1 (fun k hk _ => h k hk)⟩, fun b hb => same_lt (h b hb) (h2 b hb)⟩
def cellsT (g : Nat) (cs : Array Value) (e : Nat) : Th where
  P := fun w F => w.heap[g]? = some (.cells cs e (0, 0)) ∧ ∀ b, F b ↔ b = g
  foot := by
    rintro w F ⟨h1, h2⟩ b hb
    rw [(h2 b).1 hb]
    exact blk_lt h1
  step := by
    rintro w w' F ⟨h1, h2⟩ h
    exact ⟨(h g ((h2 g).2 rfl)).trans h1, h2⟩
section
variable {w0 w w' : World} {L : List Th} {α : Type} {d : Kd α} {e : Nat} {v : Value} {xs : List α}
theorem Sep.push_own {ok : Nat → Prop} (h : Sep w0 w L) (hr : d.R e w' w.heap.size ok v xs) (hb : Below w.heap.size w w') : Sep w0 w' (ownT d e v xs :: L) :=
  h.push (t := ownT d e v xs) hb (F := fun k => w.heap.size ≤ k ∧ k < w'.heap.size) ⟨⟨w.heap.size, Kd.R_mono (Kd.R_bound hr) (fun k hk => ⟨hk.2.1, hk.2.2.1⟩)⟩, fun b hb => hb.2⟩ (fun b hb => hb.1)
theorem Sep.push_nil (h : Sep w0 w L) (d : Kd α) (e : Nat) : Sep w0 w (ownT d e (.slice none 0 0) [] :: L) :=
  h.push (t := ownT d e _ _) (Below.refl _ _) (F := fun _ => False) ⟨⟨0, Kd.R_nil _ _ _ _ _⟩, fun _ h => h.elim⟩ (fun _ h => h.elim)
theorem Sep.own (h : Sep w0 w (ownT d e v xs :: L)) : ∃ base ok, d.R e w base ok v xs := by
  obtain ⟨F, ⟨⟨base, h1⟩, _⟩, _⟩ := h.get
  exact ⟨base, F, h1⟩
theorem Sep.rows (h : Sep w0 w (rowsT d e v xs :: L)) : ∃ base ok, Kd.S d e w base ok v xs := by
  obtain ⟨F, ⟨⟨base, h1⟩, _⟩, _⟩ := h.get
  exact ⟨base, F, h1⟩
theorem Sep.cells {g : Nat} {cs : Array Value} (h : Sep w0 w (cellsT g cs e :: L)) : w.heap[g]? = some (.cells cs e (0, 0)) ∧ w0.heap.size ≤ g := by
  obtain ⟨F, h1, h2⟩ := h.get
  exact ⟨h1.1, h2 g ((h1.2 g).2 rfl)⟩
end
theorem Sep.open_own {w0 w : World} {L : List Th} {α : Type} {d : Kd α} {e : Nat} {v : Value} {xs : List α} (h : Sep w0 w (ownT d e v xs :: L)) : ∃ ok : Nat → Prop, (∀ k, w.heap.size ≤ k → ok k) ∧ d.R e w 0 ok v xs ∧
    ∀ (v1 : Value) (ys : List α) (w' : World), d.R e w' 0 ok v1 ys → w.grownBy w' v.ownBlock → Sep w0 w' (ownT d e v1 ys :: L) := by
  obtain ⟨F, ⟨⟨base, h1⟩, h2⟩, h3, h4⟩ := h.open1
  refine ⟨fun k => F k ∨ w.heap.size ≤ k, fun k hk => .inr hk, Kd.R_mono (Kd.R_lower h1 (Nat.zero_le _)) (fun _ hk => .inl hk), fun v1 ys w' hr hg => ?_⟩
  exact h4 (ownT d e v1 ys) w' (fun k => (F k ∨ w.heap.size ≤ k) ∧ k < w'.heap.size) ⟨⟨0, Kd.R_mono (Kd.R_bound hr) (fun k hk => ⟨hk.1, hk.2.2.1⟩)⟩, fun b hb => hb.2⟩ (fun b hb => hb.1) (Chg.of_grown hg (fun k hk => h1.1 k hk))
theorem Sep.put {α : Type} {enc : α → Value} {h1 : ∀ x, (enc x).oneCell' = true} {w0 w : World} {L : List Th} {e g n cap : Nat} {xs : List α} (h : Sep w0 w (ownT (Kd.scalar enc h1) e (.slice (some ⟨g, 0, none⟩) n cap) xs :: L)) (i : Nat) (x : α) :
    Sep w0 (w.setCell ⟨g, i, none⟩ (enc x)) (ownT (Kd.scalar enc h1) e (.slice (some ⟨g, 0, none⟩) n cap) (xs.set i x) :: L) := by
  obtain ⟨F, ⟨⟨base, h2⟩, h3⟩, h4, h5⟩ := h.open1
  refine h5 (ownT _ e _ _) _ F ⟨⟨base, ?_⟩, fun b hb => by simpa [World.setCell] using h3 b hb⟩ (fun b hb => .inl hb) ((Chg.refl F w).setCell (h2.1 g rfl) i _)
  have h6 := Kd.R_putn h2 (i : Int) x
  rwa [Int.toNat_natCast] at h6
theorem Sep.cell {α : Type} {enc : α → Value} {h1 : ∀ x, (enc x).oneCell' = true} {w0 w : World} {L : List Th} {e g n cap : Nat} {xs : List α} (dflt : α) (h : Sep w0 w (ownT (Kd.scalar enc h1) e (.slice (some ⟨g, 0, none⟩) n cap) xs :: L)) (i : Nat) (hi : i < n) :
    w.cell? ⟨g, i, none⟩ = some (enc (xs.getD i dflt)) ∧ w.frozen? ⟨g, i, none⟩ = false := by
  obtain ⟨base, ok, h2⟩ := h.own
  have h3 := Kd.R_celln dflt h2 (i : Int) (by omega) (by omega)
  rw [Int.toNat_natCast] at h3
  exact h3
section
variable {w0 w : World} {L : List Th} {bw n cw : Nat} {l : List (List Int)}
end
end Go.Proofs.YtaflofcnjakaaaaDoor.M

namespace Go.Proofs.YtaflofcnjakaaaaDoor.M
open Go.RowKit Go.Maps Go.Proofs.YtaflofcnjakaaaaDoorW.PrintWords Go.Proofs.YtaflofcnjakaaaaDoorW.PrintLast Go.Proofs.YtaflofcnjakaaaaDoorW.PrintMore
set_option linter.unusedVariables false
set_option linter.unusedSimpArgs false
def DS.keysN (s : DS) : List Nat := (List.range s.n).filter (fun i => decide (s.W i ≠ []))
section
variable {w w' : World} {base g lb cp mb k : Nat} {F G : Nat → Prop} {s : DS} {f : Nat → Value} {D : DataW Value}
end
end Go.Proofs.YtaflofcnjakaaaaDoor.M

namespace Go.Proofs.YtaflofcnjakaaaaDoor.M
open Go.RowKit Go.Maps Go.Proofs.YtaflofcnjakaaaaDoorW.PrintWords Go.Proofs.YtaflofcnjakaaaaDoorW.PrintLast Go.Proofs.YtaflofcnjakaaaaDoorW.PrintMore
attribute [local go_sem] max2_int min2_int max_two min_two max_three min_three max_four min_four
set_option linter.unusedVariables false
set_option linter.unusedSimpArgs false
theorem read_at (g i : Nat) (w : World) (base : Nat) (F : Nat → Prop) (s : DS) (h : DkAt w base g F s) (hi : i < s.n) :
    Calls Tryd.prog 52 #[.pointer (some ⟨g, 0, none⟩), .int .i64 (i : Int)] w fun e w' => ∃ v, e = .returned (.tuple #[v, .int .i64 0]) ∧ Kd.R (Kd.int .u8) 5 w' w.heap.size (fun _ => True) v (s.cur i) ∧ DkAt w' base g F s.reads ∧ Chg F w w' := by
  obtain ⟨lb, cp, mb, f, k, D, h1, h2⟩ := h
  refine (read_in g i w base lb cp mb k f D s h1 hi).mono ?_
  rintro e w' ⟨v, he, hr, hd, hc⟩
  exact ⟨v, he, hr, ⟨lb, cp, mb, f, k, D, hd, h2⟩, hc.mono (fun x hx => (h2 x).2 (.inl hx))⟩
theorem write_at (g i : Nat) (A : Option Addr) (c : Nat) (b : List Int) (w : World) (base : Nat) (F : Nat → Prop) (s : DS) (h : DkAt w base g F s) (hi : i < s.n) (hC : (Kd.int .u8).C w A 512 b) (hne : ∀ ad, A = some ad → ¬ F ad.block) (hc : s.c < 1073741824) :
    Calls Tryd.prog 25 #[.pointer (some ⟨g, 0, none⟩), .int .i64 (i : Int), .slice A 512 c] w fun e w' => e = .returned (.int .i64 0) ∧ ∃ F', DkAt w' base g F' (s.put i b) ∧ (∀ b, F' b → F b ∨ w.heap.size ≤ b) ∧ Chg F w w' := by
  obtain ⟨lb, cp, mb, f, k, D, h1, h2⟩ := h
  refine (write_in g i A c b w base lb cp mb k f D s h1 hi hC (fun ad e hf => hne ad e ((h2 _).2 hf)) hc).mono ?_
  rintro e w' ⟨he, F', hd, hF, hch⟩
  exact ⟨he, F', hd, fun b hb => (hF b hb).imp (fun h => (h2 b).2 h) id, hch.mono (fun x hx => (h2 x).2 hx)⟩
theorem flush_at (g : Nat) (w : World) (base : Nat) (F : Nat → Prop) (s : DS) (h : DkAt w base g F s) :
    Calls Tryd.prog 27 #[.pointer (some ⟨g, 0, none⟩)] w fun e w' => (∃ v, e = .returned v) ∧ ∃ F', DkAt w' base g F' s.flush ∧ (∀ b, F' b → F b) ∧ Chg F w w' := by
  obtain ⟨lb, cp, mb, f, k, D, h1, h2⟩ := h
  refine (flush_in g w base lb cp mb k f D s h1).mono ?_
  rintro e w' ⟨he, hd, hch⟩
  refine ⟨he, _, ⟨lb, cp, mb, _, 0, _, hd, fun b => Iff.rfl⟩, ?_, hch.mono (fun x hx => (h2 x).2 (by rcases hx with h | h | h; exact .inl h; exact .inr (.inl h); exact .inr (.inr (.inl h))))⟩
  rintro b (h | h | h | ⟨i, hi, h⟩)
  · exact (h2 b).2 (.inl h)
  · exact (h2 b).2 (.inr (.inl h))
  · exact (h2 b).2 (.inr (.inr (.inl h)))
  · cases h
end Go.Proofs.YtaflofcnjakaaaaDoor.M

namespace Go.Proofs.YtaflofcnjakaaaaDoor.M
open Go.RowKit Go.Maps Go.Proofs.YtaflofcnjakaaaaDoorW.PrintWords Go.Proofs.YtaflofcnjakaaaaDoorW.PrintLast Go.Proofs.YtaflofcnjakaaaaDoorW.PrintMore
open Go.ChangeMaps (setBlock)
attribute [local go_sem] max2_int min2_int max_two min_two
set_option linter.unusedVariables false
set_option linter.unusedSimpArgs false
def crashL (s : DS) (fs : List Int) : Nat → List (List Int)
  | 0 => s.L
  | j + 1 => if 1 ≤ fs.getD j 0 then (crashL s fs j).set (s.keysN.getD j 0) ((s.W (s.keysN.getD j 0)).getD ((min (fs.getD j 0) ((s.W (s.keysN.getD j 0)).length : Int)).toNat - 1) []) else crashL s fs j
def DS.half (s : DS) (fs : List Int) (j : Nat) : DS := ⟨s.n, crashL s fs j, s.W, s.c, s.r, s.wr, s.fl⟩
end Go.Proofs.YtaflofcnjakaaaaDoor.M

namespace Go.Proofs.YtaflofcnjakaaaaDoor.M
open Go.RowKit Go.Maps Go.Proofs.YtaflofcnjakaaaaDoorW.PrintWords Go.Proofs.YtaflofcnjakaaaaDoorW.PrintLast Go.Proofs.YtaflofcnjakaaaaDoorW.PrintMore
set_option linter.unusedVariables false
set_option linter.unusedSimpArgs false
theorem DkIn.move {w w' : World} {base g lb cp mb k : Nat} {s : DS} {f : Nat → Value} {D : DataW Value} (h : DkIn w base g s lb cp mb f k D) (hm : ∀ b, Fp g lb mb f s.n b → w'.heap[b]? = w.heap[b]?) : DkIn w' base g s lb cp mb f k D := by
  refine ⟨(hm g (.inl rfl)).trans h.hd, h.la.step (fun b hb _ => hm b (.inr (.inl (Option.some.inj hb).symm))), ?_, h.kc, h.at_, h.ks, fun i hi => (h.rows i hi).step (fun b hb _ => hm b (.inr (.inr (.inr ⟨i, hi, hb⟩)))), h.wl, h.sep, h.sepl, h.gb, h.mbb, h.n2, h.nm⟩
  obtain ⟨es, ck, hb, r⟩ := h.mp
  exact ⟨es, ck, (hm mb (.inr (.inr (.inl rfl)))).trans hb, r⟩
def dkT (g : Nat) (s : DS) : Th where
  P := fun w F => ∃ base, DkAt w base g F s
  foot := by
    rintro w F ⟨base, h⟩ b hb
    exact (h.foot b hb).2
  step := by
    rintro w w' F ⟨base, lb, cp, mb, f, k, D, h1, h2⟩ h
    exact ⟨base, lb, cp, mb, f, k, D, h1.move (fun b hb => h b ((h2 b).2 hb)), h2⟩
section
variable {w0 w : World} {L : List Th} {g : Nat} {s : DS}
theorem Sep.read (h : Sep w0 w (dkT g s :: L)) (i : Nat) (hi : i < s.n) :
    Calls Tryd.prog 52 #[.pointer (some ⟨g, 0, none⟩), .int .i64 (i : Int)] w fun e w' => ∃ v, e = .returned (.tuple #[v, .int .i64 0]) ∧ Sep w0 w' (ownT (Kd.int .u8) 5 v (s.cur i) :: dkT g s.reads :: L) := by
  obtain ⟨F, ⟨base, h1⟩, h2, h3⟩ := h.open_
  refine (read_at g i w base F s h1 hi).mono ?_
  rintro e w' ⟨v, he, hr, hd, hc⟩
  refine ⟨v, he, h3 [ownT (Kd.int .u8) 5 v (s.cur i), dkT g s.reads] w' ⟨fun k => w.heap.size ≤ k ∧ k < w'.heap.size, ⟨⟨w.heap.size, Kd.R_mono (Kd.R_bound hr) (fun k hk => ⟨hk.2.1, hk.2.2.1⟩)⟩, fun b hb => hb.2⟩, fun b hb => .inr hb.1, F, ⟨base, hd⟩, fun b hb => ⟨.inl hb, fun hx => Nat.not_lt.2 hx.1 (h1.foot b hb).2⟩, trivial⟩ hc⟩
theorem Sep.flush (h : Sep w0 w (dkT g s :: L)) :
    Calls Tryd.prog 27 #[.pointer (some ⟨g, 0, none⟩)] w fun e w' => (∃ v, e = .returned v) ∧ Sep w0 w' (dkT g s.flush :: L) := by
  obtain ⟨F, ⟨base, h1⟩, h2, h3⟩ := h.open1
  refine (flush_at g w base F s h1).mono ?_
  rintro e w' ⟨he, F', hd, hF, hc⟩
  exact ⟨he, h3 (dkT g s.flush) w' F' ⟨base, hd⟩ (fun b hb => .inl (hF b hb)) hc⟩
theorem Sep.write_own (v : Value) (b : List Int) (h : Sep w0 w (ownT (Kd.int .u8) 5 v b :: dkT g s :: L)) (i : Nat) (hi : i < s.n) (hc : s.c < 1073741824) (hb : b.length = 512) :
    Calls Tryd.prog 25 #[.pointer (some ⟨g, 0, none⟩), .int .i64 (i : Int), v] w fun e w' => e = .returned (.int .i64 0) ∧ Sep w0 w' (ownT (Kd.int .u8) 5 v b :: dkT g (s.put i b) :: L) := by
  obtain ⟨base0, ok, hr⟩ := h.own
  obtain ⟨A, c, rfl⟩ := Kd.R_slice hr
  rw [hb]
  have hC := (Kd.R_reads' hr).2.2
  rw [hb] at hC
  obtain ⟨G, ⟨hG1, hG2⟩, hG3, hG4⟩ := h.open_
  obtain ⟨U, ⟨F0, h1, h2, F, ⟨base, h4⟩, h5, _⟩, h6, h7⟩ := Sep.split (M := [ownT (Kd.int .u8) 5 (.slice A b.length c) b, dkT g s]) h
  refine (write_at g i A c b w base F s h4 hi hC (fun ad e hF => ?_) hc).mono ?_
  · obtain ⟨⟨b2, hr2⟩, _⟩ := h1
    obtain ⟨g2, c2, e2, _⟩ := Kd.R_form hr2 (by omega)
    rw [e] at e2
    injection e2 with e2
    cases e2
    exact (h5 _ hF).2 (hr2.1 _ (by rw [e]; rfl))
  · rintro e w' ⟨he, F', hd, hF, hch⟩
    rw [← hb]
    refine ⟨he, h7 [ownT (Kd.int .u8) 5 (.slice A b.length c) b, dkT g (s.put i b)] w' ⟨F0, Th.step _ h1 (fun x hx => hch.block x (Th.foot _ h1 x hx) (fun hF => (h5 x hF).2 hx)), fun x hx => .inl (h2 x hx), F', ⟨base, hd⟩, fun x hx => ?_, trivial⟩ (hch.mono (fun x hx => (h5 x hx).1))⟩
    rcases hF x hx with hx1 | hx1
    · exact ⟨.inl (h5 x hx1).1, (h5 x hx1).2⟩
    · exact ⟨.inr hx1, fun hx2 => Nat.not_lt.2 hx1 (Th.foot _ h1 x hx2)⟩
end
theorem Sep.new {w0 w : World} {L : List Th} (h : Sep w0 w L) (n : Nat) (h2 : 2 ≤ n) (hm : n ≤ 65536) :
    Calls Tryd.prog 15 #[.int .i64 (n : Int)] w fun e w' => ∃ g, e = .returned (.tuple #[.pointer (some ⟨g, 0, none⟩), .int .i64 0]) ∧ Sep w0 w' (dkT g (DS.fresh n (List.replicate n zeros)) :: L) := by
  refine (new_calls n w h2 hm).mono ?_
  rintro e w' ⟨g, F, he, hd, hb⟩
  exact ⟨g, he, h.push (t := dkT g _) hb (F := F) ⟨_, hd⟩ (fun b hb => (hd.foot b hb).1)⟩
end Go.Proofs.YtaflofcnjakaaaaDoor.M

namespace Go.Proofs.YtaflofcnjakaaaaDoor.M
open Go.RowKit Go.Maps Go.Proofs.YtaflofcnjakaaaaDoorW.PrintWords Go.Proofs.YtaflofcnjakaaaaDoorW.PrintLast Go.Proofs.YtaflofcnjakaaaaDoorW.PrintMore
set_option linter.unusedVariables false
set_option linter.unusedSimpArgs false
set_option maxHeartbeats 1000000 in
theorem sectors_at (g : Nat) (w : World) (base : Nat) (F : Nat → Prop) (s : DS) (h : DkAt w base g F s) :
    Calls Tryd.prog 47 #[.pointer (some ⟨g, 0, none⟩)] w fun e w' => e = .returned (.int .i64 (s.n : Int)) ∧ w' = w := by
  obtain ⟨lb, cp, mb, f, k, D, h1, h2⟩ := h
  have hg0 : w.cell? ⟨g, 0, none⟩ = some (.slice (some ⟨lb, 0, none⟩) s.n cp) := blk_cell h1.hd 0
  clear h1 h2
  generalize s.n = n at *
  go_enter Tryd.func47, Tryd.ntmps47
  go_wp2
  go_ret
  exact ⟨rfl, rfl⟩
set_option maxHeartbeats 1000000 in
set_option maxRecDepth 100000 in
theorem acts_calls (g : Nat) (w : World) (a b : Value) (r wr fl : Int) (h : w.heap[g]? = some (.cells #[a, b, .int .i64 r, .int .i64 wr, .int .i64 fl] 100 (0, 0))) :
    Calls Tryd.prog 18 #[.pointer (some ⟨g, 0, none⟩)] w fun e w' => e = .returned (.agg #[.int .i64 r, .int .i64 wr, .int .i64 fl]) ∧ Below w.heap.size w w' := by
  have h2 : w.cell? ⟨g, 2, none⟩ = some (.int .i64 r) := blk_cell h 2
  have h3 : w.cell? ⟨g, 3, none⟩ = some (.int .i64 wr) := blk_cell h 3
  have h4 : w.cell? ⟨g, 4, none⟩ = some (.int .i64 fl) := blk_cell h 4
  have hlt : g < w.heap.size := blk_lt h
  clear h
  go_enter Tryd.func18, Tryd.ntmps18
  go_wp2
  exact bodyPost_ret (v := .agg #[.int .i64 r, .int .i64 wr, .int .i64 fl]) (by simp [results, Tryd.results18, go_sem]) rfl ⟨rfl, (Below.refl _ _).alloc (Nat.le_refl _) _⟩
section
variable {w : World} {base g lb cp mb k : Nat} {s : DS} {f : Nat → Value} {D : DataW Value}
end
section
variable {w0 w : World} {L : List Th} {g : Nat} {s : DS}
theorem Sep.acts (h : Sep w0 w (dkT g s :: L)) :
    Calls Tryd.prog 18 #[.pointer (some ⟨g, 0, none⟩)] w fun e w' => e = .returned (.agg #[.int .i64 s.r, .int .i64 s.wr, .int .i64 s.fl]) ∧ Sep w0 w' (dkT g s :: L) := by
  obtain ⟨F, ⟨base, lb, cp, mb, f, k, D, h1, hF⟩, h2⟩ := h.get
  refine (acts_calls g w _ _ _ _ _ h1.hd).mono ?_
  rintro e w' ⟨he, hb⟩
  exact ⟨he, h.step hb⟩
theorem Sep.sectors (h : Sep w0 w (dkT g s :: L)) :
    Calls Tryd.prog 47 #[.pointer (some ⟨g, 0, none⟩)] w fun e w' => e = .returned (.int .i64 (s.n : Int)) ∧ w' = w := by
  obtain ⟨F, ⟨base, h1⟩, h2⟩ := h.get
  exact sectors_at g w base F s h1
end
end Go.Proofs.YtaflofcnjakaaaaDoor.M

namespace Go.Proofs.YtaflofcnjakaaaaDoorW.PrintLast
open Go.RowKit
section
variable {P : Program} {ops : Array Oper} {Q : Exit → Act → World → Prop} {md : Region.Mode} {S S' : World → Prop} {ds ds' : List Nat}
end
end Go.Proofs.YtaflofcnjakaaaaDoorW.PrintLast
namespace Go.Proofs.YtaflofcnjakaaaaDoor.M
open Go.RowKit Go.Maps Go.Proofs.YtaflofcnjakaaaaDoorW.PrintWords Go.Proofs.YtaflofcnjakaaaaDoorW.PrintLast Go.Proofs.YtaflofcnjakaaaaDoorW.PrintMore
set_option linter.unusedVariables false
set_option linter.unusedSimpArgs false
section
variable {w0 w : World} {L : List Th}
theorem Sep.push_alloc (h : Sep w0 w L) (cs : Array Value) (e : Nat) : Sep w0 (w.alloc (.cells cs e)) (cellsT w.heap.size cs e :: L) :=
  h.push (t := cellsT w.heap.size cs e) (below_alloc (Below.refl _ _) _) (F := fun b => b = w.heap.size) ⟨blk_new w _, fun b => Iff.rfl⟩ (fun b hb => Nat.le_of_eq hb.symm)
theorem Sep.own_slice {α : Type} {d : Kd α} {e : Nat} {v : Value} {xs : List α} (h : Sep w0 w (ownT d e v xs :: L)) : ∃ A c, v = .slice A xs.length c := by
  obtain ⟨_, _, hr⟩ := h.own
  exact Kd.R_slice hr
theorem Sep.own_C {α : Type} {d : Kd α} {e : Nat} {A : Option Addr} {n c : Nat} {xs : List α} (h : Sep w0 w (ownT d e (.slice A n c) xs :: L)) : d.C w A xs.length xs ∧ xs.length ≤ c := by
  obtain ⟨_, _, hr⟩ := h.own
  obtain ⟨h1, h2, h3⟩ := Kd.R_reads' hr
  exact ⟨h3, h1 ▸ h2⟩
theorem Sep.sw12 {a b c : Th} (h : Sep w0 w (a :: b :: c :: L)) : Sep w0 w (a :: c :: b :: L) := h.perm (List.Perm.cons a (List.Perm.swap c b L))
theorem Sep.cset {w : World} {g e : Nat} {cs : Array Value} (h : Sep w0 w (cellsT g cs e :: L)) (i : Nat) (v : Value) : Sep w0 (w.setCell ⟨g, i, none⟩ v) (cellsT g (cs.setIfInBounds i v) e :: L) := by
  obtain ⟨F, ⟨h1, h2⟩, h3, h4⟩ := h.open1
  exact h4 (cellsT g _ e) _ F ⟨blk_set h1 i v, h2⟩ (fun b hb => .inl hb) ((Chg.refl F w).setCell ((h2 g).2 rfl) i v)
def Sub (L M : List Th) : Prop := ∃ N, M = N ++ L
theorem Sub.r (L : List Th) : Sub L L := ⟨[], rfl⟩
theorem Sub.c {L M : List Th} {a : Th} (h : Sub L M) : Sub L (a :: M) := by
  obtain ⟨N, rfl⟩ := h
  exact ⟨a :: N, rfl⟩
theorem Sub.sep {w : World} {L M : List Th} (h : Sub L M) (hs : Sep w0 w M) : Sep w0 w L := by
  obtain ⟨N, rfl⟩ := h
  exact ⟨hs.below, (hs.hold.split.choose_spec.2.2).mono (fun b hb _ => hb.1)⟩
end
end Go.Proofs.YtaflofcnjakaaaaDoor.M

namespace Go.Proofs.YtaflofcnjakaaaaDoor.M
open Go.RowKit Go.Maps Go.Proofs.YtaflofcnjakaaaaDoorW.PrintWords Go.Proofs.YtaflofcnjakaaaaDoorW.PrintLast Go.Proofs.YtaflofcnjakaaaaDoorW.PrintMore Go.Proofs.YtaflofcnjakaaaaDoor.Wr
set_option linter.unusedVariables false
set_option linter.unusedSimpArgs false
section
variable {P : Program} {ops : Array Oper} {rest : List Oper} {o : Oper} {a : Act} {w : World} {Q : Exit → Act → World → Prop}
theorem run_ld (ad : Addr) (ty : TypeId) (cs : Array Value) (d : TypeDesc) (hc : ∀ j v, cs.toList[j]? = some v → w.cell? (ad.add j) = some v)
    (hu : P.underlying ty = some d) (hd : (match d with | .struct _ | .array _ _ => true | _ => false) = true) (hi : (P.info? ty).map (·.size) = some cs.size) :
    (loadVar ty ad).run P w = .ok (.agg cs) w := by
  have hl : (loadCells ad cs.toList.length).run P w = .ok cs.toList.toArray w := run_loadCells_list (P := P) (w := w) ad cs.toList hc
  cases hq : P.info? ty with
  | none => simp [hq] at hi
  | some i =>
    have hs : i.size = cs.size := by simpa [hq] using hi
    have hagg : (isAgg ty).run P w = .ok true w := by
      unfold isAgg
      rw [Sem.run_bind, run_underlying hu w]
      cases d <;> simp_all
    simp only [Array.length_toList, Array.toArray_toList] at hl
    simp [loadVar, Sem.run_bind, hagg, sizeOf, typeInfo, hq, hs, hl]
theorem gate_load {ty : TypeId} {x : Operand} (_ho : o.op = .load ty x) (h : wpList P ops Q (o :: rest) a w) : wpList P ops Q (o :: rest) a w := h
theorem gate_store {ty : TypeId} {x y : Operand} (_ho : o.op = .store ty x y) (h : wpList P ops Q (o :: rest) a w) : wpList P ops Q (o :: rest) a w := h
theorem wpList_ldw (hw : Region.wanted o (yielded ops a.tmps) = true) (ty : TypeId) (x : Operand) (ho : o.op = .load ty x) (ad : Addr) (hx : a.eval x = .pointer (some ad)) (cs : Array Value) (d : TypeDesc)
    (hc : ∀ j v, cs.toList[j]? = some v → w.cell? (ad.add j) = some v) (hu : P.underlying ty = some d) (hd : (match d with | .struct _ | .array _ _ => true | _ => false) = true) (hi : (P.info? ty).map (·.size) = some cs.size)
    (h : wpList P ops Q rest (a.put o.dst (.agg cs)) w) : wpList P ops Q (o :: rest) a w :=
  wpList_step fun K hK => by
    rw [if_pos hw]
    unfold Oper.wp execOp
    simp only [ho, hx, Instr.loadAt, Instr.sureAddr, Sem.run_bind, Sem.run_pure, Result.andThen_ok, run_ld ad ty cs d hc hu hd hi]
    exact hK _ _ h
end
theorem seg_at {w : World} {g ty : Nat} {cs : List Value} (h : w.heap[g]? = some (.cells cs.toArray ty (0, 0))) (o : Nat) (ys : List Value) (hs : (cs.drop o).take ys.length = ys) : ∀ j v, ys[j]? = some v → w.cell? ((⟨g, o, none⟩ : Addr).add j) = some v := by
  intro j v hv
  have e : (⟨g, o, none⟩ : Addr).add j = ⟨g, o + j, none⟩ := by
    unfold Addr.add
    split <;> simp_all
  rw [e, blk_cell h]
  have hj : j < ys.length := (List.getElem?_eq_some_iff.1 hv).1
  rw [← hs, List.getElem?_take, if_pos hj, List.getElem?_drop] at hv
  simpa using hv
theorem C_seg {w : World} {g ty : Nat} {cs : List Value} (h : w.heap[g]? = some (.cells cs.toArray ty (0, 0))) (o : Nat) (ys : List Int) (hs : (cs.drop o).take ys.length = nums .u8 ys) (hl : ys.length ≤ 9223372036854775807) : (Kd.int .u8).C w (some ⟨g, o, none⟩) ys.length ys :=
  ⟨rfl, hl, fun _ => ⟨_, rfl, fun j p hp => ⟨[.int .u8 p], rfl, rfl, fun i u hu => by
    obtain rfl : i = 0 := by
      have := (List.getElem?_eq_some_iff.1 hu).1
      simp at this
      exact this
    cases hu
    have h1 := seg_at h o (nums .u8 ys) (by rw [nums_length]; exact hs) j (.int .u8 p) (by unfold nums; rw [List.getElem?_map, hp]; rfl)
    rw [show j * (Kd.int .u8).sz + 0 = j from Nat.mul_one j]
    exact h1⟩⟩⟩
theorem C_segn {w : World} {g ty : Nat} {cs : List Value} (h : w.heap[g]? = some (.cells cs.toArray ty (0, 0))) (o : Nat) (ys : List Int) (n : Nat) (hn : ys.length = n) (hs : (cs.drop o).take n = nums .u8 ys) (hl : n ≤ 9223372036854775807) : (Kd.int .u8).C w (some ⟨g, o, none⟩) n ys := by
  subst hn
  exact C_seg h o ys hs hl
theorem C_one (w : World) (y : Int) : (Kd.int .u8).C (w.alloc (.cells #[.int .u8 y] 5)) (some ⟨w.heap.size, 0, none⟩) 1 [y] :=
  C_seg (w := w.alloc _) (g := w.heap.size) (cs := [.int .u8 y]) (heap_alloc_new w _) 0 [y] rfl (show 1 ≤ 9223372036854775807 by decide)
theorem nums_ones (ys : List Int) : ∀ v ∈ nums .u8 ys, v.oneCell' = true := by
  intro v hv
  obtain ⟨x, _, rfl⟩ := List.mem_map.1 hv
  rfl
section
variable {ops : Array Oper} {rest : List Oper} {o : Oper} {a : Act} {Q : Exit → Act → World → Prop} {w0 W : World} {L : List Th}
theorem info_u8 : (Tryd.prog.info? 5).map (fun i => (i.zero, i.size, i.bytes)) = some (some (.int .u8 0), 1, 1) := by kernel_rfl
theorem Sep.app_row (hgd : o.guard = none) (s x : Operand) (ho : o.op = .call { callee := .builtin .append, args := #[s, x], argTypes := #[28, 28] })
    {v : Value} {xs : List Int} (ys : List Int) {A : Option Addr} {m c : Nat} (hs : a.eval s = v) (hx : a.eval x = .slice A m c) (h : Sep w0 W (ownT (Kd.int .u8) 5 v xs :: L)) (HR : (Kd.int .u8).C W A m ys) (hl : xs.length + m ≤ 140737488355328)
    (hk : ∀ v1 w1, Sep w0 w1 (ownT (Kd.int .u8) 5 v1 (xs ++ ys) :: L) → wpList Tryd.prog ops Q rest (a.put o.dst v1) w1) : wpList Tryd.prog ops Q (o :: rest) a W := by
  obtain ⟨ok, hfresh, hr, back⟩ := h.open_own
  refine Kd.R_append_row (w0 := W) (Value.int .u8) (0 : Int) (h1 := fun _ => rfl) 0 hgd s x 28 5 (.int .u8 0) 1 ho Tryd.underlying28 info_u8 rfl (by decide) v xs ys A m c ok hs hx hfresh hr HR (Below.refl _ _) (Nat.zero_le _) (by omega) ?_
  intro v1 w1 hown _ hg _
  exact hk v1 w1 (back v1 (xs ++ ys) w1 hown hg)
theorem Sep.app_own (hgd : o.guard = none) (s x : Operand) (ho : o.op = .call { callee := .builtin .append, args := #[s, x], argTypes := #[28, 28] })
    {v u : Value} {xs ys : List Int} (hs : a.eval s = v) (hx : a.eval x = u) (h : Sep w0 W (ownT (Kd.int .u8) 5 v xs :: ownT (Kd.int .u8) 5 u ys :: L)) (hl : xs.length + ys.length ≤ 140737488355328)
    (hk : ∀ v1 w1, Sep w0 w1 (ownT (Kd.int .u8) 5 v1 (xs ++ ys) :: ownT (Kd.int .u8) 5 u ys :: L) → wpList Tryd.prog ops Q rest (a.put o.dst v1) w1) : wpList Tryd.prog ops Q (o :: rest) a W := by
  obtain ⟨A, c, e⟩ := h.up1.own_slice
  subst e
  exact Sep.app_row hgd s x ho ys hs hx h h.up1.own_C.1 hl hk
theorem Sep.app_one (hgd : o.guard = none) (s x : Operand) (ho : o.op = .call { callee := .builtin .append, args := #[s, x], argTypes := #[28, 28] })
    {v : Value} {xs : List Int} (y : Int) {c : Nat} (hs : a.eval s = v) (hx : a.eval x = .slice (some ⟨W.heap.size, 0, none⟩) 1 c) (h : Sep w0 W (ownT (Kd.int .u8) 5 v xs :: L)) (hl : xs.length + 1 ≤ 140737488355328)
    (hk : ∀ v1 w1, Sep w0 w1 (ownT (Kd.int .u8) 5 v1 (xs ++ [y]) :: L) → wpList Tryd.prog ops Q rest (a.put o.dst v1) w1) : wpList Tryd.prog ops Q (o :: rest) a (W.alloc (.cells #[.int .u8 y] 5)) :=
  Sep.app_row hgd s x ho [y] hs hx (h.step (below_alloc (Below.refl _ _) _)) (C_one W y) hl hk
end
section
variable {ops : Array Oper} {rest : List Oper} {o : Oper} {a : Act} {Q : Exit → Act → World → Prop} {w0 W : World} {L : List Th}
theorem C_cells {w : World} {ad : Addr} {n : Nat} {ys : List Int} (h : (Kd.int .u8).C w (some ad) n ys) : ∀ j v, (nums .u8 ys)[j]? = some v → w.cell? (ad.add j) = some v := by
  intro j v hv
  unfold nums at hv
  rw [List.getElem?_map] at hv
  obtain ⟨p, hp, rfl⟩ := Option.map_eq_some_iff.1 hv
  have hn : 0 < n := by
    have := (List.getElem?_eq_some_iff.1 hp).1
    have := h.1
    omega
  obtain ⟨ad', e, hcell⟩ := h.2.2 hn
  cases e
  obtain ⟨cc, hcl, hck, hcc⟩ := hcell j p hp
  have hce : cc = [.int .u8 p] := hck
  subst hce
  have := hcc 0 _ rfl
  rwa [show j * (Kd.int .u8).sz + 0 = j from Nat.mul_one j] at this
theorem Sep.app_grow (hgd : o.guard = none) (s x : Operand) (ho : o.op = .call { callee := .builtin .append, args := #[s, x], argTypes := #[28, 28] })
    {ad0 : Addr} {n : Nat} {xs ys : List Int} {u : Value} (hs : a.eval s = .slice (some ad0) n n) (hx : a.eval x = u) (hC : (Kd.int .u8).C W (some ad0) n xs) (h : Sep w0 W (ownT (Kd.int .u8) 5 u ys :: L)) (hp : 0 < ys.length) (hl : n + ys.length ≤ 140737488355328)
    (hk : ∀ v1 w1, Sep w0 w1 (ownT (Kd.int .u8) 5 v1 (xs ++ ys) :: ownT (Kd.int .u8) 5 u ys :: L) → wpList Tryd.prog ops Q rest (a.put o.dst v1) w1) : wpList Tryd.prog ops Q (o :: rest) a W := by
  obtain ⟨A, c, e⟩ := h.own_slice
  subst e
  have hC2 := h.own_C.1
  obtain ⟨ad, rfl, _⟩ := hC2.2.2 hp
  obtain ⟨i0, hi, hz0, hz1, hz2⟩ := info_parts info_u8
  have hxl : xs.length = n := hC.1
  refine wpList_append_grows W hgd s x 28 ho 5 i0 (.int .u8 0) 1 1 Tryd.underlying28 hi hz0 hz1 hz2 rfl (by decide) (some ad0) n n (nums .u8 xs) hs (fun e => by cases e) (by rw [nums_length, Nat.mul_one, hxl]) (fun b e j u hj => by cases e; exact C_cells hC j u hj) ad ys.length c (nums .u8 ys) hx (by rw [nums_length, Nat.mul_one]) (C_cells hC2) (nums_ones ys) (by omega) (by unfold maxLen; omega) (by omega) ?_
  intro v1 w1 hown hg
  have hb : Below W.heap.size W w1 := ⟨hg.os, hg.tape, hg.output, hg.size, fun i hi => hg.block i hi (by simp)⟩
  refine hk v1 w1 (h.push_own (ok := fun _ => True) (Kd.R_of_own (enc := Value.int .u8) (h1 := fun _ => rfl) ?_ (fun _ _ => trivial)) hb)
  rw [List.length_append, hxl]
  have e1 : encs (Value.int .u8) (xs ++ ys) = nums .u8 xs ++ nums .u8 ys := by unfold encs nums; rw [List.map_append]
  rw [e1]
  exact hown
end
def blkT (g : Nat) (o : Obj) : Th where
  P := fun w F => w.heap[g]? = some o ∧ ∀ b, F b ↔ b = g
  foot := by
    rintro w F ⟨h1, h2⟩ b hb
    rw [(h2 b).1 hb]
    exact blk_lt h1
  step := by
    rintro w w' F ⟨h1, h2⟩ h
    exact ⟨(h g ((h2 g).2 rfl)).trans h1, h2⟩
theorem Sep.push_obj {w0 w : World} {L : List Th} (h : Sep w0 w L) (o : Obj) : Sep w0 (w.alloc o) (blkT w.heap.size o :: L) :=
  h.push (t := blkT w.heap.size o) (below_alloc (Below.refl _ _) _) (F := fun b => b = w.heap.size) ⟨heap_alloc_new w o, fun b => Iff.rfl⟩ (fun b hb => Nat.le_of_eq hb.symm)
theorem Sep.blk {w0 w : World} {L : List Th} {g : Nat} {o : Obj} (h : Sep w0 w (blkT g o :: L)) : w.heap[g]? = some o := by
  obtain ⟨F, h1, _⟩ := h.get
  exact h1.1
theorem C_const {w : World} {g ty n : Nat} {fr : Nat × Nat} {ys : List Int} (h : w.heap[g]? = some (.cells (nums .u8 ys).toArray ty fr)) (hn : ys.length = n) (hl : n ≤ 9223372036854775807) : (Kd.int .u8).C w (some ⟨g, 0, none⟩) n ys :=
  ⟨hn, hl, fun _ => ⟨_, rfl, fun j p hp => ⟨[.int .u8 p], rfl, rfl, fun i u hu => by
    obtain rfl : i = 0 := by
      have := (List.getElem?_eq_some_iff.1 hu).1
      simp at this
      exact this
    cases hu
    rw [show j * (Kd.int .u8).sz + 0 = j from Nat.mul_one j, add_plain, cell_of_row w g j _ ty fr h]
    unfold nums
    simp [hp]⟩⟩⟩
section
variable {w0 w : World} {L : List Th}
theorem Sep.setRow {g e : Nat} {cs : Array Value} (h : Sep w0 w (cellsT g cs e :: L)) (cs' : Array Value) : Sep w0 (w.setRow g cs') (cellsT g cs' e :: L) := by
  obtain ⟨F, ⟨h1, h2⟩, h3, h4⟩ := h.open1
  exact h4 (cellsT g cs' e) _ F ⟨setRow_heap w g _ _ _ _ h1, h2⟩ (fun b hb => .inl hb) ⟨rfl, rfl, rfl, by rw [setRow_size]; exact Nat.le_refl _, fun b hb hn => setRow_other w g b cs' (fun e => hn ((h2 b).2 e))⟩
theorem nums_splice (ys xs : List Int) (off : Nat) : ((nums .u8 ys).take off ++ (nums .u8 xs ++ (nums .u8 ys).drop (off + (nums .u8 xs).length))) = nums .u8 (splice ys off xs) := by
  unfold splice nums
  rw [List.length_map, List.map_append, List.map_append, List.map_take, List.map_drop]
theorem size_u8 : (Tryd.prog.info? 5).map (·.size) = some 1 := by kernel_rfl
variable {ops : Array Oper} {rest : List Oper} {o : Oper} {a : Act} {K : Act → World → Prop} {Q : Exit → Act → World → Prop}
theorem Sep.copy_wp (d s : Operand) (ho : o.op = .call { callee := .builtin .copy, args := #[d, s], argTypes := #[28, 28] })
    {g ty off dLen dCap : Nat} {ys xs : List Int} {u : Value} (hd : a.eval d = .slice (some ⟨g, off, none⟩) dLen dCap) (hs : a.eval s = u)
    (h : Sep w0 w (cellsT g (nums .u8 ys).toArray ty :: ownT (Kd.int .u8) 5 u xs :: L)) (hx : 0 < xs.length) (hle : xs.length ≤ dLen) (hfit : off + xs.length ≤ ys.length)
    (hK : ∀ w1, Sep w0 w1 (cellsT g (nums .u8 (splice ys off xs)).toArray ty :: ownT (Kd.int .u8) 5 u xs :: L) → K (a.put o.dst (goInt xs.length)) w1) : o.wp Tryd.prog a w K Q := by
  obtain ⟨A, c, e⟩ := h.up1.own_slice
  subst e
  have hC := h.up1.own_C.1
  obtain ⟨ad, rfl, hcell⟩ := hC.2.2 hx
  have hrun := run_copy_row (P := Tryd.prog) w 28 28 o.type 5 g off dLen dCap ad xs.length c (nums .u8 ys).toArray ty (nums .u8 xs) Tryd.underlying28 size_u8 h.cells.1 (by rw [nums_length]; exact (Nat.min_eq_left hle).symm) (fun j v hv => by
    unfold nums at hv
    rw [List.getElem?_map] at hv
    obtain ⟨p, hp, rfl⟩ := Option.map_eq_some_iff.1 hv
    obtain ⟨cc, hcl, hck, hcc⟩ := hcell j p hp
    have hce : cc = [.int .u8 p] := hck
    subst hce
    have := hcc 0 _ rfl
    rwa [show j * (Kd.int .u8).sz + 0 = j from Nat.mul_one j] at this) (by simpa [nums_length] using hfit) (nums_ones xs)
  have h2 := hK _ (h.setRow (nums .u8 (splice ys off xs)).toArray)
  unfold Oper.wp
  simp [execOp, ho, resolve, invoke, builtin, hd, hs, hrun, Result.andThen]
  have e2 := nums_splice ys xs off
  rw [nums_length] at e2
  simp only [nums_length] at h2 ⊢
  rw [e2]
  exact h2
theorem Sep.copy_own (hgd : o.guard = none) (d s : Operand) (ho : o.op = .call { callee := .builtin .copy, args := #[d, s], argTypes := #[28, 28] })
    {g ty off dLen dCap : Nat} {ys xs : List Int} {u : Value} (hd : a.eval d = .slice (some ⟨g, off, none⟩) dLen dCap) (hs : a.eval s = u)
    (h : Sep w0 w (cellsT g (nums .u8 ys).toArray ty :: ownT (Kd.int .u8) 5 u xs :: L)) (hx : 0 < xs.length) (hle : xs.length ≤ dLen) (hfit : off + xs.length ≤ ys.length)
    (hk : ∀ w1, Sep w0 w1 (cellsT g (nums .u8 (splice ys off xs)).toArray ty :: ownT (Kd.int .u8) 5 u xs :: L) → wpList Tryd.prog ops Q rest (a.put o.dst (goInt xs.length)) w1) : wpList Tryd.prog ops Q (o :: rest) a w :=
  wpList_plain hgd fun K hK => Sep.copy_wp d s ho hd hs h hx hle hfit (fun w1 h1 => hK _ _ (hk w1 h1))
end
section
variable {w0 w : World} {L : List Th} {ops : Array Oper} {rest : List Oper} {o : Oper} {a : Act} {K : Act → World → Prop} {Q : Exit → Act → World → Prop}
theorem Sep.store_wp (ty : TypeId) (x y : Operand) (ho : o.op = .store ty x y) {g e : Nat} {old cs : Array Value} (hx : a.eval x = .pointer (some ⟨g, 0, none⟩)) (hy : a.eval y = .agg cs) (h : Sep w0 w (cellsT g old e :: L)) (hi : (Tryd.prog.info? ty).map (·.size) = some cs.size) (hold : old.size = cs.size) (h1 : cs.all (·.oneCell') = true)
    (hK : ∀ w1, Sep w0 w1 (cellsT g cs e :: L) → K (a.put o.dst undef) w1) : o.wp Tryd.prog a w K Q :=
  wp_store_row ty x y ho g cs hx hy e old h.cells.1 hi hold h1 (hK _ (h.setRow cs))
theorem Sep.store_own (hgd : o.guard = none) (ty : TypeId) (x y : Operand) (ho : o.op = .store ty x y) {g e : Nat} {old cs : Array Value} (hx : a.eval x = .pointer (some ⟨g, 0, none⟩)) (hy : a.eval y = .agg cs) (h : Sep w0 w (cellsT g old e :: L)) (hi : (Tryd.prog.info? ty).map (·.size) = some cs.size) (hold : old.size = cs.size) (h1 : cs.all (·.oneCell') = true)
    (hk : ∀ w1, Sep w0 w1 (cellsT g cs e :: L) → wpList Tryd.prog ops Q rest (a.put o.dst undef) w1) : wpList Tryd.prog ops Q (o :: rest) a w :=
  wpList_plain hgd fun K hK => Sep.store_wp ty x y ho hx hy h hi hold h1 (fun w1 h1 => hK _ _ (hk w1 h1))
end
theorem nums_all (ys : List Int) : (nums .u8 ys).toArray.all (·.oneCell') = true := by
  rw [Array.all_eq_true']
  intro v hv
  exact nums_ones ys v (by simpa using hv)
theorem yields_ld {P : Program} {o : Oper} {a : Act} {w : World} (ty : TypeId) (x : Operand) (ho : o.op = .load ty x) (ad : Addr) (hx : a.eval x = .pointer (some ad)) (cs : Array Value) (d : TypeDesc)
    (hc : ∀ j v, cs.toList[j]? = some v → w.cell? (ad.add j) = some v) (hu : P.underlying ty = some d) (hd : (match d with | .struct _ | .array _ _ => true | _ => false) = true) (hi : (P.info? ty).map (·.size) = some cs.size) :
    (execOp a.eval o).run P w = .ok (.value (.agg cs)) w := by
  unfold execOp
  simp only [ho, hx, Instr.loadAt, Instr.sureAddr, Sem.run_bind, Sem.run_pure, Result.andThen_ok, run_ld ad ty cs d hc hu hd hi]
end Go.Proofs.YtaflofcnjakaaaaDoor.M

namespace Go.Proofs.YtaflofcnjakaaaaDoor.M
open Go.RowKit Go.Maps Go.Proofs.YtaflofcnjakaaaaDoorW.PrintWords Go.Proofs.YtaflofcnjakaaaaDoorW.PrintLast Go.Proofs.YtaflofcnjakaaaaDoorW.PrintMore
set_option linter.unusedVariables false
structure T79 where
  f0 : Int
  f1 : Int
  f2 : Int
  f3 : Int
  f4 : Int
  f5 : List Int
end Go.Proofs.YtaflofcnjakaaaaDoor.M
namespace Go.Proofs.YtaflofcnjakaaaaDoor.BulkW
open Go.ChangeShapes Go.WideShapes Go.Proofs.YtaflofcnjakaaaaDoorW.PrintWords Go.Proofs.YtaflofcnjakaaaaDoor.M
set_option linter.unusedVariables false
section
variable {H : Type} {enc : TypeId × Value → H} {W : World} {base : Nat} {spare : Nat → Bool} {held : Bool}
theorem opens_i64 : Opens enc Tryd.prog W base spare held 3 (Kd.int .i64) (fun y => (Lit.int .i64 y).wf = true) := opens_int Tryd.underlying3
end
end Go.Proofs.YtaflofcnjakaaaaDoor.BulkW

namespace Go.Proofs.YtaflofcnjakaaaaDoor.A
open Go.RowKit Go.Proofs.YtaflofcnjakaaaaDoorW.PrintWords Go.Proofs.YtaflofcnjakaaaaDoorW.PrintLast Go.Proofs.YtaflofcnjakaaaaDoorW.PrintMore Go.Proofs.YtaflofcnjakaaaaDoor.P Go.Proofs.YtaflofcnjakaaaaDoor.Wr
set_option linter.unusedVariables false
set_option linter.unusedSimpArgs false
theorem Ev.pos {α : Type} {c : Prop} [Decidable c] {f g : Nat → Option α} {r : α} (h : c) (k : Ev f r) : Ev (fun n => if c then f n else g n) r := by
  simpa only [if_pos h] using k
theorem Ev.some_ {α : Type} {x r : α} (h : x = r) : Ev (fun _ => some x) r := h ▸ Ev.now r
theorem Ev.const {α : Type} {x : Option α} {r : α} (h : x = some r) : Ev (fun _ => x) r := h ▸ Ev.now r
theorem w64 {x : Int} (h0 : -9223372036854775808 ≤ x) (h1 : x ≤ 9223372036854775807) : wrap64 x = x := by unfold wrap64; omega
theorem u64w {x : Int} (h0 : 0 ≤ x) (h1 : x ≤ 18446744073709551615) : IntKind.u64.wrap x = x := by
  have : IntKind.u64.wrap x = x % 18446744073709551616 := rfl
  omega
def bytes_ (l : List Int) : Prop := ∀ x ∈ l, 0 ≤ x ∧ x < 256
theorem rd_drop {b : List Int} {p : Nat} (h : p < b.length) : ∃ c, b.drop p = c :: b.drop (p + 1) ∧ rd b (p : Int) = c ∧ c ∈ b := by
  refine ⟨b[p], List.drop_eq_getElem_cons h, ?_, List.getElem_mem h⟩
  unfold rd
  rw [Int.toNat_natCast, List.getD_eq_getElem?_getD, List.getElem?_eq_getElem h]; rfl
theorem strOfNums_toList (l : List Int) : (strOfNums l).toList = l.map fun n => UInt8.ofNat n.toNat := by
  rw [ByteArray.toList_eq]; simp [strOfNums]
theorem bytes_take {l : List Int} (h : bytes_ l) (n : Nat) : bytes_ (l.take n) := fun x hx => h x (List.mem_of_mem_take hx)
theorem bytes_drop {l : List Int} (h : bytes_ l) (n : Nat) : bytes_ (l.drop n) := fun x hx => h x (List.mem_of_mem_drop hx)
theorem bytes_append {l m : List Int} (h : bytes_ l) (h' : bytes_ m) : bytes_ (l ++ m) := fun x hx => (List.mem_append.1 hx).elim (h x) (h' x)
theorem bytes_nil : bytes_ [] := fun x hx => by cases hx
def fixL (v : Nat) : Nat → List Int
  | 0 => []
  | n + 1 => ((v % 256 : Nat) : Int) :: fixL (v / 256) n
def leV : List Int → Nat
  | [] => 0
  | c :: t => c.toNat + 256 * leV t
theorem fixL_len : ∀ (n v : Nat), (fixL v n).length = n
  | 0, _ => rfl
  | n + 1, v => by simp [fixL, fixL_len n]
theorem fixL_snoc : ∀ (n v : Nat), fixL v (n + 1) = fixL v n ++ [((v / 256 ^ n % 256 : Nat) : Int)]
  | 0, v => by simp [fixL]
  | n + 1, v => by
    rw [fixL, fixL_snoc n (v / 256), fixL]
    simp only [List.cons_append, Nat.div_div_eq_div_mul]
    rw [Nat.pow_succ, Nat.mul_comm (256 ^ n)]
theorem bytes_fix : ∀ (n v : Nat), bytes_ (fixL v n)
  | 0, _ => bytes_nil
  | n + 1, v => fun x hx => by
    rw [fixL] at hx
    rcases List.mem_cons.1 hx with rfl | hx
    · omega
    · exact bytes_fix n _ x hx
theorem leV_lt : ∀ (l : List Int), bytes_ l → leV l < 256 ^ l.length
  | [], _ => by simp [leV]
  | c :: t, h => by
    have h1 := leV_lt t (fun x hx => h x (List.mem_cons_of_mem _ hx))
    have h2 := h c (List.mem_cons_self ..)
    simp only [leV, List.length_cons, Nat.pow_succ]
    omega
theorem leV_fix : ∀ (n v : Nat), leV (fixL v n) = v % 256 ^ n
  | 0, v => by simp [fixL, leV]; omega
  | n + 1, v => by
    simp only [fixL, leV, leV_fix n, Int.toNat_natCast]
    rw [Nat.pow_succ, Nat.mul_comm (256 ^ n), Nat.mod_mul]
theorem p256 (n : Nat) : 256 ^ n = 2 ^ (8 * n) := by rw [Nat.pow_mul]
theorem shr8 (v i : Nat) (hi : i ≤ 8) : shr .u64 (v : Int) (IntKind.u64.wrap (8 * IntKind.u64.wrap (i : Int))) = ((v / 256 ^ i : Nat) : Int) := by
  rw [u64w (x := (i : Int)) (by omega) (by omega), u64w (x := 8 * (i : Int)) (by omega) (by omega)]
  unfold shr
  rw [show (8 * (i : Int)).toNat = 8 * i by omega, Nat.min_eq_left (show 8 * i ≤ IntKind.u64.bits from by show 8 * i ≤ 64; omega), p256]
  simp
theorem fixed_l0 : ∀ (m v n i k : Nat), i + m = n → n ≤ 8 → m < k →
    wire_Fixed.l0 k (v : Int) (fixL v i ++ List.replicate m 0) (n : Int) (i : Int) = some (fixL v n, 0) := by
  intro m
  induction m with
  | zero =>
    intro v n i k h hn hk
    obtain ⟨k, rfl⟩ : ∃ q, k = q + 1 := ⟨k - 1, by omega⟩
    simp only [wire_Fixed.l0]
    rw [if_neg (by omega), show i = n by omega]; simp
  | succ m ih =>
    intro v n i k h hn hk
    obtain ⟨k, rfl⟩ : ∃ q, k = q + 1 := ⟨k - 1, by omega⟩
    simp only [wire_Fixed.l0]
    rw [if_pos (by omega), if_pos (show 0 ≤ IntKind.u64.wrap (8 * IntKind.u64.wrap (i : Int)) by rw [u64w (x := (i : Int)) (by omega) (by omega), u64w (by omega) (by omega)]; omega), if_pos (by omega), if_pos (by simp [fixL_len]; omega), shr8 v i (by omega), w64 (by omega) (by omega)]
    have e : (fixL v i ++ List.replicate (m + 1) 0).set (i : Int).toNat (((v / 256 ^ i : Nat) : Int) % 256) = fixL v (i + 1) ++ List.replicate m 0 := by
      rw [Int.toNat_natCast, List.set_append_right _ _ (by rw [fixL_len]; exact Nat.le_refl _), fixL_len, Nat.sub_self, List.replicate_succ, List.set_cons_zero, fixL_snoc, List.append_assoc]
      simp
    rw [e]
    exact ih v n (i + 1) k (by omega) hn (by omega)
def fixR (v : Nat) (n : Int) : List Int × Int := if n < 1 ∨ n > 8 then ([], 1) else if v / 256 ^ n.toNat = 0 then (fixL v n.toNat, 0) else ([], 12)
theorem fixed_ev {v : Nat} (hv : v < 18446744073709551616) (n : Int) : Ev (fun k => wire_Fixed.f k (v : Int) n) (fixR v n) := by
  refine ⟨20, fun k hk => ?_⟩
  obtain ⟨k, rfl⟩ : ∃ q, k = q + 2 := ⟨k - 2, by omega⟩
  unfold wire_Fixed.f fixR
  show (if n < 1 then wire_Fixed.j0 (k + 2) (v : Int) n true else wire_Fixed.j0 (k + 2) (v : Int) n (decide (n > 8))) = _
  by_cases h1 : n < 1
  · simp [h1, wire_Fixed.j0]
  · rw [if_neg h1]
    by_cases h2 : n > 8
    · simp [h1, h2, wire_Fixed.j0]
    · obtain ⟨m, rfl⟩ := Int.eq_ofNat_of_zero_le (show 0 ≤ n by omega)
      have hj1 : wire_Fixed.j1 (k + 1) (v : Int) (m : Int) = some (fixL v m, 0) := by
        simp only [wire_Fixed.j1]
        rw [if_pos (by omega), if_pos (by rw [Int.toNat_natCast]; omega)]
        simp only [Option.bind_some, Int.toNat_natCast, List.length_replicate]
        exact fixed_l0 m v m 0 k (by omega) (by omega) (by omega)
      simp only [wire_Fixed.j0]
      rw [if_neg (show ¬ decide ((m : Int) > 8) = true by simpa using h2), if_neg (show ¬ ((m : Int) < 1 ∨ (m : Int) > 8) by omega), Int.toNat_natCast]
      by_cases h3 : m < 8
      · rw [if_pos (by omega), if_pos (show 0 ≤ IntKind.u64.wrap (8 * IntKind.u64.wrap (m : Int)) by rw [u64w (x := (m : Int)) (by omega) (by omega), u64w (by omega) (by omega)]; omega), shr8 v m (by omega)]
        by_cases h4 : v / 256 ^ m = 0
        · rw [if_pos (by omega), if_pos h4, hj1]
        · rw [if_neg (by omega), if_neg h4]
      · rw [if_neg (by omega), hj1]
        obtain rfl : m = 8 := by omega
        rw [if_pos (show v / 256 ^ 8 = 0 from Nat.div_eq_of_lt hv)]
theorem or8 {x : Nat} {c : Int} (hx : x < 256 ^ 7) (h0 : 0 ≤ c) (h1 : c < 256) : Go.bits .or .u64 (IntKind.u64.wrap ((x : Int) * 256)) (IntKind.u64.wrap c) = ((c.toNat + 256 * x : Nat) : Int) := by
  have hx : x < 72057594037927936 := hx
  rw [u64w (by omega) (by omega), u64w (by omega) (by omega), show (x : Int) * 256 = ((256 * x : Nat) : Int) by omega, show c = ((c.toNat : Nat) : Int) by omega, u64_or_nat _ _ (by omega) (by omega)]
  congr 1
  have := Nat.two_pow_add_eq_or_of_lt (b := c.toNat) (i := 8) (by omega) x
  simp only [show (2 : Nat) ^ 8 = 256 from rfl] at this
  rw [Int.toNat_natCast, ← this, Nat.add_comm]
theorem readF_l0 : ∀ (i : Nat) (b : List Int) (at_ n k : Nat), bytes_ b → b.length ≤ 4611686018427387904 → at_ + n ≤ b.length → i ≤ n → n ≤ 8 → i < k →
    wire_ReadFixed.l0 k b (at_ : Int) (n : Int) ((leV ((b.drop (at_ + i)).take (n - i)) : Nat) : Int) ((i : Int) - 1) = some (((leV ((b.drop at_).take n) : Nat) : Int), ((at_ + n : Nat) : Int), 0) := by
  intro i
  induction i with
  | zero =>
    intro b at_ n k hb hl hat hi hn hk
    obtain ⟨k, rfl⟩ : ∃ q, k = q + 1 := ⟨k - 1, by omega⟩
    simp only [wire_ReadFixed.l0]
    rw [if_neg (by omega), w64 (by omega) (by omega)]; simp
  | succ i ih =>
    intro b at_ n k hb hl hat hi hn hk
    obtain ⟨k, rfl⟩ : ∃ q, k = q + 1 := ⟨k - 1, by omega⟩
    simp only [wire_ReadFixed.l0]
    obtain ⟨c, hd, hr, hc⟩ := rd_drop (show at_ + i < b.length by omega)
    have hc := hb c hc
    rw [show (((i + 1 : Nat) : Int) - 1) = (i : Int) by omega, w64 (x := (at_ : Int) + (i : Int)) (by omega) (by omega), if_pos (by omega), if_pos (by omega), if_pos (by omega), show ((at_ : Int) + (i : Int)) = ((at_ + i : Nat) : Int) by omega, hr, w64 (by omega) (by omega)]
    have hlt : leV ((b.drop (at_ + (i + 1))).take (n - (i + 1))) < 256 ^ 7 := by
      have h1 := leV_lt _ (bytes_take (bytes_drop hb (at_ + (i + 1))) (n - (i + 1)))
      have h2 : ((b.drop (at_ + (i + 1))).take (n - (i + 1))).length ≤ 7 := by simp; omega
      exact Nat.lt_of_lt_of_le h1 (Nat.pow_le_pow_right (by decide) h2)
    rw [or8 hlt hc.1 hc.2]
    have e : c.toNat + 256 * leV ((b.drop (at_ + (i + 1))).take (n - (i + 1))) = leV ((b.drop (at_ + i)).take (n - i)) := by
      rw [hd, show n - i = (n - (i + 1)) + 1 by omega, List.take_succ_cons]; rfl
    rw [e]
    exact ih b at_ n k hb hl hat (by omega) hn (by omega)
def readFR (b : List Int) (at_ n : Int) : Int × Int × Int :=
  if at_ < 0 ∨ at_ > b.length ∨ n < 1 ∨ n > 8 then (0, 0, 1) else if (b.length : Int) - at_ < n then (0, 0, 10)
  else (((leV ((b.drop at_.toNat).take n.toNat) : Nat) : Int), at_ + n, 0)
theorem readF_ev {b : List Int} (hb : bytes_ b) (hl : b.length ≤ 4611686018427387904) (at_ n : Int) :
    Ev (fun k => wire_ReadFixed.f k b at_ n) (readFR b at_ n) := by
  refine ⟨20, fun k hk => ?_⟩
  obtain ⟨k, rfl⟩ : ∃ q, k = q + 1 := ⟨k - 1, by omega⟩
  unfold wire_ReadFixed.f readFR
  simp only [wire_ReadFixed.j0]
  by_cases h : at_ < 0 ∨ at_ > b.length ∨ n < 1 ∨ n > 8
  · rw [if_pos h]
    by_cases h1 : at_ < 0
    · simp [h1]
    · by_cases h2 : at_ > b.length
      · simp [h1, h2]
      · by_cases h3 : n < 1
        · simp [h1, h2, h3]
        · have h4 : n > 8 := by omega
          simp [h1, h2, h3, h4]
  · rw [if_neg h, if_neg (by omega), if_neg (by omega), if_neg (by omega), if_neg (show ¬ decide (n > 8) = true by rw [decide_eq_true_iff]; omega), w64 (by omega) (by omega)]
    by_cases h5 : (b.length : Int) - at_ < n
    · rw [if_pos h5, if_pos h5]
    · rw [if_neg h5, if_neg h5, w64 (by omega) (by omega)]
      obtain ⟨a, rfl⟩ := Int.eq_ofNat_of_zero_le (show 0 ≤ at_ by omega)
      obtain ⟨m, rfl⟩ := Int.eq_ofNat_of_zero_le (show 0 ≤ n by omega)
      have := readF_l0 m b a m k hb hl (by omega) (by omega) (by omega) (by omega)
      simp only [Nat.sub_self, List.take_zero, leV] at this
      rw [Int.toNat_natCast, Int.toNat_natCast]
      simpa using this
end Go.Proofs.YtaflofcnjakaaaaDoor.A
namespace Go.Proofs.YtaflofcnjakaaaaDoor.Crc
open Go.Proofs.YtaflofcnjakaaaaDoor.Wr Go.Proofs.YtaflofcnjakaaaaDoor.A
set_option linter.unusedVariables false
set_option linter.unusedSimpArgs false
def S (r : Nat) : Nat := if r % 2 = 1 then (r / 2) ^^^ 3988292384 else r / 2
theorem S_lt {r : Nat} (h : r < 4294967296) : S r < 4294967296 := by
  unfold S; split
  · exact xor_lt32 (by omega) (by decide)
  · omega
theorem S_eq (r : Nat) : S r = (r / 2) ^^^ (if r % 2 = 1 then 3988292384 else 0) := by
  unfold S; split <;> simp
theorem xor_div2 (a b : Nat) : (a ^^^ b) / 2 = a / 2 ^^^ b / 2 := by
  have := Nat.shiftRight_xor_distrib (a := a) (b := b) (i := 1)
  simpa [Nat.shiftRight_eq_div_pow] using this
theorem xor_mod2 (a b : Nat) : (a ^^^ b) % 2 = (a % 2 + b % 2) % 2 := by
  have h := Nat.xor_mod_two_pow (a := a) (b := b) (n := 1)
  simp only [Nat.pow_one] at h
  rw [h]
  rcases Nat.mod_two_eq_zero_or_one a with ha | ha <;> rcases Nat.mod_two_eq_zero_or_one b with hb | hb <;> rw [ha, hb] <;> decide
theorem S_xor (a b : Nat) : S (a ^^^ b) = S a ^^^ S b := by
  rw [S_eq, S_eq, S_eq, xor_div2]
  have : (if (a ^^^ b) % 2 = 1 then 3988292384 else 0) = (if a % 2 = 1 then 3988292384 else 0) ^^^ (if b % 2 = 1 then 3988292384 else 0) := by
    rw [xor_mod2]
    rcases Nat.mod_two_eq_zero_or_one a with ha | ha <;> rcases Nat.mod_two_eq_zero_or_one b with hb | hb <;> rw [ha, hb] <;> decide
  rw [this]
  generalize (if a % 2 = 1 then 3988292384 else 0) = x
  generalize (if b % 2 = 1 then 3988292384 else 0) = y
  apply Nat.eq_of_testBit_eq
  intro i
  simp only [Nat.testBit_xor]
  cases (a / 2).testBit i <;> cases (b / 2).testBit i <;> cases x.testBit i <;> cases y.testBit i <;> rfl
def Sn : Nat → Nat → Nat
  | 0, r => r
  | n + 1, r => Sn n (S r)
theorem Sn_add : ∀ (m n r : Nat), Sn (m + n) r = Sn n (Sn m r)
  | 0, n, r => by simp [Sn]
  | m + 1, n, r => by rw [show m + 1 + n = (m + n) + 1 by omega, Sn, Sn_add m n]; rfl
theorem Sn_xor : ∀ (n a b : Nat), Sn n (a ^^^ b) = Sn n a ^^^ Sn n b
  | 0, _, _ => rfl
  | n + 1, a, b => by rw [Sn, S_xor, Sn_xor n]; rfl
theorem split16 (r : Nat) : r = (16 * (r / 16)) ^^^ (r % 16) := by
  have h := Nat.two_pow_add_eq_or_of_lt (b := r % 16) (i := 4) (by omega) (r / 16)
  have h2 : (2 ^ 4 * (r / 16)) ^^^ (r % 16) = (2 ^ 4 * (r / 16)) ||| (r % 16) := by
    apply Nat.eq_of_testBit_eq
    intro i
    rw [Nat.testBit_xor, Nat.testBit_or]
    by_cases hi : i < 4
    · have h0 : (2 ^ 4 * (r / 16)).testBit i = false := by
        rw [Nat.testBit_two_pow_mul, decide_eq_false (show ¬ i ≥ 4 by omega)]; rfl
      rw [h0]; simp
    · rw [Nat.testBit_lt_two_pow (x := r % 16) (i := i) (Nat.lt_of_lt_of_le (show r % 16 < 2 ^ 4 by omega) (Nat.pow_le_pow_right (by decide) (by omega)))]; simp
  rw [show (16 : Nat) = 2 ^ 4 from rfl] at *
  rw [h2, ← h]; omega
theorem S_double (q : Nat) : S (2 * q) = q := by unfold S; rw [if_neg (by omega)]; omega
theorem S4_hi (q : Nat) : Sn 4 (16 * q) = q := by
  simp only [Sn]
  rw [show 16 * q = 2 * (2 * (2 * (2 * q))) by omega, S_double, S_double, S_double, S_double]
theorem S4_lo : ∀ s : Fin 16, Sn 4 s.1 = halfL.getD s.1 0 := by decide
theorem hstep_S (r : Nat) : hstep r = Sn 4 r := by
  conv => rhs; rw [split16 r]
  rw [Sn_xor, S4_hi, S4_lo ⟨r % 16, by omega⟩]; rfl
theorem bstep_S (r : Nat) (c : Int) : bstep r c = Sn 8 (r ^^^ (c % 4294967296).toNat) := by
  unfold bstep; rw [hstep_S, hstep_S, ← Sn_add]
def xorI (c : Int) (m : Nat) : Int := ((c.toNat ^^^ m : Nat) : Int)
def flip1 (b : List Int) (p : Int) : List Int := if 0 ≤ p ∧ p < 8 * (b.length : Int) then b.set (p.toNat / 8) (xorI (b.getD (p.toNat / 8) 0) (2 ^ (p.toNat % 8))) else b
theorem xorI_byte {c : Int} {j : Nat} (h0 : 0 ≤ c) (h1 : c < 256) (hj : j < 8) : 0 ≤ xorI c (2 ^ j) ∧ xorI c (2 ^ j) < 256 := by
  have h : c.toNat ^^^ 2 ^ j < 2 ^ 8 := Nat.xor_lt_two_pow (by omega) (Nat.pow_lt_pow_right (by decide) hj)
  unfold xorI
  omega
theorem flip1_len (b : List Int) (p : Int) : (flip1 b p).length = b.length := by
  unfold flip1; split <;> simp
theorem getD_mem {b : List Int} {i : Nat} (h : i < b.length) : b.getD i 0 ∈ b := by
  rw [List.getD_eq_getElem?_getD, List.getElem?_eq_getElem h]; exact List.getElem_mem h
theorem bytes_flip {b : List Int} (hb : bytes_ b) (p : Int) : bytes_ (flip1 b p) := by
  unfold flip1
  split
  · rename_i h
    intro x hx
    rcases List.mem_or_eq_of_mem_set hx with hx | rfl
    · exact hb x hx
    · have := hb _ (getD_mem (b := b) (i := p.toNat / 8) (by omega))
      exact xorI_byte this.1 this.2 (by omega)
  · exact hb
end Go.Proofs.YtaflofcnjakaaaaDoor.Crc
namespace Go.Proofs.YtaflofcnjakaaaaDoor.A
open Go.RowKit Go.Proofs.YtaflofcnjakaaaaDoorW.PrintWords Go.Proofs.YtaflofcnjakaaaaDoorW.PrintLast Go.Proofs.YtaflofcnjakaaaaDoorW.PrintMore Go.Proofs.YtaflofcnjakaaaaDoor.P Go.Proofs.YtaflofcnjakaaaaDoor.Wr Go.Proofs.YtaflofcnjakaaaaDoor.Crc
set_option linter.unusedVariables false
set_option linter.unusedSimpArgs false
theorem tmod_nat (a b : Nat) : Int.tmod (a : Int) (b : Int) = ((a % b : Nat) : Int) := by
  rw [Int.tmod_eq_emod_of_nonneg (by omega)]; omega
theorem tdiv_nat (a b : Nat) : Int.tdiv (a : Int) (b : Int) = ((a / b : Nat) : Int) := by
  rw [Int.tdiv_eq_ediv_of_nonneg (by omega)]; omega
theorem xor_bits (a b : Nat) (ha : a < 4294967296) (hb : b < 4294967296) : Go.bits .xor .u32 (a : Int) (b : Int) = ((a ^^^ b : Nat) : Int) := u32_xor_nat a b ha hb
theorem rSum_l2 (p : List (List Int)) (x4 x5 : Int) : ∀ (m : Nat) (r i : Nat), i + m = 8 → r < 4294967296 → ∀ {R : Int}, Ev (fun k => kilnref1_SumAll.l1 k p ((Sn m r : Nat) : Int) x4 (wrap64 (x5 + 1))) R →
    Ev (fun k => kilnref1_SumAll.l2 k p (r : Int) x4 x5 (i : Int)) R := by
  intro m
  induction m with
  | zero =>
    intro r i h hr R hR
    exact Ev.step (fun k => by simp only [kilnref1_SumAll.l2]; rw [if_neg (by omega)]; rfl) hR
  | succ m ih =>
    intro r i h hr R hR
    have e : ∀ k, kilnref1_SumAll.l2 (k + 1) p (r : Int) x4 x5 (i : Int) = kilnref1_SumAll.l2 k p ((S r : Nat) : Int) x4 x5 ((i + 1 : Nat) : Int) := by
      intro k
      simp only [kilnref1_SumAll.l2]
      rw [if_pos (by omega), w64 (by omega) (by omega), show (2 : Int) = ((2 : Nat) : Int) from rfl, tmod_nat, tdiv_nat, Int.emod_eq_of_lt (by omega) (by omega)]
      rw [show (3988292384 : Int) = ((3988292384 : Nat) : Int) from rfl, xor_bits _ _ (by omega) (by decide)]
      unfold S
      by_cases h1 : r % 2 = 1
      · rw [if_pos (by omega), if_pos h1]; rfl
      · rw [if_neg (by omega), if_neg h1]; rfl
    exact Ev.step e (ih (S r) (i + 1) (by omega) (S_lt hr) hR)
theorem rSum_l1 (p : List (List Int)) (x4 : Nat) (h4 : x4 < p.length) (hl : (rd_L1 p (x4 : Int)).length ≤ 4611686018427387904) (hb : bytes_ (rd_L1 p (x4 : Int))) : ∀ (m : Nat) (r i : Nat), i + m = (rd_L1 p (x4 : Int)).length → r < 4294967296 → ∀ {R : Int}, Ev (fun k => kilnref1_SumAll.l0 k p ((sumB r ((rd_L1 p (x4 : Int)).drop i) : Nat) : Int) (wrap64 ((x4 : Int) + 1))) R →
    Ev (fun k => kilnref1_SumAll.l1 k p (r : Int) (x4 : Int) (i : Int)) R := by
  intro m
  induction m with
  | zero =>
    intro r i h hr R hR
    refine Ev.step (fun k => by simp only [kilnref1_SumAll.l1]; rw [if_pos (by omega), if_pos (by omega), if_neg (by omega)]) ?_
    rw [show i = (rd_L1 p (x4 : Int)).length by omega, List.drop_length] at hR
    exact hR
  | succ m ih =>
    intro r i h hr R hR
    refine Ev.step (fun k => by simp only [kilnref1_SumAll.l1]; rw [if_pos (by omega), if_pos (by omega), if_pos (by omega), if_pos (by omega)]) ?_
    obtain ⟨c, hd, hrd, hc⟩ := rd_drop (show i < (rd_L1 p (x4 : Int)).length by omega)
    have hc := hb c hc
    rw [hrd, show c % 4294967296 = (((c % 4294967296).toNat : Nat) : Int) by omega, xor_bits _ _ hr (by omega)]
    rw [show (0 : Int) = ((0 : Nat) : Int) from rfl]
    refine rSum_l2 p (x4 : Int) (i : Int) 8 _ 0 rfl (xor_lt32 hr (by omega)) ?_
    rw [w64 (by omega) (by omega), show (i : Int) + 1 = ((i + 1 : Nat) : Int) by omega, ← bstep_S]
    refine ih (bstep r c) (i + 1) (by omega) (bstep_lt hr c) ?_
    rw [hd] at hR
    exact hR
theorem rSum_l0 (p : List (List Int)) (hp : p.length ≤ 4611686018427387904) (hl : ∀ b ∈ p, b.length ≤ 4611686018427387904 ∧ bytes_ b) : ∀ (m r i : Nat), i + m = p.length → r < 4294967296 →
    Ev (fun k => kilnref1_SumAll.l0 k p (r : Int) (i : Int)) ((sumP r (p.drop i) ^^^ 4294967295 : Nat) : Int) := by
  intro m
  induction m with
  | zero =>
    intro r i h hr
    refine Ev.step (fun k => by simp only [kilnref1_SumAll.l0]; rw [if_neg (by omega)]) (Ev.some_ ?_)
    rw [show i = p.length by omega, List.drop_length]
    exact xor_bits r 4294967295 hr (by decide)
  | succ m ih =>
    intro r i h hr
    refine Ev.step (fun k => by simp only [kilnref1_SumAll.l0]; rw [if_pos (by omega)]) ?_
    have hi : i < p.length := by omega
    have hrow : rd_L1 p (i : Int) = p[i] := by
      unfold rd_L1
      rw [Int.toNat_natCast, List.getD_eq_getElem?_getD, List.getElem?_eq_getElem hi]; rfl
    have hm := hl _ (List.getElem_mem hi)
    rw [show (0 : Int) = ((0 : Nat) : Int) from rfl]
    refine rSum_l1 p i hi (by rw [hrow]; exact hm.1) (by rw [hrow]; exact hm.2) _ r 0 (Nat.zero_add _) hr ?_
    rw [List.drop_zero, hrow, w64 (by omega) (by omega), show (i : Int) + 1 = ((i + 1 : Nat) : Int) by omega, List.drop_eq_getElem_cons hi]
    exact ih (sumB r p[i]) (i + 1) (by omega) (sumB_lt _ hr)
theorem rSum_ev (p : List (List Int)) (hp : p.length ≤ 4611686018427387904) (hl : ∀ b ∈ p, b.length ≤ 4611686018427387904 ∧ bytes_ b) :
    Ev (fun k => kilnref1_SumAll.f k p) ((sumP 4294967295 p ^^^ 4294967295 : Nat) : Int) := by
  have := rSum_l0 p hp hl p.length 4294967295 0 (Nat.zero_add _) (by decide)
  rw [List.drop_zero] at this
  exact this
theorem sum_some (p : List (List Int)) (hp : p.length ≤ 4611686018427387904) (hl : ∀ b ∈ p, b.length ≤ 4611686018427387904 ∧ bytes_ b) :
    wire_Sum.f p = some ((sumP 4294967295 p ^^^ 4294967295 : Nat) : Int) := by
  rw [wire_Sum.f, if_pos]
  unfold fits
  rw [Bool.and_eq_true, List.all_eq_true, decide_eq_true_iff]
  exact ⟨by omega, fun b hb => by have := (hl b hb).1; exact decide_eq_true (by omega)⟩
end Go.Proofs.YtaflofcnjakaaaaDoor.A

namespace Go.Proofs.YtaflofcnjakaaaaDoor.Pl
open Go.RowKit Go.Proofs.YtaflofcnjakaaaaDoorW.PrintWords Go.Proofs.YtaflofcnjakaaaaDoorW.PrintLast Go.Proofs.YtaflofcnjakaaaaDoorW.PrintMore Go.Proofs.YtaflofcnjakaaaaDoor.P Go.Proofs.YtaflofcnjakaaaaDoor.Wr Go.Proofs.YtaflofcnjakaaaaDoor.Crc Go.Proofs.YtaflofcnjakaaaaDoor.A
set_option linter.unusedVariables false
set_option linter.unusedSimpArgs false
structure SL where
  a : Int
  b : Int
  c : Int
  d : Int
  e : Int
  key : List Int
  rh : List Int
  rf : Int
  rl : Int
  mh : List Int
  mf : Int
  ml : Int
structure SL.Ok (s : SL) : Prop where
  k : s.key.length = 32
  r : s.rh.length = 32
  m : s.mh.length = 32
  kb : bytes_ s.key
  rb : bytes_ s.rh
  mb : bytes_ s.mh
def refV (h : List Int) (f l : Int) : List Value := nums .u8 h ++ [.int .i64 f, .int .i64 l]
def SL.V (s : SL) : List Value := [.int .i64 s.a, .int .i64 s.b, .int .i64 s.c, .int .i64 s.d, .int .i64 s.e] ++ (nums .u8 s.key ++ (refV s.rh s.rf s.rl ++ refV s.mh s.mf s.ml))
theorem refV_len {h : List Int} (hh : h.length = 32) (f l : Int) : (refV h f l).length = 34 := by unfold refV; rw [List.length_append, nums_length, hh]; rfl
theorem SL.V_len {s : SL} (h : s.Ok) : s.V.length = 105 := by
  unfold SL.V
  rw [List.length_append, List.length_append, List.length_append, nums_length, h.k, refV_len h.r, refV_len h.m]
  rfl
theorem SL.V0 (s : SL) : s.V[0]? = some (.int .i64 s.a) := rfl
theorem SL.V1 (s : SL) : s.V[1]? = some (.int .i64 s.b) := rfl
theorem SL.V2 (s : SL) : s.V[2]? = some (.int .i64 s.c) := rfl
theorem SL.V3 (s : SL) : s.V[3]? = some (.int .i64 s.d) := rfl
theorem SL.V4 (s : SL) : s.V[4]? = some (.int .i64 s.e) := rfl
theorem drop_app {α : Type} {x y : List α} {n : Nat} (h : x.length = n) : (x ++ y).drop n = y := by subst h; exact List.drop_left
theorem take_app {α : Type} {x y : List α} {n : Nat} (h : x.length = n) : (x ++ y).take n = x := by subst h; exact List.take_left
theorem drop_add {α : Type} (x : List α) (m n : Nat) : x.drop (m + n) = (x.drop m).drop n := by rw [List.drop_drop]
theorem SL.V_d5 (s : SL) : s.V.drop 5 = nums .u8 s.key ++ (refV s.rh s.rf s.rl ++ refV s.mh s.mf s.ml) := drop_app rfl
theorem SL.V_d37 {s : SL} (h : s.Ok) : s.V.drop 37 = refV s.rh s.rf s.rl ++ refV s.mh s.mf s.ml := by
  rw [show 37 = 5 + 32 from rfl, drop_add, s.V_d5, drop_app (by rw [nums_length, h.k])]
theorem SL.V_d71 {s : SL} (h : s.Ok) : s.V.drop 71 = refV s.mh s.mf s.ml := by
  rw [show 71 = 37 + 34 from rfl, drop_add, s.V_d37 h, drop_app (refV_len h.r _ _)]
theorem SL.V_key {s : SL} (h : s.Ok) : (s.V.drop 5).take s.key.length = nums .u8 s.key := by rw [s.V_d5, take_app (nums_length _ _)]
theorem SL.V_root {s : SL} (h : s.Ok) : (s.V.drop 37).take (refV s.rh s.rf s.rl).length = refV s.rh s.rf s.rl := by rw [s.V_d37 h, take_app rfl]
theorem SL.V_memo {s : SL} (h : s.Ok) : (s.V.drop 71).take (refV s.mh s.mf s.ml).length = refV s.mh s.mf s.ml := by rw [s.V_d71 h]; exact List.take_of_length_le (Nat.le_refl _)
theorem get_drop {α : Type} (x : List α) (m n : Nat) : x[m + n]? = (x.drop m)[n]? := by rw [List.getElem?_drop]
theorem refV_f {h : List Int} (hh : h.length = 32) (f l : Int) (y : List Value) : (refV h f l ++ y)[32]? = some (.int .i64 f) := by
  unfold refV
  rw [List.append_assoc, show 32 = 32 + 0 from rfl, get_drop, drop_app (by rw [nums_length, hh])]
  rfl
theorem refV_l {h : List Int} (hh : h.length = 32) (f l : Int) (y : List Value) : (refV h f l ++ y)[33]? = some (.int .i64 l) := by
  unfold refV
  rw [List.append_assoc, show 33 = 32 + 1 from rfl, get_drop, drop_app (by rw [nums_length, hh])]
  rfl
def refM (s : SL) (f l : Int) : Bool := decide (2 + s.b ≤ f) && (decide (f < s.a) && (decide (0 ≤ l) && decide (l ≤ 1048576)))
def cntM (n : Int) : Bool := decide (0 ≤ n) && decide (n ≤ 1099511627776)
def headM (s : SL) : Bool := decide (2 ≤ s.a) && (decide (s.a ≤ 65536) && (decide (8 ≤ s.b) && (decide (s.b ≤ 1024) && decide (4 + s.b ≤ s.a))))
def mayM (s : SL) : Bool := headM s && (cntM s.c && (cntM s.d && (cntM s.e && (refM s s.rf s.rl && refM s s.mf s.ml))))
structure SL.May (s : SL) : Prop where
  a1 : 2 ≤ s.a
  a2 : s.a ≤ 65536
  b1 : 8 ≤ s.b
  b2 : s.b ≤ 1024
  ab : 4 + s.b ≤ s.a
  c : 0 ≤ s.c ∧ s.c ≤ 1099511627776
  d : 0 ≤ s.d ∧ s.d ≤ 1099511627776
  e : 0 ≤ s.e ∧ s.e ≤ 1099511627776
  r : 2 + s.b ≤ s.rf ∧ s.rf < s.a ∧ 0 ≤ s.rl ∧ s.rl ≤ 1048576
  m : 2 + s.b ≤ s.mf ∧ s.mf < s.a ∧ 0 ≤ s.ml ∧ s.ml ≤ 1048576
theorem may_iff (s : SL) : mayM s = true ↔ s.May := by
  unfold mayM headM cntM refM
  simp only [Bool.and_eq_true, decide_eq_true_iff]
  constructor
  · rintro ⟨⟨h1, h2, h3, h4, h5⟩, h6, h7, h8, h9, h10⟩
    exact ⟨h1, h2, h3, h4, h5, h6, h7, h8, h9, h10⟩
  · rintro ⟨h1, h2, h3, h4, h5, h6, h7, h8, h9, h10⟩
    exact ⟨⟨h1, h2, h3, h4, h5⟩, h6, h7, h8, h9, h10⟩
def refB (h : List Int) (f l : Int) : List Int := h ++ (fixL f.toNat 4 ++ fixL l.toNat 4)
def numB (s : SL) : List Int := fixL s.a.toNat 4 ++ (fixL s.b.toNat 4 ++ (fixL s.c.toNat 8 ++ (fixL s.d.toNat 8 ++ fixL s.e.toNat 8)))
def bodyB (s : SL) : List Int := [107, 105, 108, 110] ++ (numB s ++ (s.key ++ (refB s.rh s.rf s.rl ++ refB s.mh s.mf s.ml)))
def padB (s : SL) : List Int := bodyB s ++ List.replicate 360 0
def crc (b : List Int) : Nat := sumB 4294967295 b ^^^ 4294967295
def encB (s : SL) : List Int := padB s ++ fixL (crc (padB s)) 4
theorem refB_len {h : List Int} (hh : h.length = 32) (f l : Int) : (refB h f l).length = 40 := by unfold refB; rw [List.length_append, List.length_append, hh, fixL_len, fixL_len]
theorem numB_len (s : SL) : (numB s).length = 32 := by unfold numB; simp only [List.length_append, fixL_len]
theorem bodyB_len {s : SL} (h : s.Ok) : (bodyB s).length = 148 := by
  unfold bodyB
  simp only [List.length_append, numB_len, refB_len h.r, refB_len h.m, h.k]
  rfl
theorem padB_len {s : SL} (h : s.Ok) : (padB s).length = 508 := by unfold padB; rw [List.length_append, bodyB_len h, List.length_replicate]
theorem encB_len {s : SL} (h : s.Ok) : (encB s).length = 512 := by unfold encB; rw [List.length_append, padB_len h, fixL_len]
theorem bytes_refB {h : List Int} (hh : bytes_ h) (f l : Int) : bytes_ (refB h f l) := bytes_append hh (bytes_append (bytes_fix _ _) (bytes_fix _ _))
theorem bytes_numB (s : SL) : bytes_ (numB s) := bytes_append (bytes_fix _ _) (bytes_append (bytes_fix _ _) (bytes_append (bytes_fix _ _) (bytes_append (bytes_fix _ _) (bytes_fix _ _))))
theorem bytes_bodyB {s : SL} (h : s.Ok) : bytes_ (bodyB s) := bytes_append (fun x hx => by simp at hx; omega) (bytes_append (bytes_numB s) (bytes_append h.kb (bytes_append (bytes_refB h.rb _ _) (bytes_refB h.mb _ _))))
theorem bytes_padB {s : SL} (h : s.Ok) : bytes_ (padB s) := bytes_append (bytes_bodyB h) (fun x hx => by rw [List.eq_of_mem_replicate hx]; omega)
theorem bytes_encB {s : SL} (h : s.Ok) : bytes_ (encB s) := bytes_append (bytes_padB h) (bytes_fix _ _)
theorem crc_lt (b : List Int) : crc b < 4294967296 := xor_lt32 (sumB_lt b (by decide)) (by decide)
def numAt (b : List Int) (at_ n : Nat) : Int := wrap64 ((leV ((b.drop at_).take n) : Nat) : Int)
def keyAt (b : List Int) (at_ : Nat) : List Int := (b.drop at_).take 32
def readL (b : List Int) : SL := ⟨numAt b 4 4, numAt b 8 4, numAt b 12 8, numAt b 20 8, numAt b 28 8, keyAt b 36, keyAt b 68, numAt b 100 4, numAt b 104 4, keyAt b 108, numAt b 140 4, numAt b 144 4⟩
theorem keyAt_len {b : List Int} (hb : b.length = 512) {p : Nat} (hp : p + 32 ≤ 512) : (keyAt b p).length = 32 := by unfold keyAt; rw [List.length_take, List.length_drop]; omega
theorem read_ok {b : List Int} (hb : b.length = 512) (hy : bytes_ b) : (readL b).Ok :=
  ⟨keyAt_len hb (by decide), keyAt_len hb (by decide), keyAt_len hb (by decide), bytes_take (bytes_drop hy _) _, bytes_take (bytes_drop hy _) _, bytes_take (bytes_drop hy _) _⟩
theorem numAt_fix (x y : List Int) (p n v : Nat) (hx : x.length = p) (hn : v < 256 ^ n) (hv : (v : Int) < 9223372036854775808) (b : List Int) (hb : b = x ++ (fixL v n ++ y)) : numAt b p n = (v : Int) := by
  subst hb
  unfold numAt
  rw [drop_app hx, take_app (fixL_len _ _), leV_fix, Nat.mod_eq_of_lt hn]
  unfold wrap64
  omega
theorem keyAt_app (x k y : List Int) (p : Nat) (hx : x.length = p) (hk : k.length = 32) (b : List Int) (hb : b = x ++ (k ++ y)) : keyAt b p = k := by
  subst hb
  unfold keyAt
  rw [drop_app hx, take_app hk]
theorem read_enc {s : SL} (h : s.Ok) (hm : s.May) : readL (encB s) = s := by
  obtain ⟨a1, a2, b1, b2, ab, c, d, e, r, m⟩ := hm
  have q : ∀ x : Int, 0 ≤ x → ((x.toNat : Nat) : Int) = x := fun x hx => Int.toNat_of_nonneg hx
  have k4 : [107, 105, 108, 110].length = 4 := rfl
  have E : encB s = [107, 105, 108, 110] ++ (fixL s.a.toNat 4 ++ (fixL s.b.toNat 4 ++ (fixL s.c.toNat 8 ++ (fixL s.d.toNat 8 ++ (fixL s.e.toNat 8 ++ (s.key ++ (s.rh ++ (fixL s.rf.toNat 4 ++ (fixL s.rl.toNat 4 ++ (s.mh ++ (fixL s.mf.toNat 4 ++ (fixL s.ml.toNat 4 ++ (List.replicate 360 0 ++ fixL (crc (padB s)) 4))))))))))))) := by
    unfold encB padB bodyB numB refB
    simp only [List.append_assoc]
  have n4 : ∀ x : Int, 0 ≤ x → x < 4294967296 → x.toNat < 256 ^ 4 := fun x h0 h1 => by omega
  have n8 : ∀ x : Int, 0 ≤ x → x < 4294967296 * 4294967296 → x.toNat < 256 ^ 8 := fun x h0 h1 => by omega
  have F : readL (encB s) = ⟨s.a, s.b, s.c, s.d, s.e, s.key, s.rh, s.rf, s.rl, s.mh, s.mf, s.ml⟩ := by
    unfold readL
    rw [numAt_fix [107, 105, 108, 110] _ 4 4 s.a.toNat rfl (n4 _ (by omega) (by omega)) (by omega) _ E, q _ (by omega)]
    rw [numAt_fix ([107, 105, 108, 110] ++ fixL s.a.toNat 4) _ 8 4 s.b.toNat (by simp only [List.length_append, fixL_len]; rfl) (n4 _ (by omega) (by omega)) (by omega) (encB s) (by rw [E]; simp only [List.append_assoc]; rfl), q _ (by omega)]
    rw [numAt_fix ([107, 105, 108, 110] ++ (fixL s.a.toNat 4 ++ fixL s.b.toNat 4)) _ 12 8 s.c.toNat (by simp only [List.length_append, fixL_len]; rfl) (n8 _ (by omega) (by omega)) (by omega) (encB s) (by rw [E]; simp only [List.append_assoc]; rfl), q _ (by omega)]
    rw [numAt_fix ([107, 105, 108, 110] ++ (fixL s.a.toNat 4 ++ (fixL s.b.toNat 4 ++ fixL s.c.toNat 8))) _ 20 8 s.d.toNat (by simp only [List.length_append, fixL_len]; rfl) (n8 _ (by omega) (by omega)) (by omega) (encB s) (by rw [E]; simp only [List.append_assoc]; rfl), q _ (by omega)]
    rw [numAt_fix ([107, 105, 108, 110] ++ (fixL s.a.toNat 4 ++ (fixL s.b.toNat 4 ++ (fixL s.c.toNat 8 ++ fixL s.d.toNat 8)))) _ 28 8 s.e.toNat (by simp only [List.length_append, fixL_len]; rfl) (n8 _ (by omega) (by omega)) (by omega) (encB s) (by rw [E]; simp only [List.append_assoc]; rfl), q _ (by omega)]
    rw [keyAt_app ([107, 105, 108, 110] ++ numB s) s.key _ 36 (by simp only [List.length_append, numB_len]; rfl) h.k (encB s) (by rw [E]; unfold numB; simp only [List.append_assoc]; rfl)]
    rw [keyAt_app ([107, 105, 108, 110] ++ (numB s ++ s.key)) s.rh _ 68 (by simp only [List.length_append, numB_len, h.k]; rfl) h.r (encB s) (by rw [E]; unfold numB; simp only [List.append_assoc]; rfl)]
    rw [numAt_fix ([107, 105, 108, 110] ++ (numB s ++ (s.key ++ s.rh))) _ 100 4 s.rf.toNat (by simp only [List.length_append, numB_len, h.k, h.r]; rfl) (n4 _ (by omega) (by omega)) (by omega) (encB s) (by rw [E]; unfold numB; simp only [List.append_assoc]; rfl), q _ (by omega)]
    rw [numAt_fix ([107, 105, 108, 110] ++ (numB s ++ (s.key ++ (s.rh ++ fixL s.rf.toNat 4)))) _ 104 4 s.rl.toNat (by simp only [List.length_append, numB_len, h.k, h.r, fixL_len]; rfl) (n4 _ (by omega) (by omega)) (by omega) (encB s) (by rw [E]; unfold numB; simp only [List.append_assoc]; rfl), q _ (by omega)]
    rw [keyAt_app ([107, 105, 108, 110] ++ (numB s ++ (s.key ++ refB s.rh s.rf s.rl))) s.mh _ 108 (by simp only [List.length_append, numB_len, h.k, refB_len h.r]; rfl) h.m (encB s) (by rw [E]; unfold numB refB; simp only [List.append_assoc]; rfl)]
    rw [numAt_fix ([107, 105, 108, 110] ++ (numB s ++ (s.key ++ (refB s.rh s.rf s.rl ++ s.mh)))) _ 140 4 s.mf.toNat (by simp only [List.length_append, numB_len, h.k, refB_len h.r, h.m]; rfl) (n4 _ (by omega) (by omega)) (by omega) (encB s) (by rw [E]; unfold numB refB; simp only [List.append_assoc]; rfl), q _ (by omega)]
    rw [numAt_fix ([107, 105, 108, 110] ++ (numB s ++ (s.key ++ (refB s.rh s.rf s.rl ++ (s.mh ++ fixL s.mf.toNat 4))))) _ 144 4 s.ml.toNat (by simp only [List.length_append, numB_len, h.k, refB_len h.r, h.m, fixL_len]; rfl) (n4 _ (by omega) (by omega)) (by omega) (encB s) (by rw [E]; unfold numB refB; simp only [List.append_assoc]; rfl), q _ (by omega)]
  exact F
def decB (b : List Int) : Option SL := if b.length = 512 ∧ mayM (readL b) = true ∧ encB (readL b) = b then some (readL b) else none
theorem dec_enc {s : SL} (h : s.Ok) (hm : s.May) : decB (encB s) = some s := by
  unfold decB
  rw [if_pos ⟨encB_len h, by rw [read_enc h hm]; exact (may_iff s).2 hm, by rw [read_enc h hm]⟩, read_enc h hm]
theorem dec_some {b : List Int} {s : SL} (hy : bytes_ b) (h : decB b = some s) : s.Ok ∧ s.May ∧ encB s = b := by
  unfold decB at h
  split at h
  · rename_i hc
    obtain ⟨h1, h2, h3⟩ := hc
    cases h
    exact ⟨read_ok h1 hy, (may_iff _).1 h2, h3⟩
  · cases h
end Go.Proofs.YtaflofcnjakaaaaDoor.Pl

namespace Go.Proofs.YtaflofcnjakaaaaDoor.M
open Go.RowKit Go.Maps Go.Proofs.YtaflofcnjakaaaaDoorW.PrintWords Go.Proofs.YtaflofcnjakaaaaDoorW.PrintLast Go.Proofs.YtaflofcnjakaaaaDoorW.PrintMore Go.Proofs.YtaflofcnjakaaaaDoor.Wr Go.Proofs.YtaflofcnjakaaaaDoor.Pl Go.Proofs.YtaflofcnjakaaaaDoor.P
set_option linter.unusedVariables false
set_option linter.unusedSimpArgs false
theorem cell_at {w : World} {g ty : Nat} {cs : List Value} (h : w.heap[g]? = some (.cells cs.toArray ty (0, 0))) (i : Nat) {v : Value} (hv : cs[i]? = some v) : w.cell? ⟨g, i, none⟩ = some v := by
  rw [blk_cell h]
  simpa using hv
theorem blk_below {w w' : World} {g : Nat} {o : Obj} (h : w.heap[g]? = some o) (hb : Below w.heap.size w w') : w'.heap[g]? = some o := (hb.block g (blk_lt h)).trans h
set_option maxHeartbeats 8000000 in
set_option maxRecDepth 100000 in
theorem counts_calls (n : Int) (w : World) : Calls Tryd.prog 62 #[.int .i64 n] w fun e w' => e = .returned (.bool (cntM n)) ∧ w' = w := by
  by_cases h1 : 0 ≤ n
  · have b1 : decide (0 ≤ n) = true := decide_eq_true h1
    by_cases h2 : n ≤ 1099511627776
    · have b2 : decide (n ≤ 1099511627776) = true := decide_eq_true h2
      clear h1 h2
      go_enter Tryd.func62, Tryd.ntmps62
      go_wp2
      go_ret
      exact ⟨by unfold cntM; rw [b1, b2]; rfl, rfl⟩
    · have b2 : decide (n ≤ 1099511627776) = false := decide_eq_false h2
      clear h1 h2
      go_enter Tryd.func62, Tryd.ntmps62
      go_wp2
      go_ret
      exact ⟨by unfold cntM; rw [b1, b2]; rfl, rfl⟩
  · have b1 : decide (0 ≤ n) = false := decide_eq_false h1
    clear h1
    go_enter Tryd.func62, Tryd.ntmps62
    go_wp2
    go_ret
    exact ⟨by unfold cntM; rw [b1]; rfl, rfl⟩
set_option maxHeartbeats 8000000 in
set_option maxRecDepth 100000 in
theorem lies_calls (s : SL) (h : List Int) (f l : Int) (hh : h.length = 32) (g : Nat) (w : World) (hg : w.heap[g]? = some (.cells s.V.toArray 27 (0, 0))) (hb : -1000000 ≤ s.b ∧ s.b ≤ 1000000) :
    Calls Tryd.prog 61 #[.agg (refV h f l).toArray, .pointer (some ⟨g, 0, none⟩)] w fun e w' => e = .returned (.bool (refM s f l)) ∧ Below w.heap.size w w' := by
  have hc0 : ∀ W, Below w.heap.size w W → W.cell? ⟨g, 0, none⟩ = some (.int .i64 s.a) := fun W hW => cell_at (blk_below hg hW) 0 s.V0
  have hc1 : ∀ W, Below w.heap.size w W → W.cell? ⟨g, 1, none⟩ = some (.int .i64 s.b) := fun W hW => cell_at (blk_below hg hW) 1 s.V1
  have HC := Aside0.mk (And.intro hc0 hc1)
  have HB := Aside0.mk (below_alloc (Below.refl w.heap.size w) (.cells (refV h f l).toArray 25))
  have hn := heap_alloc_new w (.cells (refV h f l).toArray 25)
  have HF := Aside0.mk (cell_at hn 32 (v := .int .i64 f) (by have := refV_f hh f l []; rwa [List.append_nil] at this))
  have HL := Aside0.mk (cell_at hn 33 (v := .int .i64 l) (by have := refV_l hh f l []; rwa [List.append_nil] at this))
  have hb1 := hb.1
  have hb2 := hb.2
  clear hc0 hc1 hg hb hn hh
  generalize (refV h f l).toArray = cr at HB HF HL ⊢
  go_enter Tryd.func61, Tryd.ntmps61
  go_upto_region 1 with (fail)
  have hx0 := HC.out.1 _ HB.out
  have hx1 := HC.out.2 _ HB.out
  have hx2 := HF.out
  have hx3 := HL.out
  generalize w.alloc (.cells cr 25) = w1 at HB HF HL hx0 hx1 hx2 hx3 ⊢
  generalize w.heap.size = gb at HF HL hx2 hx3 ⊢
  by_cases h0 : 2 + s.b ≤ f
  · have t1 : decide (2 + s.b ≤ f) = true := decide_eq_true h0
    by_cases h1 : f < s.a
    · have t2 : decide (f < s.a) = true := decide_eq_true h1
      by_cases h2 : 0 ≤ l
      · have t3 : decide (0 ≤ l) = true := decide_eq_true h2
        by_cases h3 : l ≤ 1048576
        · have t4 : decide (l ≤ 1048576) = true := decide_eq_true h3
          clear HC HF HL
          go_wp2
          go_ret
          exact ⟨by unfold refM; rw [t1, t2, t3, t4]; rfl, HB.out⟩
        · have t4 : decide (l ≤ 1048576) = false := decide_eq_false h3
          clear HC HF HL
          go_wp2
          go_ret
          exact ⟨by unfold refM; rw [t1, t2, t3, t4]; rfl, HB.out⟩
      · have t3 : decide (0 ≤ l) = false := decide_eq_false h2
        clear HC HF HL
        go_wp2
        go_ret
        exact ⟨by unfold refM; rw [t1, t2, t3]; rfl, HB.out⟩
    · have t2 : decide (f < s.a) = false := decide_eq_false h1
      clear HC HF HL
      go_wp2
      go_ret
      exact ⟨by unfold refM; rw [t1, t2]; rfl, HB.out⟩
  · have t1 : decide (2 + s.b ≤ f) = false := decide_eq_false h0
    clear HC HF HL
    go_wp2
    go_ret
    exact ⟨by unfold refM; rw [t1]; rfl, HB.out⟩
end Go.Proofs.YtaflofcnjakaaaaDoor.M

namespace Go.Proofs.YtaflofcnjakaaaaDoor.M
open Go.RowKit Go.Maps Go.Proofs.YtaflofcnjakaaaaDoorW.PrintWords Go.Proofs.YtaflofcnjakaaaaDoorW.PrintLast Go.Proofs.YtaflofcnjakaaaaDoorW.PrintMore Go.Proofs.YtaflofcnjakaaaaDoor.Wr Go.Proofs.YtaflofcnjakaaaaDoor.Pl Go.Proofs.YtaflofcnjakaaaaDoor.P
set_option linter.unusedVariables false
set_option linter.unusedSimpArgs false
theorem size25 {n : Nat} (h : n = 34) : (Tryd.prog.info? 25).map (·.size) = some n := by subst h; kernel_rfl
theorem size27 {n : Nat} (h : n = 105) : (Tryd.prog.info? 27).map (·.size) = some n := by subst h; kernel_rfl
theorem size23 {n : Nat} (h : n = 32) : (Tryd.prog.info? 23).map (·.size) = some n := by subst h; kernel_rfl
structure SlAt (w : World) (g : Nat) (s : SL) : Prop where
  b : w.heap[g]? = some (.cells s.V.toArray 27 (0, 0))
  ok : s.Ok
theorem SlAt.c0 {w : World} {g : Nat} {s : SL} (h : SlAt w g s) : w.cell? ⟨g, 0, none⟩ = some (.int .i64 s.a) := cell_at h.b 0 s.V0
theorem SlAt.c1 {w : World} {g : Nat} {s : SL} (h : SlAt w g s) : w.cell? ⟨g, 1, none⟩ = some (.int .i64 s.b) := cell_at h.b 1 s.V1
theorem SlAt.c2 {w : World} {g : Nat} {s : SL} (h : SlAt w g s) : w.cell? ⟨g, 2, none⟩ = some (.int .i64 s.c) := cell_at h.b 2 s.V2
theorem SlAt.c3 {w : World} {g : Nat} {s : SL} (h : SlAt w g s) : w.cell? ⟨g, 3, none⟩ = some (.int .i64 s.d) := cell_at h.b 3 s.V3
theorem SlAt.c4 {w : World} {g : Nat} {s : SL} (h : SlAt w g s) : w.cell? ⟨g, 4, none⟩ = some (.int .i64 s.e) := cell_at h.b 4 s.V4
theorem SlAt.root {w : World} {g : Nat} {s : SL} (h : SlAt w g s) : ∀ j v, (refV s.rh s.rf s.rl).toArray.toList[j]? = some v → w.cell? ((⟨g, 37, none⟩ : Addr).add j) = some v := fun j v hv => seg_at h.b 37 (refV s.rh s.rf s.rl) (SL.V_root h.ok) j v (by simpa using hv)
theorem SlAt.memo {w : World} {g : Nat} {s : SL} (h : SlAt w g s) : ∀ j v, (refV s.mh s.mf s.ml).toArray.toList[j]? = some v → w.cell? ((⟨g, 71, none⟩ : Addr).add j) = some v := fun j v hv => seg_at h.b 71 (refV s.mh s.mf s.ml) (SL.V_memo h.ok) j v (by simpa using hv)
theorem SlAt.all {w : World} {g : Nat} {s : SL} (h : SlAt w g s) : ∀ j v, s.V.toArray.toList[j]? = some v → w.cell? ((⟨g, 0, none⟩ : Addr).add j) = some v := fun j v hv => seg_at h.b 0 s.V (by rw [List.drop_zero]; exact List.take_of_length_le (Nat.le_refl _)) j v (by simpa using hv)
theorem SlAt.below {w w' : World} {g : Nat} {s : SL} (h : SlAt w g s) (hb : Below w.heap.size w w') : SlAt w' g s := ⟨blk_below h.b hb, h.ok⟩
theorem SlAt.sr {s : SL} (h : s.Ok) : (Tryd.prog.info? 25).map (·.size) = some (refV s.rh s.rf s.rl).toArray.size := size25 (by simpa using refV_len h.r s.rf s.rl)
theorem SlAt.sm {s : SL} (h : s.Ok) : (Tryd.prog.info? 25).map (·.size) = some (refV s.mh s.mf s.ml).toArray.size := size25 (by simpa using refV_len h.m s.mf s.ml)
theorem SlAt.sa {s : SL} (h : s.Ok) : (Tryd.prog.info? 27).map (·.size) = some s.V.toArray.size := size27 (by simpa using SL.V_len h)
set_option maxHeartbeats 16000000 in
set_option maxRecDepth 100000 in
theorem may_calls (s : SL) (hs : s.Ok) (w : World) : Calls Tryd.prog 35 #[.agg s.V.toArray] w fun e w' => e = .returned (.bool (mayM s)) ∧ Below w.heap.size w w' := by
  have HB := Aside0.mk (below_alloc (Below.refl w.heap.size w) (.cells s.V.toArray 27))
  have HS := Aside0.mk (SlAt.mk (heap_alloc_new w (.cells s.V.toArray 27)) hs)
  have HOK := Aside0.mk hs
  clear hs
  have hcut : ∀ (e : Ending) (w' : World) (b : Bool), e = .returned (.bool b) → b = mayM s → Below w.heap.size w w' → e = .returned (.bool (mayM s)) ∧ Below w.heap.size w w' := fun e w' b he hb hw => ⟨by rw [he, hb], hw⟩
  have HCUT := Aside0.mk hcut
  clear hcut
  generalize hV : s.V.toArray = V at HB ⊢
  rw [hV] at HS
  go_enter Tryd.func35, Tryd.ntmps35
  go_upto_region 3 with (fail)
  clear hV
  generalize w.alloc (.cells V 27) = w1 at HB HS ⊢
  generalize w.heap.size = gb at HS ⊢
  have x0 := HS.out.c0
  have x1 := HS.out.c1
  have x2 := HS.out.c2
  have x3 := HS.out.c3
  have x4 := HS.out.c4
  by_cases h0 : 2 ≤ s.a
  · have t1 : decide (2 ≤ s.a) = true := decide_eq_true h0
    by_cases h1 : s.a ≤ 65536
    · have t2 : decide (s.a ≤ 65536) = true := decide_eq_true h1
      by_cases h2 : 8 ≤ s.b
      · have t3 : decide (8 ≤ s.b) = true := decide_eq_true h2
        by_cases h3 : s.b ≤ 1024
        · have t4 : decide (s.b ≤ 1024) = true := decide_eq_true h3
          by_cases h4 : 4 + s.b ≤ s.a
          · have t5 : decide (4 + s.b ≤ s.a) = true := decide_eq_true h4
            cases u1 : cntM s.c with
            | false =>
              have Hu1 := Aside0.mk (fun W => (show Calls Tryd.prog 62 #[.int .i64 s.c] W (fun e w' => e = .returned (.bool false) ∧ w' = W) from by have h := counts_calls s.c W; rw [u1] at h; exact h))
              go_wp2_with (first
                | (go_at_call 62; (with_reducible refine (Hu1.out _).mono ?_); rintro e w2 ⟨rfl, hw⟩; subst hw))
              go_ret
              exact HCUT.out _ _ _ rfl (by unfold mayM headM; rw [t1, t2, t3, t4, t5, u1]; rfl) HB.out
            | true =>
              cases u2 : cntM s.d with
              | false =>
                have Hu1 := Aside0.mk (fun W => (show Calls Tryd.prog 62 #[.int .i64 s.c] W (fun e w' => e = .returned (.bool true) ∧ w' = W) from by have h := counts_calls s.c W; rw [u1] at h; exact h))
                have Hu2 := Aside0.mk (fun W => (show Calls Tryd.prog 62 #[.int .i64 s.d] W (fun e w' => e = .returned (.bool false) ∧ w' = W) from by have h := counts_calls s.d W; rw [u2] at h; exact h))
                go_wp2_with (first
                  | (go_at_call 62; (with_reducible refine (Hu1.out _).mono ?_); rintro e w2 ⟨rfl, hw⟩; subst hw)
                  | (go_at_call 62; (with_reducible refine (Hu2.out _).mono ?_); rintro e w2 ⟨rfl, hw⟩; subst hw))
                go_ret
                exact HCUT.out _ _ _ rfl (by unfold mayM headM; rw [t1, t2, t3, t4, t5, u1, u2]; rfl) HB.out
              | true =>
                cases u3 : cntM s.e with
                | false =>
                  have Hu1 := Aside0.mk (fun W => (show Calls Tryd.prog 62 #[.int .i64 s.c] W (fun e w' => e = .returned (.bool true) ∧ w' = W) from by have h := counts_calls s.c W; rw [u1] at h; exact h))
                  have Hu2 := Aside0.mk (fun W => (show Calls Tryd.prog 62 #[.int .i64 s.d] W (fun e w' => e = .returned (.bool true) ∧ w' = W) from by have h := counts_calls s.d W; rw [u2] at h; exact h))
                  have Hu3 := Aside0.mk (fun W => (show Calls Tryd.prog 62 #[.int .i64 s.e] W (fun e w' => e = .returned (.bool false) ∧ w' = W) from by have h := counts_calls s.e W; rw [u3] at h; exact h))
                  go_wp2_with (first
                    | (go_at_call 62; (with_reducible refine (Hu1.out _).mono ?_); rintro e w2 ⟨rfl, hw⟩; subst hw)
                    | (go_at_call 62; (with_reducible refine (Hu2.out _).mono ?_); rintro e w2 ⟨rfl, hw⟩; subst hw)
                    | (go_at_call 62; (with_reducible refine (Hu3.out _).mono ?_); rintro e w2 ⟨rfl, hw⟩; subst hw))
                  go_ret
                  exact HCUT.out _ _ _ rfl (by unfold mayM headM; rw [t1, t2, t3, t4, t5, u1, u2, u3]; rfl) HB.out
                | true =>
                  cases u4 : refM s s.rf s.rl with
                  | false =>
                    have Hu1 := Aside0.mk (fun W => (show Calls Tryd.prog 62 #[.int .i64 s.c] W (fun e w' => e = .returned (.bool true) ∧ w' = W) from by have h := counts_calls s.c W; rw [u1] at h; exact h))
                    have Hu2 := Aside0.mk (fun W => (show Calls Tryd.prog 62 #[.int .i64 s.d] W (fun e w' => e = .returned (.bool true) ∧ w' = W) from by have h := counts_calls s.d W; rw [u2] at h; exact h))
                    have Hu3 := Aside0.mk (fun W => (show Calls Tryd.prog 62 #[.int .i64 s.e] W (fun e w' => e = .returned (.bool true) ∧ w' = W) from by have h := counts_calls s.e W; rw [u3] at h; exact h))
                    have Hu4 := Aside0.mk (fun W (hS : SlAt W gb s) => (show Calls Tryd.prog 61 #[.agg (refV s.rh s.rf s.rl).toArray, .pointer (some ⟨gb, 0, none⟩)] W (fun e w' => e = .returned (.bool false) ∧ Below W.heap.size W w') from by have h := lies_calls s s.rh s.rf s.rl HOK.out.r gb W hS.b (by omega); rw [u4] at h; exact h))
                    go_wp2_with (first
                      | (go_at_call 62; (with_reducible refine (Hu1.out _).mono ?_); rintro e w2 ⟨rfl, hw⟩; subst hw)
                      | (go_at_call 62; (with_reducible refine (Hu2.out _).mono ?_); rintro e w2 ⟨rfl, hw⟩; subst hw)
                      | (go_at_call 62; (with_reducible refine (Hu3.out _).mono ?_); rintro e w2 ⟨rfl, hw⟩; subst hw)
                      | ((with_reducible refine gate_load (ty := 25) rfl ?_); refine wpList_ldw ?_ 25 _ rfl ⟨gb, 37, none⟩ ?_ (refV s.rh s.rf s.rl).toArray _ HS.out.root Tryd.underlying25 rfl (SlAt.sr HOK.out) ?_; exact rfl; exact rfl; skip)
                      | (go_at_call 61; (with_reducible refine (Hu4.out _ HS.out).mono ?_); rintro e w3 ⟨rfl, hw⟩; have HS3 := Aside0.mk (HS.out.below hw); have HB3 := Aside0.mk (below_step HB.out hw); clear hw))
                    go_ret
                    exact HCUT.out _ _ _ rfl (by unfold mayM headM; rw [t1, t2, t3, t4, t5, u1, u2, u3, u4]; rfl) HB3.out
                  | true =>
                    cases u5 : refM s s.mf s.ml with
                    | false =>
                      have Hu1 := Aside0.mk (fun W => (show Calls Tryd.prog 62 #[.int .i64 s.c] W (fun e w' => e = .returned (.bool true) ∧ w' = W) from by have h := counts_calls s.c W; rw [u1] at h; exact h))
                      have Hu2 := Aside0.mk (fun W => (show Calls Tryd.prog 62 #[.int .i64 s.d] W (fun e w' => e = .returned (.bool true) ∧ w' = W) from by have h := counts_calls s.d W; rw [u2] at h; exact h))
                      have Hu3 := Aside0.mk (fun W => (show Calls Tryd.prog 62 #[.int .i64 s.e] W (fun e w' => e = .returned (.bool true) ∧ w' = W) from by have h := counts_calls s.e W; rw [u3] at h; exact h))
                      have Hu4 := Aside0.mk (fun W (hS : SlAt W gb s) => (show Calls Tryd.prog 61 #[.agg (refV s.rh s.rf s.rl).toArray, .pointer (some ⟨gb, 0, none⟩)] W (fun e w' => e = .returned (.bool true) ∧ Below W.heap.size W w') from by have h := lies_calls s s.rh s.rf s.rl HOK.out.r gb W hS.b (by omega); rw [u4] at h; exact h))
                      have Hu5 := Aside0.mk (fun W (hS : SlAt W gb s) => (show Calls Tryd.prog 61 #[.agg (refV s.mh s.mf s.ml).toArray, .pointer (some ⟨gb, 0, none⟩)] W (fun e w' => e = .returned (.bool false) ∧ Below W.heap.size W w') from by have h := lies_calls s s.mh s.mf s.ml HOK.out.m gb W hS.b (by omega); rw [u5] at h; exact h))
                      go_wp2_with (first
                        | (go_at_call 62; (with_reducible refine (Hu1.out _).mono ?_); rintro e w2 ⟨rfl, hw⟩; subst hw)
                        | (go_at_call 62; (with_reducible refine (Hu2.out _).mono ?_); rintro e w2 ⟨rfl, hw⟩; subst hw)
                        | (go_at_call 62; (with_reducible refine (Hu3.out _).mono ?_); rintro e w2 ⟨rfl, hw⟩; subst hw)
                        | ((with_reducible refine gate_load (ty := 25) rfl ?_); refine wpList_ldw ?_ 25 _ rfl ⟨gb, 37, none⟩ ?_ (refV s.rh s.rf s.rl).toArray _ HS.out.root Tryd.underlying25 rfl (SlAt.sr HOK.out) ?_; exact rfl; exact rfl; skip)
                        | (go_at_call 61; (with_reducible refine (Hu4.out _ HS.out).mono ?_); rintro e w3 ⟨rfl, hw⟩; have HS3 := Aside0.mk (HS.out.below hw); have HB3 := Aside0.mk (below_step HB.out hw); clear hw)
                        | ((with_reducible refine gate_load (ty := 25) rfl ?_); refine wpList_ldw ?_ 25 _ rfl ⟨gb, 71, none⟩ ?_ (refV s.mh s.mf s.ml).toArray _ HS3.out.memo Tryd.underlying25 rfl (SlAt.sm HOK.out) ?_; exact rfl; exact rfl; skip)
                        | (go_at_call 61; (with_reducible refine (Hu5.out _ HS3.out).mono ?_); rintro e w4 ⟨rfl, hw⟩; have HS4 := Aside0.mk (HS3.out.below hw); have HB4 := Aside0.mk (below_step HB3.out hw); clear hw))
                      go_ret
                      exact HCUT.out _ _ _ rfl (by unfold mayM headM; rw [t1, t2, t3, t4, t5, u1, u2, u3, u4, u5]; rfl) HB4.out
                    | true =>
                      have Hu1 := Aside0.mk (fun W => (show Calls Tryd.prog 62 #[.int .i64 s.c] W (fun e w' => e = .returned (.bool true) ∧ w' = W) from by have h := counts_calls s.c W; rw [u1] at h; exact h))
                      have Hu2 := Aside0.mk (fun W => (show Calls Tryd.prog 62 #[.int .i64 s.d] W (fun e w' => e = .returned (.bool true) ∧ w' = W) from by have h := counts_calls s.d W; rw [u2] at h; exact h))
                      have Hu3 := Aside0.mk (fun W => (show Calls Tryd.prog 62 #[.int .i64 s.e] W (fun e w' => e = .returned (.bool true) ∧ w' = W) from by have h := counts_calls s.e W; rw [u3] at h; exact h))
                      have Hu4 := Aside0.mk (fun W (hS : SlAt W gb s) => (show Calls Tryd.prog 61 #[.agg (refV s.rh s.rf s.rl).toArray, .pointer (some ⟨gb, 0, none⟩)] W (fun e w' => e = .returned (.bool true) ∧ Below W.heap.size W w') from by have h := lies_calls s s.rh s.rf s.rl HOK.out.r gb W hS.b (by omega); rw [u4] at h; exact h))
                      have Hu5 := Aside0.mk (fun W (hS : SlAt W gb s) => (show Calls Tryd.prog 61 #[.agg (refV s.mh s.mf s.ml).toArray, .pointer (some ⟨gb, 0, none⟩)] W (fun e w' => e = .returned (.bool true) ∧ Below W.heap.size W w') from by have h := lies_calls s s.mh s.mf s.ml HOK.out.m gb W hS.b (by omega); rw [u5] at h; exact h))
                      go_wp2_with (first
                        | (go_at_call 62; (with_reducible refine (Hu1.out _).mono ?_); rintro e w2 ⟨rfl, hw⟩; subst hw)
                        | (go_at_call 62; (with_reducible refine (Hu2.out _).mono ?_); rintro e w2 ⟨rfl, hw⟩; subst hw)
                        | (go_at_call 62; (with_reducible refine (Hu3.out _).mono ?_); rintro e w2 ⟨rfl, hw⟩; subst hw)
                        | ((with_reducible refine gate_load (ty := 25) rfl ?_); refine wpList_ldw ?_ 25 _ rfl ⟨gb, 37, none⟩ ?_ (refV s.rh s.rf s.rl).toArray _ HS.out.root Tryd.underlying25 rfl (SlAt.sr HOK.out) ?_; exact rfl; exact rfl; skip)
                        | (go_at_call 61; (with_reducible refine (Hu4.out _ HS.out).mono ?_); rintro e w3 ⟨rfl, hw⟩; have HS3 := Aside0.mk (HS.out.below hw); have HB3 := Aside0.mk (below_step HB.out hw); clear hw)
                        | ((with_reducible refine gate_load (ty := 25) rfl ?_); refine wpList_ldw ?_ 25 _ rfl ⟨gb, 71, none⟩ ?_ (refV s.mh s.mf s.ml).toArray _ HS3.out.memo Tryd.underlying25 rfl (SlAt.sm HOK.out) ?_; exact rfl; exact rfl; skip)
                        | (go_at_call 61; (with_reducible refine (Hu5.out _ HS3.out).mono ?_); rintro e w4 ⟨rfl, hw⟩; have HS4 := Aside0.mk (HS3.out.below hw); have HB4 := Aside0.mk (below_step HB3.out hw); clear hw))
                      go_ret
                      exact HCUT.out _ _ _ rfl (by unfold mayM headM; rw [t1, t2, t3, t4, t5, u1, u2, u3, u4, u5]; rfl) HB4.out
          · have t5 : decide (4 + s.b ≤ s.a) = false := decide_eq_false h4
            go_wp2
            go_ret
            exact HCUT.out _ _ _ rfl (by unfold mayM headM; rw [t1, t2, t3, t4, t5]; rfl) HB.out
        · have t4 : decide (s.b ≤ 1024) = false := decide_eq_false h3
          go_wp2
          go_ret
          exact HCUT.out _ _ _ rfl (by unfold mayM headM; rw [t1, t2, t3, t4]; rfl) HB.out
      · have t3 : decide (8 ≤ s.b) = false := decide_eq_false h2
        go_wp2
        go_ret
        exact HCUT.out _ _ _ rfl (by unfold mayM headM; rw [t1, t2, t3]; rfl) HB.out
    · have t2 : decide (s.a ≤ 65536) = false := decide_eq_false h1
      go_wp2
      go_ret
      exact HCUT.out _ _ _ rfl (by unfold mayM headM; rw [t1, t2]; rfl) HB.out
  · have t1 : decide (2 ≤ s.a) = false := decide_eq_false h0
    go_wp2
    go_ret
    exact HCUT.out _ _ _ rfl (by unfold mayM headM; rw [t1]; rfl) HB.out
end Go.Proofs.YtaflofcnjakaaaaDoor.M
