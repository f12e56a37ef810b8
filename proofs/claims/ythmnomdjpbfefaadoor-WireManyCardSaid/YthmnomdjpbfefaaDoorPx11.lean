-- written by a program of this session, after the kit's print
import Derived.Test.YthmnomdjpbfefaaDoorPx0
import Derived.Test.YthmnomdjpbfefaaDoorPx2
import Derived.Test.YthmnomdjpbfefaaDoorPx3
import Derived.Test.YthmnomdjpbfefaaDoorPx5
import Derived.Test.YthmnomdjpbfefaaDoorPx7
namespace Go.Proofs.YthmnomdjpbfefaaDoor.P
open Go.Proofs.YthmnomdjpbfefaaDoor.M
open Go.RowKit Go.Proofs.YthmnomdjpbfefaaDoorW.PrintWords Go.Proofs.YthmnomdjpbfefaaDoorW.PrintLast Go.Proofs.YthmnomdjpbfefaaDoorW.PrintMore
attribute [local go_sem] max2_int min2_int max_two min_two max_three min_three max_four min_four   -- for this text's walks alone
set_option linter.unusedVariables false
set_option linter.unusedSimpArgs false

/-! ### kilnlaw1_WireCuts: function 11 -/
mutual
def kilnlaw1_WireCuts.l0 : Nat → List Int → Int → List (S43) → Int → Option (Bool)
  | 0, _, _, _, _ => none
  | k + 1, x1, x2, x7, x8 => if x8 < (x7.length : Int) then (if 0 ≤ x8 then (if (((rd_T43 x7 x8).f0).length : Int) = 0 then (some false) else (if (Int.tmod x2 (((rd_T43 x7 x8).f0).length : Int)) < 0 then (kilnlaw1_WireCuts.j1 k x1 x2 x7 x8 (wrap64 ((Int.tmod x2 (((rd_T43 x7 x8).f0).length : Int)) + (((rd_T43 x7 x8).f0).length : Int)))) else (kilnlaw1_WireCuts.j1 k x1 x2 x7 x8 (Int.tmod x2 (((rd_T43 x7 x8).f0).length : Int))))) else (none)) else ((kilnlaw1_started.f k).bind fun t286 => (some t286))
def kilnlaw1_WireCuts.j1 : Nat → List Int → Int → List (S43) → Int → Int → Option (Bool)
  | 0, _, _, _, _, _ => none
  | k + 1, x1, x2, x7, x8, x10 => if 0 ≤ x8 then (if x8 < (x7.length : Int) then (if 0 ≤ x10 then (if x10 ≤ (((rd_T43 x7 x8).f0).length : Int) then ((some (((rd_T43 x7 x8).f0).take (x10 : Int).toNat : List Int)).bind fun y289 => (if ((rd_T43 x7 x8).f1) = 2 then ((wire_ReadUint.f k y289 0).bind fun bt295 => ((kilnlaw1_num.f bt295.2.2).bind fun t298 => (if t298 = 10 then (kilnlaw1_WireCuts.l0 k x1 x2 x7 (wrap64 (x8 + 1))) else (some false)))) else (if ((rd_T43 x7 x8).f1) = 4 then ((wire_ReadFixed.f k y289 0 ((rd_T43 x7 x8).f2)).bind fun bt300 => ((kilnlaw1_num.f bt300.2.2).bind fun t303 => (if t303 = 10 then (kilnlaw1_WireCuts.l0 k x1 x2 x7 (wrap64 (x8 + 1))) else (some false)))) else ((wire_ReadBytes.f k y289 0 (x1.length : Int)).bind fun bt304 => ((kilnlaw1_num.f bt304.2.2).bind fun t309 => (if t309 = 10 then (kilnlaw1_WireCuts.l0 k x1 x2 x7 (wrap64 (x8 + 1))) else (some false))))))) else (none)) else (none)) else (none)) else (none)
end
def kilnlaw1_WireCuts.f (k : Nat) (a0 : Int) (l1 : List Int) (a2 : Int) : Option (Bool) := (kilnlaw1_written.f k a0 l1).bind fun t283 => (kilnlaw1_WireCuts.l0 k l1 a2 t283 0)
theorem kilnlaw1_WireCuts.mono_l : ∀ k, (∀ y0 y1 y2 y3, LeO (kilnlaw1_WireCuts.l0 k y0 y1 y2 y3) (kilnlaw1_WireCuts.l0 (k + 1) y0 y1 y2 y3)) ∧ (∀ y0 y1 y2 y3 y4, LeO (kilnlaw1_WireCuts.j1 k y0 y1 y2 y3 y4) (kilnlaw1_WireCuts.j1 (k + 1) y0 y1 y2 y3 y4))
  | 0 => ⟨fun _ _ _ _ r h => by simp [kilnlaw1_WireCuts.l0] at h, fun _ _ _ _ _ r h => by simp [kilnlaw1_WireCuts.j1] at h⟩
  | k + 1 => by
    obtain ⟨ih0, ih1⟩ := kilnlaw1_WireCuts.mono_l k
    refine ⟨?_, ?_⟩
    · intro y0 y1 y2 y3
      unfold kilnlaw1_WireCuts.l0
      repeat' first
      | (with_reducible exact ih0 _ _ _ _)
      | (with_reducible exact ih1 _ _ _ _ _)
      | (with_reducible exact kilnlaw1_started.mono _)
      | (with_reducible exact kilnlaw1_written.mono _ _ _)
      | (with_reducible exact wire_ReadBytes.mono _ _ _ _)
      | (with_reducible exact wire_ReadFixed.mono _ _ _ _)
      | (with_reducible exact wire_ReadUint.mono _ _ _)
      | (with_reducible exact LeO.refl _)
      | (with_reducible exact LeO.none _)
      | (with_reducible refine LeO.ite ?_ ?_)
      | (with_reducible refine LeO.bind ?_ (fun _ => ?_))
      | exact ih0 _ _ _ _
      | exact ih1 _ _ _ _ _
      | exact kilnlaw1_started.mono _
      | exact kilnlaw1_written.mono _ _ _
      | exact wire_ReadBytes.mono _ _ _ _
      | exact wire_ReadFixed.mono _ _ _ _
      | exact wire_ReadUint.mono _ _ _
      | exact LeO.none _
      | refine LeO.ite ?_ ?_
      | refine LeO.bind ?_ (fun _ => ?_)
    · intro y0 y1 y2 y3 y4
      unfold kilnlaw1_WireCuts.j1
      repeat' first
      | (with_reducible exact ih0 _ _ _ _)
      | (with_reducible exact ih1 _ _ _ _ _)
      | (with_reducible exact kilnlaw1_started.mono _)
      | (with_reducible exact kilnlaw1_written.mono _ _ _)
      | (with_reducible exact wire_ReadBytes.mono _ _ _ _)
      | (with_reducible exact wire_ReadFixed.mono _ _ _ _)
      | (with_reducible exact wire_ReadUint.mono _ _ _)
      | (with_reducible exact LeO.refl _)
      | (with_reducible exact LeO.none _)
      | (with_reducible refine LeO.ite ?_ ?_)
      | (with_reducible refine LeO.bind ?_ (fun _ => ?_))
      | exact ih0 _ _ _ _
      | exact ih1 _ _ _ _ _
      | exact kilnlaw1_started.mono _
      | exact kilnlaw1_written.mono _ _ _
      | exact wire_ReadBytes.mono _ _ _ _
      | exact wire_ReadFixed.mono _ _ _ _
      | exact wire_ReadUint.mono _ _ _
      | exact LeO.none _
      | refine LeO.ite ?_ ?_
      | refine LeO.bind ?_ (fun _ => ?_)
theorem kilnlaw1_WireCuts.mono : ∀ a0 a1 a2 k, LeO (kilnlaw1_WireCuts.f k a0 a1 a2) (kilnlaw1_WireCuts.f (k + 1) a0 a1 a2) := by
  intro a0 a1 a2 k
  obtain ⟨ih0, ih1⟩ := kilnlaw1_WireCuts.mono_l k
  unfold kilnlaw1_WireCuts.f
  repeat' first
      | (with_reducible exact ih0 _ _ _ _)
      | (with_reducible exact ih1 _ _ _ _ _)
      | (with_reducible exact kilnlaw1_started.mono _)
      | (with_reducible exact kilnlaw1_written.mono _ _ _)
      | (with_reducible exact wire_ReadBytes.mono _ _ _ _)
      | (with_reducible exact wire_ReadFixed.mono _ _ _ _)
      | (with_reducible exact wire_ReadUint.mono _ _ _)
      | (with_reducible exact LeO.refl _)
      | (with_reducible exact LeO.none _)
      | (with_reducible refine LeO.ite ?_ ?_)
      | (with_reducible refine LeO.bind ?_ (fun _ => ?_))
      | exact ih0 _ _ _ _
      | exact ih1 _ _ _ _ _
      | exact kilnlaw1_started.mono _
      | exact kilnlaw1_written.mono _ _ _
      | exact wire_ReadBytes.mono _ _ _ _
      | exact wire_ReadFixed.mono _ _ _ _
      | exact wire_ReadUint.mono _ _ _
      | exact LeO.none _
      | refine LeO.ite ?_ ?_
      | refine LeO.bind ?_ (fun _ => ?_)
set_option maxHeartbeats 8000000 in
set_option maxRecDepth 100000 in
theorem kilnlaw1_WireCuts.calls (k : Nat) (a0 : Int) (A1 : Option Addr) (c1 : Nat) (l1 : List Int) (a2 : Int) (r : Bool) (w : World) (hr1 : Kd.C (Kd.int .u8) w A1 l1.length l1) (hc1 : l1.length ≤ c1) (hG : Half w) (h : kilnlaw1_WireCuts.f k a0 l1 a2 = some r) :
    Calls Tryd.prog 11 #[.int .u64 a0, .slice A1 l1.length c1, .int .i64 a2] w fun e w' => e = .returned (.bool r) ∧ Below w.heap.size w w' := by
  have HR1 := Aside0.mk hr1
  have HC1 := Aside0.mk hc1
  clear hr1 hc1
  have HG := Aside0.mk hG
  clear hG
  have HB := Aside0.mk (Below.refl w.heap.size w)
  have H : ((kilnlaw1_written.f k a0 l1).bind fun t283 => (kilnlaw1_WireCuts.l0 k l1 a2 t283 0)) = some r := h
  clear h
  replace H := Option.bind_eq_some_iff.mp H
  obtain ⟨t283, A40, H⟩ := H
  replace H : (kilnlaw1_WireCuts.l0 k l1 a2 t283 0) = some r := H
  have A4 := Aside0.mk A40
  clear A40
  have H' := Aside0.mk H
  clear H
  go_enter Tryd.func11, Tryd.ntmps11
  go_wp2_with (first | ((with_reducible refine gate_callee (f := 26) rfl ?_); refine goesL_ (some 24) rfl rfl Tryd.func26 (by kernel_rfl) rfl #[.int .u64 a0, .slice A1 l1.length c1] rfl (by (try simp only [List.map_toArray, List.map_cons, List.map_nil]); first | done | rfl | (simp only [List.length_drop, List.length_take]; rfl)) ?_; (with_reducible refine (kilnlaw1_written.calls k a0 _ _ l1 t283 _ ?side1 ?side2 A4.out).mono ?_); (case side1 => repeat (first | exact HR1.out | (with_reducible refine Kd.C_alloc ?_ _) | (with_reducible refine Kd.C_drewN ?_ _) | (with_reducible refine Kd.C_drew ?_))); (case side2 => exact HC1.out); rintro e w5 ⟨v284, rfl, ho0, hb⟩; refine ⟨_, rfl, ?_⟩; have n0_ := Aside0.mk (Kd.N_lower (Kd.N_mono (ok' := fun k_ => True) ho0 (fun k_ hk_ => trivial)) (below_size (by repeat (first | (with_reducible first | exact HB.out | apply below_alloc | apply pw_below_drewN | apply below_drew1) | exact HB.out)))); have n1_ := Aside0.mk (below_step (by repeat (first | (with_reducible first | exact HB.out | apply below_alloc | apply pw_below_drewN | apply below_drew1) | exact HB.out)) hb); clear HB; have HO285 := n0_; have HB := n1_; clear n0_ n1_; (try clear hb); (try clear hb2); (try clear hk); (try clear hi); (try clear ho0)))
  go_loopg [8] k (fun kq v8 w' => ∃ (x8_1 : Int), v8 = .int .i64 x8_1 ∧ Aside0 (kilnlaw1_WireCuts.l0 kq l1 a2 t283 x8_1 = some r) ∧ Aside0 (kq ≤ k) ∧ Aside0 (Kd.N k43 43 w' w.heap.size (fun _ => True) v284 t283) ∧ Aside0 (Below w.heap.size w w'))
  case atStart => exact ⟨(0), (by first | rfl | (simp; done) | (simp [*]; done)), H', ⟨Nat.le_refl _⟩, ⟨by (with_reducible repeat (first | apply Kd.N_alloc | apply Kd.N_drewN | apply Kd.N_drew)); exact HO285.out⟩, ⟨by repeat (first | (with_reducible first | exact HB.out | apply below_alloc | apply pw_below_drewN | apply below_drew1) | exact HB.out)⟩⟩
  case round =>
    clear H'
    try clear c1
    try clear c2
    try clear p2
    obtain ⟨x8_1, rfl, HA, HK1, HO_7, HB⟩ := hrel
    cases gk with
    | zero => exact absurd HA.out (by simp [kilnlaw1_WireCuts.l0])
    | succ k1 =>
      have H := HA.out
      clear HA
      simp only [kilnlaw1_WireCuts.l0] at H
      by_cases c6 : x8_1 < (t283.length : Int)
      · rw [if_pos c6] at H
        have c6b0 : decide (x8_1 < (t283.length : Int)) = true := decide_eq_true c6
        clear c6
        by_cases c7 : 0 ≤ x8_1
        · rw [if_pos c7] at H
          have c7b0 : decide (0 ≤ x8_1) = true := decide_eq_true c7
          clear c7
          by_cases c8 : (((rd_T43 t283 x8_1).f0).length : Int) = 0
          · rw [if_pos c8] at H
            have c8b0 : ((((rd_T43 t283 x8_1).f0).length : Int) == 0) = true := beq_iff_eq.mpr c8
            have c8b1 : ((((rd_T43 t283 x8_1).f0).length : Int) != 0) = false := bne_eq_false_iff_eq.mpr c8
            clear c8
            obtain rfl := Option.some.inj H
            obtain ⟨Ao9, co9, eo9⟩ := Kd.N_slice HO_7.out
            subst eo9
            have p287 : 0 ≤ (x8_1 : Int) := of_decide_eq_true (by first | (with_reducible assumption) | assumption)
            have q287 : x8_1 < (t283.length : Int) := of_decide_eq_true (by first | (with_reducible assumption) | assumption)
            obtain ⟨ad287, A287_0, c287_0, e287, hx287_0, hx287_1, hx287_2, hx287_3, hl287_0, hi287_0⟩ := at_T43 (Kd.N_reads' HO_7.out).2.2 x8_1 p287 q287
            cases e287
            obtain ⟨ce287, hce287, hMe287, hcc287⟩ := Kd.N_get HO_7.out z43 x8_1 p287 (by first | exact q287 | exact of_decide_eq_true (by first | (with_reducible assumption) | assumption) | (have e_ := (Kd.N_reads' HO_7.out).1; omega))
            obtain ⟨ua287_0, uc287_0, rfl, ul287_0, ge287_0⟩ := k43_openF hMe287
            have hv287_0 := hcc287 0 _ rfl
            rw [Nat.add_zero] at hv287_0
            replace hv287_0 := Option.some.inj (hv287_0.symm.trans hx287_0)
            injection hv287_0 with hva_ hvn_ hvc_
            rw [hva_] at ge287_0
            rw [hvc_] at ul287_0
            have HL287_0 := Aside0.mk (show Kd.V (Kd.int .u8) 5 _ w.heap.size _ _ ((rd_T43 t283 x8_1).f0) from Kd.V_mk ul287_0 ge287_0)
            clear hva_ hvn_ hvc_ ge287_0 ul287_0
            clear hcc287 hce287
            have HR287_0 := Aside0.mk hi287_0
            have HC287_0 := Aside0.mk hl287_0
            clear hi287_0 hl287_0
            replace p287 := eq_true p287
            replace q287 := eq_true q287
            go_wp2
            go_ret
            exact ⟨by first | rfl | (simp [errW_none, errW_some] <;> rfl) | (simp [*, errW_none, errW_some] <;> rfl), by repeat (first | (with_reducible first | exact HB.out | apply below_alloc | apply pw_below_drewN | apply below_drew1) | exact HB.out)⟩
          · rw [if_neg c8] at H
            have c8b0 : ((((rd_T43 t283 x8_1).f0).length : Int) == 0) = false := beq_eq_false_iff_ne.mpr c8
            have c8b1 : ((((rd_T43 t283 x8_1).f0).length : Int) != 0) = true := bne_iff_ne.mpr c8
            have c8b2 : ¬ (((rd_T43 t283 x8_1).f0) = []) := fun h_ => c8 (by rw [h_]; rfl)
            have HC10 := Aside0.mk H
            clear H
            obtain ⟨Ao11, co11, eo11⟩ := Kd.N_slice HO_7.out
            subst eo11
            have p287 : 0 ≤ (x8_1 : Int) := of_decide_eq_true (by first | (with_reducible assumption) | assumption)
            have q287 : x8_1 < (t283.length : Int) := of_decide_eq_true (by first | (with_reducible assumption) | assumption)
            obtain ⟨ad287, A287_0, c287_0, e287, hx287_0, hx287_1, hx287_2, hx287_3, hl287_0, hi287_0⟩ := at_T43 (Kd.N_reads' HO_7.out).2.2 x8_1 p287 q287
            cases e287
            obtain ⟨ce287, hce287, hMe287, hcc287⟩ := Kd.N_get HO_7.out z43 x8_1 p287 (by first | exact q287 | exact of_decide_eq_true (by first | (with_reducible assumption) | assumption) | (have e_ := (Kd.N_reads' HO_7.out).1; omega))
            obtain ⟨ua287_0, uc287_0, rfl, ul287_0, ge287_0⟩ := k43_openF hMe287
            have hv287_0 := hcc287 0 _ rfl
            rw [Nat.add_zero] at hv287_0
            replace hv287_0 := Option.some.inj (hv287_0.symm.trans hx287_0)
            injection hv287_0 with hva_ hvn_ hvc_
            rw [hva_] at ge287_0
            rw [hvc_] at ul287_0
            have HL287_0 := Aside0.mk (show Kd.V (Kd.int .u8) 5 _ w.heap.size _ _ ((rd_T43 t283 x8_1).f0) from Kd.V_mk ul287_0 ge287_0)
            clear hva_ hvn_ hvc_ ge287_0 ul287_0
            clear hcc287 hce287
            have HR287_0 := Aside0.mk hi287_0
            have HC287_0 := Aside0.mk hl287_0
            clear hi287_0 hl287_0
            replace p287 := eq_true p287
            replace q287 := eq_true q287
            go_upto_if 43 with (fail)
            go_cut [10] (fun v10 wc => ∃ (kq : Nat) (x10_9 : Int), v10 = .int .i64 x10_9 ∧ Aside0 (kilnlaw1_WireCuts.j1 kq l1 a2 t283 x8_1 x10_9 = some r) ∧ Aside0 (kq ≤ k1) ∧ Aside0 (Kd.N k43 43 wc w.heap.size (fun _ => True) (.slice (some ad287) t283.length co11) t283) ∧ Aside0 (Kd.C (Kd.int .u8) wc A287_0 ((rd_T43 t283 x8_1).f0).length ((rd_T43 t283 x8_1).f0)) ∧ Aside0 (Below w.heap.size w wc))
            case first =>
              have H := HC10.out
              clear HC10
              by_cases c12 : (Int.tmod a2 (((rd_T43 t283 x8_1).f0).length : Int)) < 0
              · rw [if_pos c12] at H
                have c12b0 : decide ((Int.tmod a2 (((rd_T43 t283 x8_1).f0).length : Int)) < 0) = true := decide_eq_true c12
                clear c12
                (first | rw [c12b0] | (simp only [i64_w, i32_w]; rw [c12b0]) | skip)
                have H' := Aside0.mk H
                clear H
                go_wp2
                go_meet
                case rel => exact ⟨_, (wrap64 ((Int.tmod a2 (((rd_T43 t283 x8_1).f0).length : Int)) + (((rd_T43 t283 x8_1).f0).length : Int))), (by first | rfl | (simp; done) | (simp [*]; done)), H', ⟨by have := HK1.out; first | omega | exact Nat.le_refl _⟩, ⟨by (with_reducible repeat (first | apply Kd.N_alloc | apply Kd.N_drewN | apply Kd.N_drew)); exact HO_7.out⟩, ⟨by repeat (first | (with_reducible exact HR287_0.out) | (with_reducible refine Kd.C_alloc ?_ _) | (with_reducible refine Kd.C_drewN ?_ _) | (with_reducible refine Kd.C_drew ?_) | exact HR287_0.out)⟩, ⟨by repeat (first | (with_reducible first | exact HB.out | apply below_alloc | apply pw_below_drewN | apply below_drew1) | exact HB.out)⟩⟩
              · rw [if_neg c12] at H
                have c12b0 : decide ((Int.tmod a2 (((rd_T43 t283 x8_1).f0).length : Int)) < 0) = false := decide_eq_false c12
                clear c12
                (first | rw [c12b0] | (simp only [i64_w, i32_w]; rw [c12b0]) | skip)
                have H' := Aside0.mk H
                clear H
                go_wp2
                go_meet
                case rel => exact ⟨_, (Int.tmod a2 (((rd_T43 t283 x8_1).f0).length : Int)), (by first | rfl | (simp; done) | (simp [*]; done)), H', ⟨by have := HK1.out; first | omega | exact Nat.le_refl _⟩, ⟨by (with_reducible repeat (first | apply Kd.N_alloc | apply Kd.N_drewN | apply Kd.N_drew)); exact HO_7.out⟩, ⟨by repeat (first | (with_reducible exact HR287_0.out) | (with_reducible refine Kd.C_alloc ?_ _) | (with_reducible refine Kd.C_drewN ?_ _) | (with_reducible refine Kd.C_drew ?_) | exact HR287_0.out)⟩, ⟨by repeat (first | (with_reducible first | exact HB.out | apply below_alloc | apply pw_below_drewN | apply below_drew1) | exact HB.out)⟩⟩
            case rest =>
              clear HC10
              try clear c1
              try clear c2
              try clear p2
              try clear q2
              try clear hx2
              try clear c6
              try clear c6b0
              try clear p6
              try clear c7
              try clear c7b0
              try clear c8
              try clear c8b0
              try clear c8b1
              try clear c8b2
              try clear c11
              try clear c12
              try clear c12b0
              try clear hx287_0
              try clear hx287_1
              try clear hx287_2
              try clear hx287_3
              try clear p2
              try clear p287
              try clear q287
              obtain ⟨kq, x10_9, rfl, HA, HJ9, HO_7, HR287_0, HB⟩ := hcut
              cases kq with
              | zero => exact absurd HA.out (by simp [kilnlaw1_WireCuts.j1])
              | succ kj9 =>
                have H := HA.out
                clear HA
                simp only [kilnlaw1_WireCuts.j1] at H
                by_cases c13 : 0 ≤ x8_1
                · rw [if_pos c13] at H
                  have c13b0 : decide (0 ≤ x8_1) = true := decide_eq_true c13
                  clear c13
                  by_cases c14 : x8_1 < (t283.length : Int)
                  · rw [if_pos c14] at H
                    have c14b0 : decide (x8_1 < (t283.length : Int)) = true := decide_eq_true c14
                    clear c14
                    by_cases c15 : 0 ≤ x10_9
                    · rw [if_pos c15] at H
                      have c15b0 := eq_true c15
                      have c15b1 : decide (0 ≤ x10_9) = true := decide_eq_true c15
                      clear c15
                      by_cases c16 : x10_9 ≤ (((rd_T43 t283 x8_1).f0).length : Int)
                      · rw [if_pos c16] at H
                        have c16b0 := eq_true c16
                        have c16b1 : decide (x10_9 ≤ (((rd_T43 t283 x8_1).f0).length : Int)) = true := decide_eq_true c16
                        clear c16
                        obtain ⟨y289, hy289⟩ : ∃ y_ : List Int, y_ = (((rd_T43 t283 x8_1).f0).take (x10_9 : Int).toNat) := ⟨_, rfl⟩
                        replace H : (if ((rd_T43 t283 x8_1).f1) = 2 then ((wire_ReadUint.f kj9 y289 0).bind fun bt295 => ((kilnlaw1_num.f bt295.2.2).bind fun t298 => (if t298 = 10 then (kilnlaw1_WireCuts.l0 kj9 l1 a2 t283 (wrap64 (x8_1 + 1))) else (some false)))) else (if ((rd_T43 t283 x8_1).f1) = 4 then ((wire_ReadFixed.f kj9 y289 0 ((rd_T43 t283 x8_1).f2)).bind fun bt300 => ((kilnlaw1_num.f bt300.2.2).bind fun t303 => (if t303 = 10 then (kilnlaw1_WireCuts.l0 kj9 l1 a2 t283 (wrap64 (x8_1 + 1))) else (some false)))) else ((wire_ReadBytes.f kj9 y289 0 (l1.length : Int)).bind fun bt304 => ((kilnlaw1_num.f bt304.2.2).bind fun t309 => (if t309 = 10 then (kilnlaw1_WireCuts.l0 kj9 l1 a2 t283 (wrap64 (x8_1 + 1))) else (some false)))))) = some r := by first | (rw [hy289]; with_reducible exact H) | (have H2_ := (Option.bind_some _ _).symm.trans H; rw [hy289]; with_reducible exact H2_) | (have H2_ := (Option.bind_some _ _).symm.trans H; with_reducible exact H2_) | with_reducible exact H | (rw [hy289]; exact H) | exact H
                        have Ny289 := Aside0.mk hy289
                        clear hy289
                        by_cases c17 : ((rd_T43 t283 x8_1).f1) = 2
                        · rw [if_pos c17] at H
                          have c17b0 : (((rd_T43 t283 x8_1).f1) == 2) = true := beq_iff_eq.mpr c17
                          have c17b1 : (((rd_T43 t283 x8_1).f1) != 2) = false := bne_eq_false_iff_eq.mpr c17
                          clear c17
                          replace H := Option.bind_eq_some_iff.mp H
                          obtain ⟨⟨t295, t296, t297⟩, A180, H⟩ := H
                          replace H : ((kilnlaw1_num.f t297).bind fun t298 => (if t298 = 10 then (kilnlaw1_WireCuts.l0 kj9 l1 a2 t283 (wrap64 (x8_1 + 1))) else (some false))) = some r := H
                          have A18 := Aside0.mk A180
                          clear A180
                          replace H := Option.bind_eq_some_iff.mp H
                          obtain ⟨t298, A190, H⟩ := H
                          replace H : (if t298 = 10 then (kilnlaw1_WireCuts.l0 kj9 l1 a2 t283 (wrap64 (x8_1 + 1))) else (some false)) = some r := H
                          have A19 := Aside0.mk A190
                          clear A190
                          by_cases c20 : t298 = 10
                          · rw [if_pos c20] at H
                            have c20b0 : (t298 == 10) = true := beq_iff_eq.mpr c20
                            have c20b1 : (t298 != 10) = false := bne_eq_false_iff_eq.mpr c20
                            clear c20
                            have H' := Aside0.mk H
                            clear H
                            have p288 : 0 ≤ (x8_1 : Int) := of_decide_eq_true (by first | (with_reducible assumption) | assumption)
                            have q288 : x8_1 < (t283.length : Int) := of_decide_eq_true (by first | (with_reducible assumption) | assumption)
                            obtain ⟨ad288, A288_0, c288_0, e288, hx288_0, hx288_1, hx288_2, hx288_3, hl288_0, hi288_0⟩ := at_T43 (Kd.N_reads' HO_7.out).2.2 x8_1 p288 q288
                            obtain rfl : ad287 = ad288 := (by injection e288)
                            obtain ⟨ce288, hce288, hMe288, hcc288⟩ := Kd.N_get HO_7.out z43 x8_1 p288 (by first | exact q288 | exact of_decide_eq_true (by first | (with_reducible assumption) | assumption) | (have e_ := (Kd.N_reads' HO_7.out).1; omega))
                            obtain ⟨ua288_0, uc288_0, rfl, ul288_0, ge288_0⟩ := k43_openF hMe288
                            have hv288_0 := hcc288 0 _ rfl
                            rw [Nat.add_zero] at hv288_0
                            replace hv288_0 := Option.some.inj (hv288_0.symm.trans hx288_0)
                            injection hv288_0 with hva_ hvn_ hvc_
                            rw [hva_] at ge288_0
                            rw [hvc_] at ul288_0
                            have HL288_0 := Aside0.mk (show Kd.V (Kd.int .u8) 5 _ w.heap.size _ _ ((rd_T43 t283 x8_1).f0) from Kd.V_mk ul288_0 ge288_0)
                            clear hva_ hvn_ hvc_ ge288_0 ul288_0
                            clear hcc288 hce288
                            have HR288_0 := Aside0.mk hi288_0
                            have HC288_0 := Aside0.mk hl288_0
                            clear hi288_0 hl288_0
                            replace p288 := eq_true p288
                            replace q288 := eq_true q288
                            have q21 : (x10_9 : Int) ≤ ((((rd_T43 t283 x8_1).f0).length : Int) : Int) := of_decide_eq_true (by first | (with_reducible assumption) | assumption)
                            obtain ⟨i021, hi021, _, hsz21, _⟩ := info_parts info5
                            have hroom21 : ((rd_T43 t283 x8_1).f0).length ≤ c288_0 := HC288_0.out
                            have hC21 : Kd.F (Kd.int .u8) _ _ A288_0 ((rd_T43 t283 x8_1).f0).length ((rd_T43 t283 x8_1).f0) := (Kd.V_at (base := w.heap.size) HL288_0.out).2.2
                            have hcut21 := cut_to (P := Tryd.prog) 23 5 .i64 Tryd.underlying23 hi021 A288_0 ((rd_T43 t283 x8_1).f0).length c288_0 x10_9 (of_decide_eq_true (by first | (with_reducible assumption) | assumption)) q21 hroom21
                            have hr21 := Kd.F_take (m := (x10_9 : Int).toNat) hC21 (by omega)
                            have hy21 : y289.length = (x10_9 : Int).toNat := (by rw [Ny289.out, List.length_take]; omega)
                            rw [← Ny289.out] at hr21
                            rw [← hy21] at hcut21
                            have HO293 := Aside0.mk (show Kd.V (Kd.int .u8) 5 _ w.heap.size _ (.slice A288_0 y289.length c288_0) y289 from Kd.V_mk (by omega) hr21)
                            have HC293 := Aside0.mk (show y289.length ≤ c288_0 from by omega)
                            clear hr21 hC21 hroom21 hi021 hsz21
                            have KY21 := Aside0.mk hy21
                            clear hy21
                            replace q21 := eq_true q21
                            have p294 : 0 ≤ (x8_1 : Int) := of_decide_eq_true (by first | (with_reducible assumption) | assumption)
                            have q294 : x8_1 < (t283.length : Int) := of_decide_eq_true (by first | (with_reducible assumption) | assumption)
                            obtain ⟨ad294, A294_0, c294_0, e294, hx294_0, hx294_1, hx294_2, hx294_3, hl294_0, hi294_0⟩ := at_T43 (Kd.N_reads' HO_7.out).2.2 x8_1 p294 q294
                            obtain rfl : ad287 = ad294 := (by injection e294)
                            obtain ⟨ce294, hce294, hMe294, hcc294⟩ := Kd.N_get HO_7.out z43 x8_1 p294 (by first | exact q294 | exact of_decide_eq_true (by first | (with_reducible assumption) | assumption) | (have e_ := (Kd.N_reads' HO_7.out).1; omega))
                            obtain ⟨ua294_0, uc294_0, rfl, ul294_0, ge294_0⟩ := k43_openF hMe294
                            have hv294_0 := hcc294 0 _ rfl
                            rw [Nat.add_zero] at hv294_0
                            replace hv294_0 := Option.some.inj (hv294_0.symm.trans hx294_0)
                            injection hv294_0 with hva_ hvn_ hvc_
                            rw [hva_] at ge294_0
                            rw [hvc_] at ul294_0
                            have HL294_0 := Aside0.mk (show Kd.V (Kd.int .u8) 5 _ w.heap.size _ _ ((rd_T43 t283 x8_1).f0) from Kd.V_mk ul294_0 ge294_0)
                            clear hva_ hvn_ hvc_ ge294_0 ul294_0
                            clear hcc294 hce294
                            have HR294_0 := Aside0.mk hi294_0
                            have HC294_0 := Aside0.mk hl294_0
                            clear hi294_0 hl294_0
                            replace p294 := eq_true p294
                            replace q294 := eq_true q294
                            have ea_ := Option.some.inj (hx288_0.symm.trans hx294_0)
                            injection ea_ with ea_ en_ ec_
                            subst ea_
                            subst ec_
                            clear en_
                            go_wp2_with (first | ((with_reducible refine gate_callee (f := 28) rfl ?_); refine goesL_ (some 73) rfl rfl Tryd.func28 (by kernel_rfl) rfl #[.slice A288_0 y289.length c288_0, .int .i64 0] rfl (by (try simp only [List.map_toArray, List.map_cons, List.map_nil]); first | done | rfl | (simp only [List.length_drop, List.length_take]; rfl)) ?_; (with_reducible refine (wire_ReadUint.calls kj9 _ _ y289 0 t295 t296 t297 _ ?side1 ?side2 A18.out).mono ?_); (case side1 => repeat (first | exact (Kd.V_reads' HO293.out).2.2 | (with_reducible refine Kd.C_alloc ?_ _) | (with_reducible refine Kd.C_drewN ?_ _) | (with_reducible refine Kd.C_drew ?_))); (case side2 => exact (Kd.V_reads' HO293.out).2.1); rintro e w' ⟨rfl, ⟨nd, rfl⟩⟩; refine ⟨_, rfl, ?_⟩) | ((with_reducible refine gate_callee (f := 29) rfl ?_); refine goesL_ (some 78) rfl rfl Tryd.func29 (by kernel_rfl) rfl #[.int .i64 t297] rfl (by (try simp only [List.map_toArray, List.map_cons, List.map_nil]); first | done | rfl | (simp only [List.length_drop, List.length_take]; rfl)) ?_; (with_reducible refine (kilnlaw1_num.calls t297 t298 _ A19.out).mono ?_); rintro e w' ⟨rfl, ⟨nd, rfl⟩⟩; refine ⟨_, rfl, ?_⟩))
                            go_roundg kj9
                            case measure => have := HK1.out; have := HJ9.out; omega
                            case rel => exact ⟨(wrap64 (x8_1 + 1)), (by first | rfl | (simp; done) | (simp [*]; done)), H', ⟨by have := HK1.out; have := HJ9.out; omega⟩, ⟨by (with_reducible repeat (first | apply Kd.N_alloc | apply Kd.N_drewN | apply Kd.N_drew)); exact HO_7.out⟩, ⟨by repeat (first | (with_reducible first | exact HB.out | apply below_alloc | apply pw_below_drewN | apply below_drew1) | exact HB.out)⟩⟩
                          · rw [if_neg c20] at H
                            have c20b0 : (t298 == 10) = false := beq_eq_false_iff_ne.mpr c20
                            have c20b1 : (t298 != 10) = true := bne_iff_ne.mpr c20
                            obtain rfl := Option.some.inj H
                            have p288 : 0 ≤ (x8_1 : Int) := of_decide_eq_true (by first | (with_reducible assumption) | assumption)
                            have q288 : x8_1 < (t283.length : Int) := of_decide_eq_true (by first | (with_reducible assumption) | assumption)
                            obtain ⟨ad288, A288_0, c288_0, e288, hx288_0, hx288_1, hx288_2, hx288_3, hl288_0, hi288_0⟩ := at_T43 (Kd.N_reads' HO_7.out).2.2 x8_1 p288 q288
                            obtain rfl : ad287 = ad288 := (by injection e288)
                            obtain ⟨ce288, hce288, hMe288, hcc288⟩ := Kd.N_get HO_7.out z43 x8_1 p288 (by first | exact q288 | exact of_decide_eq_true (by first | (with_reducible assumption) | assumption) | (have e_ := (Kd.N_reads' HO_7.out).1; omega))
                            obtain ⟨ua288_0, uc288_0, rfl, ul288_0, ge288_0⟩ := k43_openF hMe288
                            have hv288_0 := hcc288 0 _ rfl
                            rw [Nat.add_zero] at hv288_0
                            replace hv288_0 := Option.some.inj (hv288_0.symm.trans hx288_0)
                            injection hv288_0 with hva_ hvn_ hvc_
                            rw [hva_] at ge288_0
                            rw [hvc_] at ul288_0
                            have HL288_0 := Aside0.mk (show Kd.V (Kd.int .u8) 5 _ w.heap.size _ _ ((rd_T43 t283 x8_1).f0) from Kd.V_mk ul288_0 ge288_0)
                            clear hva_ hvn_ hvc_ ge288_0 ul288_0
                            clear hcc288 hce288
                            have HR288_0 := Aside0.mk hi288_0
                            have HC288_0 := Aside0.mk hl288_0
                            clear hi288_0 hl288_0
                            replace p288 := eq_true p288
                            replace q288 := eq_true q288
                            have q22 : (x10_9 : Int) ≤ ((((rd_T43 t283 x8_1).f0).length : Int) : Int) := of_decide_eq_true (by first | (with_reducible assumption) | assumption)
                            obtain ⟨i022, hi022, _, hsz22, _⟩ := info_parts info5
                            have hroom22 : ((rd_T43 t283 x8_1).f0).length ≤ c288_0 := HC288_0.out
                            have hC22 : Kd.F (Kd.int .u8) _ _ A288_0 ((rd_T43 t283 x8_1).f0).length ((rd_T43 t283 x8_1).f0) := (Kd.V_at (base := w.heap.size) HL288_0.out).2.2
                            have hcut22 := cut_to (P := Tryd.prog) 23 5 .i64 Tryd.underlying23 hi022 A288_0 ((rd_T43 t283 x8_1).f0).length c288_0 x10_9 (of_decide_eq_true (by first | (with_reducible assumption) | assumption)) q22 hroom22
                            have hr22 := Kd.F_take (m := (x10_9 : Int).toNat) hC22 (by omega)
                            have hy22 : y289.length = (x10_9 : Int).toNat := (by rw [Ny289.out, List.length_take]; omega)
                            rw [← Ny289.out] at hr22
                            rw [← hy22] at hcut22
                            have HO293 := Aside0.mk (show Kd.V (Kd.int .u8) 5 _ w.heap.size _ (.slice A288_0 y289.length c288_0) y289 from Kd.V_mk (by omega) hr22)
                            have HC293 := Aside0.mk (show y289.length ≤ c288_0 from by omega)
                            clear hr22 hC22 hroom22 hi022 hsz22
                            have KY22 := Aside0.mk hy22
                            clear hy22
                            replace q22 := eq_true q22
                            have p294 : 0 ≤ (x8_1 : Int) := of_decide_eq_true (by first | (with_reducible assumption) | assumption)
                            have q294 : x8_1 < (t283.length : Int) := of_decide_eq_true (by first | (with_reducible assumption) | assumption)
                            obtain ⟨ad294, A294_0, c294_0, e294, hx294_0, hx294_1, hx294_2, hx294_3, hl294_0, hi294_0⟩ := at_T43 (Kd.N_reads' HO_7.out).2.2 x8_1 p294 q294
                            obtain rfl : ad287 = ad294 := (by injection e294)
                            obtain ⟨ce294, hce294, hMe294, hcc294⟩ := Kd.N_get HO_7.out z43 x8_1 p294 (by first | exact q294 | exact of_decide_eq_true (by first | (with_reducible assumption) | assumption) | (have e_ := (Kd.N_reads' HO_7.out).1; omega))
                            obtain ⟨ua294_0, uc294_0, rfl, ul294_0, ge294_0⟩ := k43_openF hMe294
                            have hv294_0 := hcc294 0 _ rfl
                            rw [Nat.add_zero] at hv294_0
                            replace hv294_0 := Option.some.inj (hv294_0.symm.trans hx294_0)
                            injection hv294_0 with hva_ hvn_ hvc_
                            rw [hva_] at ge294_0
                            rw [hvc_] at ul294_0
                            have HL294_0 := Aside0.mk (show Kd.V (Kd.int .u8) 5 _ w.heap.size _ _ ((rd_T43 t283 x8_1).f0) from Kd.V_mk ul294_0 ge294_0)
                            clear hva_ hvn_ hvc_ ge294_0 ul294_0
                            clear hcc294 hce294
                            have HR294_0 := Aside0.mk hi294_0
                            have HC294_0 := Aside0.mk hl294_0
                            clear hi294_0 hl294_0
                            replace p294 := eq_true p294
                            replace q294 := eq_true q294
                            have ea_ := Option.some.inj (hx288_0.symm.trans hx294_0)
                            injection ea_ with ea_ en_ ec_
                            subst ea_
                            subst ec_
                            clear en_
                            go_wp2_with (first | ((with_reducible refine gate_callee (f := 28) rfl ?_); refine goesL_ (some 73) rfl rfl Tryd.func28 (by kernel_rfl) rfl #[.slice A288_0 y289.length c288_0, .int .i64 0] rfl (by (try simp only [List.map_toArray, List.map_cons, List.map_nil]); first | done | rfl | (simp only [List.length_drop, List.length_take]; rfl)) ?_; (with_reducible refine (wire_ReadUint.calls kj9 _ _ y289 0 t295 t296 t297 _ ?side1 ?side2 A18.out).mono ?_); (case side1 => repeat (first | exact (Kd.V_reads' HO293.out).2.2 | (with_reducible refine Kd.C_alloc ?_ _) | (with_reducible refine Kd.C_drewN ?_ _) | (with_reducible refine Kd.C_drew ?_))); (case side2 => exact (Kd.V_reads' HO293.out).2.1); rintro e w' ⟨rfl, ⟨nd, rfl⟩⟩; refine ⟨_, rfl, ?_⟩) | ((with_reducible refine gate_callee (f := 29) rfl ?_); refine goesL_ (some 78) rfl rfl Tryd.func29 (by kernel_rfl) rfl #[.int .i64 t297] rfl (by (try simp only [List.map_toArray, List.map_cons, List.map_nil]); first | done | rfl | (simp only [List.length_drop, List.length_take]; rfl)) ?_; (with_reducible refine (kilnlaw1_num.calls t297 t298 _ A19.out).mono ?_); rintro e w' ⟨rfl, ⟨nd, rfl⟩⟩; refine ⟨_, rfl, ?_⟩))
                            go_ret
                            exact ⟨by first | rfl | (simp [errW_none, errW_some] <;> rfl) | (simp [*, errW_none, errW_some] <;> rfl), by repeat (first | (with_reducible first | exact HB.out | apply below_alloc | apply pw_below_drewN | apply below_drew1) | exact HB.out)⟩
                        · rw [if_neg c17] at H
                          have c17b0 : (((rd_T43 t283 x8_1).f1) == 2) = false := beq_eq_false_iff_ne.mpr c17
                          have c17b1 : (((rd_T43 t283 x8_1).f1) != 2) = true := bne_iff_ne.mpr c17
                          by_cases c23 : ((rd_T43 t283 x8_1).f1) = 4
                          · rw [if_pos c23] at H
                            have c23b0 : (((rd_T43 t283 x8_1).f1) == 4) = true := beq_iff_eq.mpr c23
                            have c23b1 : (((rd_T43 t283 x8_1).f1) != 4) = false := bne_eq_false_iff_eq.mpr c23
                            clear c23
                            replace H := Option.bind_eq_some_iff.mp H
                            obtain ⟨⟨t300, t301, t302⟩, A240, H⟩ := H
                            replace H : ((kilnlaw1_num.f t302).bind fun t303 => (if t303 = 10 then (kilnlaw1_WireCuts.l0 kj9 l1 a2 t283 (wrap64 (x8_1 + 1))) else (some false))) = some r := H
                            have A24 := Aside0.mk A240
                            clear A240
                            replace H := Option.bind_eq_some_iff.mp H
                            obtain ⟨t303, A250, H⟩ := H
                            replace H : (if t303 = 10 then (kilnlaw1_WireCuts.l0 kj9 l1 a2 t283 (wrap64 (x8_1 + 1))) else (some false)) = some r := H
                            have A25 := Aside0.mk A250
                            clear A250
                            by_cases c26 : t303 = 10
                            · rw [if_pos c26] at H
                              have c26b0 : (t303 == 10) = true := beq_iff_eq.mpr c26
                              have c26b1 : (t303 != 10) = false := bne_eq_false_iff_eq.mpr c26
                              clear c26
                              have H' := Aside0.mk H
                              clear H
                              have p288 : 0 ≤ (x8_1 : Int) := of_decide_eq_true (by first | (with_reducible assumption) | assumption)
                              have q288 : x8_1 < (t283.length : Int) := of_decide_eq_true (by first | (with_reducible assumption) | assumption)
                              obtain ⟨ad288, A288_0, c288_0, e288, hx288_0, hx288_1, hx288_2, hx288_3, hl288_0, hi288_0⟩ := at_T43 (Kd.N_reads' HO_7.out).2.2 x8_1 p288 q288
                              obtain rfl : ad287 = ad288 := (by injection e288)
                              obtain ⟨ce288, hce288, hMe288, hcc288⟩ := Kd.N_get HO_7.out z43 x8_1 p288 (by first | exact q288 | exact of_decide_eq_true (by first | (with_reducible assumption) | assumption) | (have e_ := (Kd.N_reads' HO_7.out).1; omega))
                              obtain ⟨ua288_0, uc288_0, rfl, ul288_0, ge288_0⟩ := k43_openF hMe288
                              have hv288_0 := hcc288 0 _ rfl
                              rw [Nat.add_zero] at hv288_0
                              replace hv288_0 := Option.some.inj (hv288_0.symm.trans hx288_0)
                              injection hv288_0 with hva_ hvn_ hvc_
                              rw [hva_] at ge288_0
                              rw [hvc_] at ul288_0
                              have HL288_0 := Aside0.mk (show Kd.V (Kd.int .u8) 5 _ w.heap.size _ _ ((rd_T43 t283 x8_1).f0) from Kd.V_mk ul288_0 ge288_0)
                              clear hva_ hvn_ hvc_ ge288_0 ul288_0
                              clear hcc288 hce288
                              have HR288_0 := Aside0.mk hi288_0
                              have HC288_0 := Aside0.mk hl288_0
                              clear hi288_0 hl288_0
                              replace p288 := eq_true p288
                              replace q288 := eq_true q288
                              have q27 : (x10_9 : Int) ≤ ((((rd_T43 t283 x8_1).f0).length : Int) : Int) := of_decide_eq_true (by first | (with_reducible assumption) | assumption)
                              obtain ⟨i027, hi027, _, hsz27, _⟩ := info_parts info5
                              have hroom27 : ((rd_T43 t283 x8_1).f0).length ≤ c288_0 := HC288_0.out
                              have hC27 : Kd.F (Kd.int .u8) _ _ A288_0 ((rd_T43 t283 x8_1).f0).length ((rd_T43 t283 x8_1).f0) := (Kd.V_at (base := w.heap.size) HL288_0.out).2.2
                              have hcut27 := cut_to (P := Tryd.prog) 23 5 .i64 Tryd.underlying23 hi027 A288_0 ((rd_T43 t283 x8_1).f0).length c288_0 x10_9 (of_decide_eq_true (by first | (with_reducible assumption) | assumption)) q27 hroom27
                              have hr27 := Kd.F_take (m := (x10_9 : Int).toNat) hC27 (by omega)
                              have hy27 : y289.length = (x10_9 : Int).toNat := (by rw [Ny289.out, List.length_take]; omega)
                              rw [← Ny289.out] at hr27
                              rw [← hy27] at hcut27
                              have HO293 := Aside0.mk (show Kd.V (Kd.int .u8) 5 _ w.heap.size _ (.slice A288_0 y289.length c288_0) y289 from Kd.V_mk (by omega) hr27)
                              have HC293 := Aside0.mk (show y289.length ≤ c288_0 from by omega)
                              clear hr27 hC27 hroom27 hi027 hsz27
                              have KY27 := Aside0.mk hy27
                              clear hy27
                              replace q27 := eq_true q27
                              have p294 : 0 ≤ (x8_1 : Int) := of_decide_eq_true (by first | (with_reducible assumption) | assumption)
                              have q294 : x8_1 < (t283.length : Int) := of_decide_eq_true (by first | (with_reducible assumption) | assumption)
                              obtain ⟨ad294, A294_0, c294_0, e294, hx294_0, hx294_1, hx294_2, hx294_3, hl294_0, hi294_0⟩ := at_T43 (Kd.N_reads' HO_7.out).2.2 x8_1 p294 q294
                              obtain rfl : ad287 = ad294 := (by injection e294)
                              obtain ⟨ce294, hce294, hMe294, hcc294⟩ := Kd.N_get HO_7.out z43 x8_1 p294 (by first | exact q294 | exact of_decide_eq_true (by first | (with_reducible assumption) | assumption) | (have e_ := (Kd.N_reads' HO_7.out).1; omega))
                              obtain ⟨ua294_0, uc294_0, rfl, ul294_0, ge294_0⟩ := k43_openF hMe294
                              have hv294_0 := hcc294 0 _ rfl
                              rw [Nat.add_zero] at hv294_0
                              replace hv294_0 := Option.some.inj (hv294_0.symm.trans hx294_0)
                              injection hv294_0 with hva_ hvn_ hvc_
                              rw [hva_] at ge294_0
                              rw [hvc_] at ul294_0
                              have HL294_0 := Aside0.mk (show Kd.V (Kd.int .u8) 5 _ w.heap.size _ _ ((rd_T43 t283 x8_1).f0) from Kd.V_mk ul294_0 ge294_0)
                              clear hva_ hvn_ hvc_ ge294_0 ul294_0
                              clear hcc294 hce294
                              have HR294_0 := Aside0.mk hi294_0
                              have HC294_0 := Aside0.mk hl294_0
                              clear hi294_0 hl294_0
                              replace p294 := eq_true p294
                              replace q294 := eq_true q294
                              have ea_ := Option.some.inj (hx288_0.symm.trans hx294_0)
                              injection ea_ with ea_ en_ ec_
                              subst ea_
                              subst ec_
                              clear en_
                              have p299 : 0 ≤ (x8_1 : Int) := of_decide_eq_true (by first | (with_reducible assumption) | assumption)
                              have q299 : x8_1 < (t283.length : Int) := of_decide_eq_true (by first | (with_reducible assumption) | assumption)
                              obtain ⟨ad299, A299_0, c299_0, e299, hx299_0, hx299_1, hx299_2, hx299_3, hl299_0, hi299_0⟩ := at_T43 (Kd.N_reads' HO_7.out).2.2 x8_1 p299 q299
                              obtain rfl : ad287 = ad299 := (by injection e299)
                              obtain ⟨ce299, hce299, hMe299, hcc299⟩ := Kd.N_get HO_7.out z43 x8_1 p299 (by first | exact q299 | exact of_decide_eq_true (by first | (with_reducible assumption) | assumption) | (have e_ := (Kd.N_reads' HO_7.out).1; omega))
                              obtain ⟨ua299_0, uc299_0, rfl, ul299_0, ge299_0⟩ := k43_openF hMe299
                              have hv299_0 := hcc299 0 _ rfl
                              rw [Nat.add_zero] at hv299_0
                              replace hv299_0 := Option.some.inj (hv299_0.symm.trans hx299_0)
                              injection hv299_0 with hva_ hvn_ hvc_
                              rw [hva_] at ge299_0
                              rw [hvc_] at ul299_0
                              have HL299_0 := Aside0.mk (show Kd.V (Kd.int .u8) 5 _ w.heap.size _ _ ((rd_T43 t283 x8_1).f0) from Kd.V_mk ul299_0 ge299_0)
                              clear hva_ hvn_ hvc_ ge299_0 ul299_0
                              clear hcc299 hce299
                              have HR299_0 := Aside0.mk hi299_0
                              have HC299_0 := Aside0.mk hl299_0
                              clear hi299_0 hl299_0
                              replace p299 := eq_true p299
                              replace q299 := eq_true q299
                              have ea_ := Option.some.inj (hx288_0.symm.trans hx299_0)
                              injection ea_ with ea_ en_ ec_
                              subst ea_
                              subst ec_
                              clear en_
                              go_wp2_with (first | ((with_reducible refine gate_callee (f := 31) rfl ?_); refine goesL_ (some 88) rfl rfl Tryd.func31 (by kernel_rfl) rfl #[.slice A288_0 y289.length c288_0, .int .i64 0, .int .i64 ((rd_T43 t283 x8_1).f2)] rfl (by (try simp only [List.map_toArray, List.map_cons, List.map_nil]); first | done | rfl | (simp only [List.length_drop, List.length_take]; rfl)) ?_; (with_reducible refine (wire_ReadFixed.calls kj9 _ _ y289 0 ((rd_T43 t283 x8_1).f2) t300 t301 t302 _ ?side1 ?side2 A24.out).mono ?_); (case side1 => repeat (first | exact (Kd.V_reads' HO293.out).2.2 | (with_reducible refine Kd.C_alloc ?_ _) | (with_reducible refine Kd.C_drewN ?_ _) | (with_reducible refine Kd.C_drew ?_))); (case side2 => exact (Kd.V_reads' HO293.out).2.1); rintro e w' ⟨rfl, ⟨nd, rfl⟩⟩; refine ⟨_, rfl, ?_⟩) | ((with_reducible refine gate_callee (f := 29) rfl ?_); refine goesL_ (some 93) rfl rfl Tryd.func29 (by kernel_rfl) rfl #[.int .i64 t302] rfl (by (try simp only [List.map_toArray, List.map_cons, List.map_nil]); first | done | rfl | (simp only [List.length_drop, List.length_take]; rfl)) ?_; (with_reducible refine (kilnlaw1_num.calls t302 t303 _ A25.out).mono ?_); rintro e w' ⟨rfl, ⟨nd, rfl⟩⟩; refine ⟨_, rfl, ?_⟩))
                              go_roundg kj9
                              case measure => have := HK1.out; have := HJ9.out; omega
                              case rel => exact ⟨(wrap64 (x8_1 + 1)), (by first | rfl | (simp; done) | (simp [*]; done)), H', ⟨by have := HK1.out; have := HJ9.out; omega⟩, ⟨by (with_reducible repeat (first | apply Kd.N_alloc | apply Kd.N_drewN | apply Kd.N_drew)); exact HO_7.out⟩, ⟨by repeat (first | (with_reducible first | exact HB.out | apply below_alloc | apply pw_below_drewN | apply below_drew1) | exact HB.out)⟩⟩
                            · rw [if_neg c26] at H
                              have c26b0 : (t303 == 10) = false := beq_eq_false_iff_ne.mpr c26
                              have c26b1 : (t303 != 10) = true := bne_iff_ne.mpr c26
                              obtain rfl := Option.some.inj H
                              have p288 : 0 ≤ (x8_1 : Int) := of_decide_eq_true (by first | (with_reducible assumption) | assumption)
                              have q288 : x8_1 < (t283.length : Int) := of_decide_eq_true (by first | (with_reducible assumption) | assumption)
                              obtain ⟨ad288, A288_0, c288_0, e288, hx288_0, hx288_1, hx288_2, hx288_3, hl288_0, hi288_0⟩ := at_T43 (Kd.N_reads' HO_7.out).2.2 x8_1 p288 q288
                              obtain rfl : ad287 = ad288 := (by injection e288)
                              obtain ⟨ce288, hce288, hMe288, hcc288⟩ := Kd.N_get HO_7.out z43 x8_1 p288 (by first | exact q288 | exact of_decide_eq_true (by first | (with_reducible assumption) | assumption) | (have e_ := (Kd.N_reads' HO_7.out).1; omega))
                              obtain ⟨ua288_0, uc288_0, rfl, ul288_0, ge288_0⟩ := k43_openF hMe288
                              have hv288_0 := hcc288 0 _ rfl
                              rw [Nat.add_zero] at hv288_0
                              replace hv288_0 := Option.some.inj (hv288_0.symm.trans hx288_0)
                              injection hv288_0 with hva_ hvn_ hvc_
                              rw [hva_] at ge288_0
                              rw [hvc_] at ul288_0
                              have HL288_0 := Aside0.mk (show Kd.V (Kd.int .u8) 5 _ w.heap.size _ _ ((rd_T43 t283 x8_1).f0) from Kd.V_mk ul288_0 ge288_0)
                              clear hva_ hvn_ hvc_ ge288_0 ul288_0
                              clear hcc288 hce288
                              have HR288_0 := Aside0.mk hi288_0
                              have HC288_0 := Aside0.mk hl288_0
                              clear hi288_0 hl288_0
                              replace p288 := eq_true p288
                              replace q288 := eq_true q288
                              have q28 : (x10_9 : Int) ≤ ((((rd_T43 t283 x8_1).f0).length : Int) : Int) := of_decide_eq_true (by first | (with_reducible assumption) | assumption)
                              obtain ⟨i028, hi028, _, hsz28, _⟩ := info_parts info5
                              have hroom28 : ((rd_T43 t283 x8_1).f0).length ≤ c288_0 := HC288_0.out
                              have hC28 : Kd.F (Kd.int .u8) _ _ A288_0 ((rd_T43 t283 x8_1).f0).length ((rd_T43 t283 x8_1).f0) := (Kd.V_at (base := w.heap.size) HL288_0.out).2.2
                              have hcut28 := cut_to (P := Tryd.prog) 23 5 .i64 Tryd.underlying23 hi028 A288_0 ((rd_T43 t283 x8_1).f0).length c288_0 x10_9 (of_decide_eq_true (by first | (with_reducible assumption) | assumption)) q28 hroom28
                              have hr28 := Kd.F_take (m := (x10_9 : Int).toNat) hC28 (by omega)
                              have hy28 : y289.length = (x10_9 : Int).toNat := (by rw [Ny289.out, List.length_take]; omega)
                              rw [← Ny289.out] at hr28
                              rw [← hy28] at hcut28
                              have HO293 := Aside0.mk (show Kd.V (Kd.int .u8) 5 _ w.heap.size _ (.slice A288_0 y289.length c288_0) y289 from Kd.V_mk (by omega) hr28)
                              have HC293 := Aside0.mk (show y289.length ≤ c288_0 from by omega)
                              clear hr28 hC28 hroom28 hi028 hsz28
                              have KY28 := Aside0.mk hy28
                              clear hy28
                              replace q28 := eq_true q28
                              have p294 : 0 ≤ (x8_1 : Int) := of_decide_eq_true (by first | (with_reducible assumption) | assumption)
                              have q294 : x8_1 < (t283.length : Int) := of_decide_eq_true (by first | (with_reducible assumption) | assumption)
                              obtain ⟨ad294, A294_0, c294_0, e294, hx294_0, hx294_1, hx294_2, hx294_3, hl294_0, hi294_0⟩ := at_T43 (Kd.N_reads' HO_7.out).2.2 x8_1 p294 q294
                              obtain rfl : ad287 = ad294 := (by injection e294)
                              obtain ⟨ce294, hce294, hMe294, hcc294⟩ := Kd.N_get HO_7.out z43 x8_1 p294 (by first | exact q294 | exact of_decide_eq_true (by first | (with_reducible assumption) | assumption) | (have e_ := (Kd.N_reads' HO_7.out).1; omega))
                              obtain ⟨ua294_0, uc294_0, rfl, ul294_0, ge294_0⟩ := k43_openF hMe294
                              have hv294_0 := hcc294 0 _ rfl
                              rw [Nat.add_zero] at hv294_0
                              replace hv294_0 := Option.some.inj (hv294_0.symm.trans hx294_0)
                              injection hv294_0 with hva_ hvn_ hvc_
                              rw [hva_] at ge294_0
                              rw [hvc_] at ul294_0
                              have HL294_0 := Aside0.mk (show Kd.V (Kd.int .u8) 5 _ w.heap.size _ _ ((rd_T43 t283 x8_1).f0) from Kd.V_mk ul294_0 ge294_0)
                              clear hva_ hvn_ hvc_ ge294_0 ul294_0
                              clear hcc294 hce294
                              have HR294_0 := Aside0.mk hi294_0
                              have HC294_0 := Aside0.mk hl294_0
                              clear hi294_0 hl294_0
                              replace p294 := eq_true p294
                              replace q294 := eq_true q294
                              have ea_ := Option.some.inj (hx288_0.symm.trans hx294_0)
                              injection ea_ with ea_ en_ ec_
                              subst ea_
                              subst ec_
                              clear en_
                              have p299 : 0 ≤ (x8_1 : Int) := of_decide_eq_true (by first | (with_reducible assumption) | assumption)
                              have q299 : x8_1 < (t283.length : Int) := of_decide_eq_true (by first | (with_reducible assumption) | assumption)
                              obtain ⟨ad299, A299_0, c299_0, e299, hx299_0, hx299_1, hx299_2, hx299_3, hl299_0, hi299_0⟩ := at_T43 (Kd.N_reads' HO_7.out).2.2 x8_1 p299 q299
                              obtain rfl : ad287 = ad299 := (by injection e299)
                              obtain ⟨ce299, hce299, hMe299, hcc299⟩ := Kd.N_get HO_7.out z43 x8_1 p299 (by first | exact q299 | exact of_decide_eq_true (by first | (with_reducible assumption) | assumption) | (have e_ := (Kd.N_reads' HO_7.out).1; omega))
                              obtain ⟨ua299_0, uc299_0, rfl, ul299_0, ge299_0⟩ := k43_openF hMe299
                              have hv299_0 := hcc299 0 _ rfl
                              rw [Nat.add_zero] at hv299_0
                              replace hv299_0 := Option.some.inj (hv299_0.symm.trans hx299_0)
                              injection hv299_0 with hva_ hvn_ hvc_
                              rw [hva_] at ge299_0
                              rw [hvc_] at ul299_0
                              have HL299_0 := Aside0.mk (show Kd.V (Kd.int .u8) 5 _ w.heap.size _ _ ((rd_T43 t283 x8_1).f0) from Kd.V_mk ul299_0 ge299_0)
                              clear hva_ hvn_ hvc_ ge299_0 ul299_0
                              clear hcc299 hce299
                              have HR299_0 := Aside0.mk hi299_0
                              have HC299_0 := Aside0.mk hl299_0
                              clear hi299_0 hl299_0
                              replace p299 := eq_true p299
                              replace q299 := eq_true q299
                              have ea_ := Option.some.inj (hx288_0.symm.trans hx299_0)
                              injection ea_ with ea_ en_ ec_
                              subst ea_
                              subst ec_
                              clear en_
                              go_wp2_with (first | ((with_reducible refine gate_callee (f := 31) rfl ?_); refine goesL_ (some 88) rfl rfl Tryd.func31 (by kernel_rfl) rfl #[.slice A288_0 y289.length c288_0, .int .i64 0, .int .i64 ((rd_T43 t283 x8_1).f2)] rfl (by (try simp only [List.map_toArray, List.map_cons, List.map_nil]); first | done | rfl | (simp only [List.length_drop, List.length_take]; rfl)) ?_; (with_reducible refine (wire_ReadFixed.calls kj9 _ _ y289 0 ((rd_T43 t283 x8_1).f2) t300 t301 t302 _ ?side1 ?side2 A24.out).mono ?_); (case side1 => repeat (first | exact (Kd.V_reads' HO293.out).2.2 | (with_reducible refine Kd.C_alloc ?_ _) | (with_reducible refine Kd.C_drewN ?_ _) | (with_reducible refine Kd.C_drew ?_))); (case side2 => exact (Kd.V_reads' HO293.out).2.1); rintro e w' ⟨rfl, ⟨nd, rfl⟩⟩; refine ⟨_, rfl, ?_⟩) | ((with_reducible refine gate_callee (f := 29) rfl ?_); refine goesL_ (some 93) rfl rfl Tryd.func29 (by kernel_rfl) rfl #[.int .i64 t302] rfl (by (try simp only [List.map_toArray, List.map_cons, List.map_nil]); first | done | rfl | (simp only [List.length_drop, List.length_take]; rfl)) ?_; (with_reducible refine (kilnlaw1_num.calls t302 t303 _ A25.out).mono ?_); rintro e w' ⟨rfl, ⟨nd, rfl⟩⟩; refine ⟨_, rfl, ?_⟩))
                              go_ret
                              exact ⟨by first | rfl | (simp [errW_none, errW_some] <;> rfl) | (simp [*, errW_none, errW_some] <;> rfl), by repeat (first | (with_reducible first | exact HB.out | apply below_alloc | apply pw_below_drewN | apply below_drew1) | exact HB.out)⟩
                          · rw [if_neg c23] at H
                            have c23b0 : (((rd_T43 t283 x8_1).f1) == 4) = false := beq_eq_false_iff_ne.mpr c23
                            have c23b1 : (((rd_T43 t283 x8_1).f1) != 4) = true := bne_iff_ne.mpr c23
                            replace H := Option.bind_eq_some_iff.mp H
                            obtain ⟨⟨t304, t305, t306⟩, A290, H⟩ := H
                            replace H : ((kilnlaw1_num.f t306).bind fun t309 => (if t309 = 10 then (kilnlaw1_WireCuts.l0 kj9 l1 a2 t283 (wrap64 (x8_1 + 1))) else (some false))) = some r := H
                            have A29 := Aside0.mk A290
                            clear A290
                            replace H := Option.bind_eq_some_iff.mp H
                            obtain ⟨t309, A300, H⟩ := H
                            replace H : (if t309 = 10 then (kilnlaw1_WireCuts.l0 kj9 l1 a2 t283 (wrap64 (x8_1 + 1))) else (some false)) = some r := H
                            have A30 := Aside0.mk A300
                            clear A300
                            by_cases c31 : t309 = 10
                            · rw [if_pos c31] at H
                              have c31b0 : (t309 == 10) = true := beq_iff_eq.mpr c31
                              have c31b1 : (t309 != 10) = false := bne_eq_false_iff_eq.mpr c31
                              clear c31
                              have H' := Aside0.mk H
                              clear H
                              have p288 : 0 ≤ (x8_1 : Int) := of_decide_eq_true (by first | (with_reducible assumption) | assumption)
                              have q288 : x8_1 < (t283.length : Int) := of_decide_eq_true (by first | (with_reducible assumption) | assumption)
                              obtain ⟨ad288, A288_0, c288_0, e288, hx288_0, hx288_1, hx288_2, hx288_3, hl288_0, hi288_0⟩ := at_T43 (Kd.N_reads' HO_7.out).2.2 x8_1 p288 q288
                              obtain rfl : ad287 = ad288 := (by injection e288)
                              obtain ⟨ce288, hce288, hMe288, hcc288⟩ := Kd.N_get HO_7.out z43 x8_1 p288 (by first | exact q288 | exact of_decide_eq_true (by first | (with_reducible assumption) | assumption) | (have e_ := (Kd.N_reads' HO_7.out).1; omega))
                              obtain ⟨ua288_0, uc288_0, rfl, ul288_0, ge288_0⟩ := k43_openF hMe288
                              have hv288_0 := hcc288 0 _ rfl
                              rw [Nat.add_zero] at hv288_0
                              replace hv288_0 := Option.some.inj (hv288_0.symm.trans hx288_0)
                              injection hv288_0 with hva_ hvn_ hvc_
                              rw [hva_] at ge288_0
                              rw [hvc_] at ul288_0
                              have HL288_0 := Aside0.mk (show Kd.V (Kd.int .u8) 5 _ w.heap.size _ _ ((rd_T43 t283 x8_1).f0) from Kd.V_mk ul288_0 ge288_0)
                              clear hva_ hvn_ hvc_ ge288_0 ul288_0
                              clear hcc288 hce288
                              have HR288_0 := Aside0.mk hi288_0
                              have HC288_0 := Aside0.mk hl288_0
                              clear hi288_0 hl288_0
                              replace p288 := eq_true p288
                              replace q288 := eq_true q288
                              have q32 : (x10_9 : Int) ≤ ((((rd_T43 t283 x8_1).f0).length : Int) : Int) := of_decide_eq_true (by first | (with_reducible assumption) | assumption)
                              obtain ⟨i032, hi032, _, hsz32, _⟩ := info_parts info5
                              have hroom32 : ((rd_T43 t283 x8_1).f0).length ≤ c288_0 := HC288_0.out
                              have hC32 : Kd.F (Kd.int .u8) _ _ A288_0 ((rd_T43 t283 x8_1).f0).length ((rd_T43 t283 x8_1).f0) := (Kd.V_at (base := w.heap.size) HL288_0.out).2.2
                              have hcut32 := cut_to (P := Tryd.prog) 23 5 .i64 Tryd.underlying23 hi032 A288_0 ((rd_T43 t283 x8_1).f0).length c288_0 x10_9 (of_decide_eq_true (by first | (with_reducible assumption) | assumption)) q32 hroom32
                              have hr32 := Kd.F_take (m := (x10_9 : Int).toNat) hC32 (by omega)
                              have hy32 : y289.length = (x10_9 : Int).toNat := (by rw [Ny289.out, List.length_take]; omega)
                              rw [← Ny289.out] at hr32
                              rw [← hy32] at hcut32
                              have HO293 := Aside0.mk (show Kd.V (Kd.int .u8) 5 _ w.heap.size _ (.slice A288_0 y289.length c288_0) y289 from Kd.V_mk (by omega) hr32)
                              have HC293 := Aside0.mk (show y289.length ≤ c288_0 from by omega)
                              clear hr32 hC32 hroom32 hi032 hsz32
                              have KY32 := Aside0.mk hy32
                              clear hy32
                              replace q32 := eq_true q32
                              have p294 : 0 ≤ (x8_1 : Int) := of_decide_eq_true (by first | (with_reducible assumption) | assumption)
                              have q294 : x8_1 < (t283.length : Int) := of_decide_eq_true (by first | (with_reducible assumption) | assumption)
                              obtain ⟨ad294, A294_0, c294_0, e294, hx294_0, hx294_1, hx294_2, hx294_3, hl294_0, hi294_0⟩ := at_T43 (Kd.N_reads' HO_7.out).2.2 x8_1 p294 q294
                              obtain rfl : ad287 = ad294 := (by injection e294)
                              obtain ⟨ce294, hce294, hMe294, hcc294⟩ := Kd.N_get HO_7.out z43 x8_1 p294 (by first | exact q294 | exact of_decide_eq_true (by first | (with_reducible assumption) | assumption) | (have e_ := (Kd.N_reads' HO_7.out).1; omega))
                              obtain ⟨ua294_0, uc294_0, rfl, ul294_0, ge294_0⟩ := k43_openF hMe294
                              have hv294_0 := hcc294 0 _ rfl
                              rw [Nat.add_zero] at hv294_0
                              replace hv294_0 := Option.some.inj (hv294_0.symm.trans hx294_0)
                              injection hv294_0 with hva_ hvn_ hvc_
                              rw [hva_] at ge294_0
                              rw [hvc_] at ul294_0
                              have HL294_0 := Aside0.mk (show Kd.V (Kd.int .u8) 5 _ w.heap.size _ _ ((rd_T43 t283 x8_1).f0) from Kd.V_mk ul294_0 ge294_0)
                              clear hva_ hvn_ hvc_ ge294_0 ul294_0
                              clear hcc294 hce294
                              have HR294_0 := Aside0.mk hi294_0
                              have HC294_0 := Aside0.mk hl294_0
                              clear hi294_0 hl294_0
                              replace p294 := eq_true p294
                              replace q294 := eq_true q294
                              have ea_ := Option.some.inj (hx288_0.symm.trans hx294_0)
                              injection ea_ with ea_ en_ ec_
                              subst ea_
                              subst ec_
                              clear en_
                              go_wp2_with (first | ((with_reducible refine gate_callee (f := 30) rfl ?_); refine goesL_ (some 63) rfl rfl Tryd.func30 (by kernel_rfl) rfl #[.slice A288_0 y289.length c288_0, .int .i64 0, .int .i64 (l1.length : Int)] rfl (by (try simp only [List.map_toArray, List.map_cons, List.map_nil]); first | done | rfl | (simp only [List.length_drop, List.length_take]; rfl)) ?_; (with_reducible refine (wire_ReadBytes.calls kj9 _ _ y289 0 (l1.length : Int) t304 t305 t306 _ ?side1 ?side2 A29.out).mono ?_); (case side1 => repeat (first | exact (Kd.V_reads' HO293.out).2.2 | (with_reducible refine Kd.C_alloc ?_ _) | (with_reducible refine Kd.C_drewN ?_ _) | (with_reducible refine Kd.C_drew ?_))); (case side2 => exact (Kd.V_reads' HO293.out).2.1); rintro e w33 ⟨v307, rfl, ho0, hb⟩; refine ⟨_, rfl, ?_⟩; have n0_ := Aside0.mk (Kd.N_elder' (by (with_reducible repeat (first | apply Kd.N_alloc | apply Kd.N_drewN | apply Kd.N_drew)); exact HO_7.out) (Kd.R_base ho0) hb); have n1_ := Aside0.mk (Kd.V_elder' (by (with_reducible repeat (first | apply Kd.V_alloc | apply Kd.V_drewN | apply Kd.V_drew)); exact HL288_0.out) (Kd.R_base ho0) hb); have n2_ := Aside0.mk (Kd.V_elder' (by (with_reducible repeat (first | apply Kd.V_alloc | apply Kd.V_drewN | apply Kd.V_drew)); exact HO293.out) (Kd.R_base ho0) hb); have n3_ := Aside0.mk (Kd.V_elder' (by (with_reducible repeat (first | apply Kd.V_alloc | apply Kd.V_drewN | apply Kd.V_drew)); exact HL294_0.out) (Kd.R_base ho0) hb); have n4_ := Aside0.mk (Kd.R_lower ho0 (below_size (by repeat (first | (with_reducible first | exact HB.out | apply below_alloc | apply pw_below_drewN | apply below_drew1) | exact HB.out)))); have n5_ := Aside0.mk (Kd.C_below (by repeat (first | (with_reducible exact HR287_0.out) | (with_reducible refine Kd.C_alloc ?_ _) | (with_reducible refine Kd.C_drewN ?_ _) | (with_reducible refine Kd.C_drew ?_) | exact HR287_0.out)) hb); have n6_ := Aside0.mk (Kd.C_below (by repeat (first | (with_reducible exact HR288_0.out) | (with_reducible refine Kd.C_alloc ?_ _) | (with_reducible refine Kd.C_drewN ?_ _) | (with_reducible refine Kd.C_drew ?_) | exact HR288_0.out)) hb); have n7_ := Aside0.mk (Kd.C_below (by repeat (first | (with_reducible exact HR294_0.out) | (with_reducible refine Kd.C_alloc ?_ _) | (with_reducible refine Kd.C_drewN ?_ _) | (with_reducible refine Kd.C_drew ?_) | exact HR294_0.out)) hb); have n8_ := Aside0.mk (below_step (by repeat (first | (with_reducible first | exact HB.out | apply below_alloc | apply pw_below_drewN | apply below_drew1) | exact HB.out)) hb); clear HO_7; clear HL288_0; clear HO293; clear HL294_0; clear HR287_0; clear HR288_0; clear HR294_0; clear HB; have HO_7 := n0_; have HL288_0 := n1_; have HO293 := n2_; have HL294_0 := n3_; have HO308 := n4_; have HR287_0 := n5_; have HR288_0 := n6_; have HR294_0 := n7_; have HB := n8_; clear n0_ n1_ n2_ n3_ n4_ n5_ n6_ n7_ n8_; (try clear hb); (try clear hb2); (try clear hk); (try clear hi); (try clear ho0)) | ((with_reducible refine gate_callee (f := 29) rfl ?_); refine goesL_ (some 68) rfl rfl Tryd.func29 (by kernel_rfl) rfl #[.int .i64 t306] rfl (by (try simp only [List.map_toArray, List.map_cons, List.map_nil]); first | done | rfl | (simp only [List.length_drop, List.length_take]; rfl)) ?_; (with_reducible refine (kilnlaw1_num.calls t306 t309 _ A30.out).mono ?_); rintro e w' ⟨rfl, ⟨nd, rfl⟩⟩; refine ⟨_, rfl, ?_⟩))
                              go_roundg kj9
                              case measure => have := HK1.out; have := HJ9.out; omega
                              case rel => exact ⟨(wrap64 (x8_1 + 1)), (by first | rfl | (simp; done) | (simp [*]; done)), H', ⟨by have := HK1.out; have := HJ9.out; omega⟩, ⟨by (with_reducible repeat (first | apply Kd.N_alloc | apply Kd.N_drewN | apply Kd.N_drew)); exact Kd.N_mono HO_7.out (fun _ hk => trivial)⟩, ⟨by repeat (first | (with_reducible first | exact HB.out | apply below_alloc | apply pw_below_drewN | apply below_drew1) | exact HB.out)⟩⟩
                            · rw [if_neg c31] at H
                              have c31b0 : (t309 == 10) = false := beq_eq_false_iff_ne.mpr c31
                              have c31b1 : (t309 != 10) = true := bne_iff_ne.mpr c31
                              obtain rfl := Option.some.inj H
                              have p288 : 0 ≤ (x8_1 : Int) := of_decide_eq_true (by first | (with_reducible assumption) | assumption)
                              have q288 : x8_1 < (t283.length : Int) := of_decide_eq_true (by first | (with_reducible assumption) | assumption)
                              obtain ⟨ad288, A288_0, c288_0, e288, hx288_0, hx288_1, hx288_2, hx288_3, hl288_0, hi288_0⟩ := at_T43 (Kd.N_reads' HO_7.out).2.2 x8_1 p288 q288
                              obtain rfl : ad287 = ad288 := (by injection e288)
                              obtain ⟨ce288, hce288, hMe288, hcc288⟩ := Kd.N_get HO_7.out z43 x8_1 p288 (by first | exact q288 | exact of_decide_eq_true (by first | (with_reducible assumption) | assumption) | (have e_ := (Kd.N_reads' HO_7.out).1; omega))
                              obtain ⟨ua288_0, uc288_0, rfl, ul288_0, ge288_0⟩ := k43_openF hMe288
                              have hv288_0 := hcc288 0 _ rfl
                              rw [Nat.add_zero] at hv288_0
                              replace hv288_0 := Option.some.inj (hv288_0.symm.trans hx288_0)
                              injection hv288_0 with hva_ hvn_ hvc_
                              rw [hva_] at ge288_0
                              rw [hvc_] at ul288_0
                              have HL288_0 := Aside0.mk (show Kd.V (Kd.int .u8) 5 _ w.heap.size _ _ ((rd_T43 t283 x8_1).f0) from Kd.V_mk ul288_0 ge288_0)
                              clear hva_ hvn_ hvc_ ge288_0 ul288_0
                              clear hcc288 hce288
                              have HR288_0 := Aside0.mk hi288_0
                              have HC288_0 := Aside0.mk hl288_0
                              clear hi288_0 hl288_0
                              replace p288 := eq_true p288
                              replace q288 := eq_true q288
                              have q34 : (x10_9 : Int) ≤ ((((rd_T43 t283 x8_1).f0).length : Int) : Int) := of_decide_eq_true (by first | (with_reducible assumption) | assumption)
                              obtain ⟨i034, hi034, _, hsz34, _⟩ := info_parts info5
                              have hroom34 : ((rd_T43 t283 x8_1).f0).length ≤ c288_0 := HC288_0.out
                              have hC34 : Kd.F (Kd.int .u8) _ _ A288_0 ((rd_T43 t283 x8_1).f0).length ((rd_T43 t283 x8_1).f0) := (Kd.V_at (base := w.heap.size) HL288_0.out).2.2
                              have hcut34 := cut_to (P := Tryd.prog) 23 5 .i64 Tryd.underlying23 hi034 A288_0 ((rd_T43 t283 x8_1).f0).length c288_0 x10_9 (of_decide_eq_true (by first | (with_reducible assumption) | assumption)) q34 hroom34
                              have hr34 := Kd.F_take (m := (x10_9 : Int).toNat) hC34 (by omega)
                              have hy34 : y289.length = (x10_9 : Int).toNat := (by rw [Ny289.out, List.length_take]; omega)
                              rw [← Ny289.out] at hr34
                              rw [← hy34] at hcut34
                              have HO293 := Aside0.mk (show Kd.V (Kd.int .u8) 5 _ w.heap.size _ (.slice A288_0 y289.length c288_0) y289 from Kd.V_mk (by omega) hr34)
                              have HC293 := Aside0.mk (show y289.length ≤ c288_0 from by omega)
                              clear hr34 hC34 hroom34 hi034 hsz34
                              have KY34 := Aside0.mk hy34
                              clear hy34
                              replace q34 := eq_true q34
                              have p294 : 0 ≤ (x8_1 : Int) := of_decide_eq_true (by first | (with_reducible assumption) | assumption)
                              have q294 : x8_1 < (t283.length : Int) := of_decide_eq_true (by first | (with_reducible assumption) | assumption)
                              obtain ⟨ad294, A294_0, c294_0, e294, hx294_0, hx294_1, hx294_2, hx294_3, hl294_0, hi294_0⟩ := at_T43 (Kd.N_reads' HO_7.out).2.2 x8_1 p294 q294
                              obtain rfl : ad287 = ad294 := (by injection e294)
                              obtain ⟨ce294, hce294, hMe294, hcc294⟩ := Kd.N_get HO_7.out z43 x8_1 p294 (by first | exact q294 | exact of_decide_eq_true (by first | (with_reducible assumption) | assumption) | (have e_ := (Kd.N_reads' HO_7.out).1; omega))
                              obtain ⟨ua294_0, uc294_0, rfl, ul294_0, ge294_0⟩ := k43_openF hMe294
                              have hv294_0 := hcc294 0 _ rfl
                              rw [Nat.add_zero] at hv294_0
                              replace hv294_0 := Option.some.inj (hv294_0.symm.trans hx294_0)
                              injection hv294_0 with hva_ hvn_ hvc_
                              rw [hva_] at ge294_0
                              rw [hvc_] at ul294_0
                              have HL294_0 := Aside0.mk (show Kd.V (Kd.int .u8) 5 _ w.heap.size _ _ ((rd_T43 t283 x8_1).f0) from Kd.V_mk ul294_0 ge294_0)
                              clear hva_ hvn_ hvc_ ge294_0 ul294_0
                              clear hcc294 hce294
                              have HR294_0 := Aside0.mk hi294_0
                              have HC294_0 := Aside0.mk hl294_0
                              clear hi294_0 hl294_0
                              replace p294 := eq_true p294
                              replace q294 := eq_true q294
                              have ea_ := Option.some.inj (hx288_0.symm.trans hx294_0)
                              injection ea_ with ea_ en_ ec_
                              subst ea_
                              subst ec_
                              clear en_
                              go_wp2_with (first | ((with_reducible refine gate_callee (f := 30) rfl ?_); refine goesL_ (some 63) rfl rfl Tryd.func30 (by kernel_rfl) rfl #[.slice A288_0 y289.length c288_0, .int .i64 0, .int .i64 (l1.length : Int)] rfl (by (try simp only [List.map_toArray, List.map_cons, List.map_nil]); first | done | rfl | (simp only [List.length_drop, List.length_take]; rfl)) ?_; (with_reducible refine (wire_ReadBytes.calls kj9 _ _ y289 0 (l1.length : Int) t304 t305 t306 _ ?side1 ?side2 A29.out).mono ?_); (case side1 => repeat (first | exact (Kd.V_reads' HO293.out).2.2 | (with_reducible refine Kd.C_alloc ?_ _) | (with_reducible refine Kd.C_drewN ?_ _) | (with_reducible refine Kd.C_drew ?_))); (case side2 => exact (Kd.V_reads' HO293.out).2.1); rintro e w35 ⟨v307, rfl, ho0, hb⟩; refine ⟨_, rfl, ?_⟩; have n0_ := Aside0.mk (Kd.N_elder' (by (with_reducible repeat (first | apply Kd.N_alloc | apply Kd.N_drewN | apply Kd.N_drew)); exact HO_7.out) (Kd.R_base ho0) hb); have n1_ := Aside0.mk (Kd.V_elder' (by (with_reducible repeat (first | apply Kd.V_alloc | apply Kd.V_drewN | apply Kd.V_drew)); exact HL288_0.out) (Kd.R_base ho0) hb); have n2_ := Aside0.mk (Kd.V_elder' (by (with_reducible repeat (first | apply Kd.V_alloc | apply Kd.V_drewN | apply Kd.V_drew)); exact HO293.out) (Kd.R_base ho0) hb); have n3_ := Aside0.mk (Kd.V_elder' (by (with_reducible repeat (first | apply Kd.V_alloc | apply Kd.V_drewN | apply Kd.V_drew)); exact HL294_0.out) (Kd.R_base ho0) hb); have n4_ := Aside0.mk (Kd.R_lower ho0 (below_size (by repeat (first | (with_reducible first | exact HB.out | apply below_alloc | apply pw_below_drewN | apply below_drew1) | exact HB.out)))); have n5_ := Aside0.mk (Kd.C_below (by repeat (first | (with_reducible exact HR287_0.out) | (with_reducible refine Kd.C_alloc ?_ _) | (with_reducible refine Kd.C_drewN ?_ _) | (with_reducible refine Kd.C_drew ?_) | exact HR287_0.out)) hb); have n6_ := Aside0.mk (Kd.C_below (by repeat (first | (with_reducible exact HR288_0.out) | (with_reducible refine Kd.C_alloc ?_ _) | (with_reducible refine Kd.C_drewN ?_ _) | (with_reducible refine Kd.C_drew ?_) | exact HR288_0.out)) hb); have n7_ := Aside0.mk (Kd.C_below (by repeat (first | (with_reducible exact HR294_0.out) | (with_reducible refine Kd.C_alloc ?_ _) | (with_reducible refine Kd.C_drewN ?_ _) | (with_reducible refine Kd.C_drew ?_) | exact HR294_0.out)) hb); have n8_ := Aside0.mk (below_step (by repeat (first | (with_reducible first | exact HB.out | apply below_alloc | apply pw_below_drewN | apply below_drew1) | exact HB.out)) hb); clear HO_7; clear HL288_0; clear HO293; clear HL294_0; clear HR287_0; clear HR288_0; clear HR294_0; clear HB; have HO_7 := n0_; have HL288_0 := n1_; have HO293 := n2_; have HL294_0 := n3_; have HO308 := n4_; have HR287_0 := n5_; have HR288_0 := n6_; have HR294_0 := n7_; have HB := n8_; clear n0_ n1_ n2_ n3_ n4_ n5_ n6_ n7_ n8_; (try clear hb); (try clear hb2); (try clear hk); (try clear hi); (try clear ho0)) | ((with_reducible refine gate_callee (f := 29) rfl ?_); refine goesL_ (some 68) rfl rfl Tryd.func29 (by kernel_rfl) rfl #[.int .i64 t306] rfl (by (try simp only [List.map_toArray, List.map_cons, List.map_nil]); first | done | rfl | (simp only [List.length_drop, List.length_take]; rfl)) ?_; (with_reducible refine (kilnlaw1_num.calls t306 t309 _ A30.out).mono ?_); rintro e w' ⟨rfl, ⟨nd, rfl⟩⟩; refine ⟨_, rfl, ?_⟩))
                              go_ret
                              exact ⟨by first | rfl | (simp [errW_none, errW_some] <;> rfl) | (simp [*, errW_none, errW_some] <;> rfl), by repeat (first | (with_reducible first | exact HB.out | apply below_alloc | apply pw_below_drewN | apply below_drew1) | exact HB.out)⟩
                      · rw [if_neg c16] at H
                        exact absurd H (by simp)
                    · rw [if_neg c15] at H
                      exact absurd H (by simp)
                  · rw [if_neg c14] at H
                    exact absurd H (by simp)
                · rw [if_neg c13] at H
                  exact absurd H (by simp)
        · rw [if_neg c7] at H
          exact absurd H (by simp)
      · rw [if_neg c6] at H
        have c6b0 : decide (x8_1 < (t283.length : Int)) = false := decide_eq_false c6
        clear c6
        replace H := Option.bind_eq_some_iff.mp H
        obtain ⟨t286, A360, H⟩ := H
        replace H : (some t286) = some r := H
        have A36 := Aside0.mk A360
        clear A360
        obtain rfl := Option.some.inj H
        obtain ⟨Ao37, co37, eo37⟩ := Kd.N_slice HO_7.out
        subst eo37
        go_wp2_with (first | ((with_reducible refine gate_callee (f := 17) rfl ?_); refine goesL_ (some 96) rfl rfl Tryd.func17 (by kernel_rfl) rfl #[] rfl (by (try simp only [List.map_toArray, List.map_cons, List.map_nil]); first | done | rfl | (simp only [List.length_drop, List.length_take]; rfl)) ?_; (with_reducible refine (kilnlaw1_started.calls k1  t286 _ ?side1 A36.out).mono ?_); (case side1 => first | exact HG.out | exact Half.below HG.out (by repeat (first | (with_reducible first | exact HB.out | apply below_alloc | apply pw_below_drewN | apply below_drew1) | exact HB.out))); rintro e w38 ⟨rfl, hb⟩; refine ⟨_, rfl, ?_⟩; have n0_ := Aside0.mk (Kd.N_below (by (with_reducible repeat (first | apply Kd.N_alloc | apply Kd.N_drewN | apply Kd.N_drew)); exact HO_7.out) hb); have n1_ := Aside0.mk (below_step (by repeat (first | (with_reducible first | exact HB.out | apply below_alloc | apply pw_below_drewN | apply below_drew1) | exact HB.out)) hb); clear HO_7; clear HB; have HO_7 := n0_; have HB := n1_; clear n0_ n1_; (try clear hb); (try clear hb2); (try clear hk); (try clear hi)))
        go_ret
        exact ⟨by first | rfl | (simp [errW_none, errW_some] <;> rfl) | (simp [*, errW_none, errW_some] <;> rfl), by repeat (first | (with_reducible first | exact HB.out | apply below_alloc | apply pw_below_drewN | apply below_drew1) | exact HB.out)⟩

end Go.Proofs.YthmnomdjpbfefaaDoor.P
