-- written by a program of this session, after the kit's print
import Derived.Test.YtddnhcnkjcdfgaaPx0
import Derived.Test.YtddnhcnkjcdfgaaPx1
namespace Go.Proofs.Ytddnhcnkjcdfgaa.P
open Go.RowKit Go.Proofs.YtddnhcnkjcdfgaaW.PrintWords Go.Proofs.YtddnhcnkjcdfgaaW.PrintLast Go.Proofs.YtddnhcnkjcdfgaaW.PrintMore
attribute [local go_sem] max2_int min2_int max_two min_two max_three min_three max_four min_four   -- for this text's walks alone
set_option linter.unusedVariables false
set_option linter.unusedSimpArgs false

/-! ### kilnlaw3_among: function 32 -/
def kilnlaw3_among.l0 : Nat → List Int → List (S30) → Int → Int → Option (Bool)
  | 0, _, _, _, _ => none
  | k + 1, x0, x2, x3, x9 => if x9 < (x2.length : Int) then (if 0 ≤ x9 then (if ((rd_T30 x2 x9).f0) = x3 then (if (strOfNums ((rd_T30 x2 x9).f1)).toList = (strOfNums x0).toList then (some true) else (kilnlaw3_among.l0 k x0 x2 x3 (wrap64 (x9 + 1)))) else (kilnlaw3_among.l0 k x0 x2 x3 (wrap64 (x9 + 1)))) else (none)) else (some false)
def kilnlaw3_among.f (k : Nat) (l0 : List Int) (l1 : List Int) (l2 : List (S30)) (a3 : Int) : Option (Bool) := if (strOfNums l0).toList = (strOfNums l1).toList then (some true) else (kilnlaw3_among.l0 k l0 l2 a3 0)
theorem kilnlaw3_among.mono_l : ∀ k, (∀ y0 y1 y2 y3, LeO (kilnlaw3_among.l0 k y0 y1 y2 y3) (kilnlaw3_among.l0 (k + 1) y0 y1 y2 y3))
  | 0 => fun _ _ _ _ r h => by simp [kilnlaw3_among.l0] at h
  | k + 1 => by
    have ih0 := kilnlaw3_among.mono_l k
    · intro y0 y1 y2 y3
      unfold kilnlaw3_among.l0
      repeat' first
      | (with_reducible exact ih0 _ _ _ _)
      | (with_reducible exact LeO.refl _)
      | (with_reducible exact LeO.none _)
      | (with_reducible refine LeO.ite ?_ ?_)
      | (with_reducible refine LeO.bind ?_ (fun _ => ?_))
      | exact ih0 _ _ _ _
      | exact LeO.none _
      | refine LeO.ite ?_ ?_
      | refine LeO.bind ?_ (fun _ => ?_)
theorem kilnlaw3_among.mono : ∀ a0 a1 a2 a3 k, LeO (kilnlaw3_among.f k a0 a1 a2 a3) (kilnlaw3_among.f (k + 1) a0 a1 a2 a3) := by
  intro a0 a1 a2 a3 k
  have ih0 := kilnlaw3_among.mono_l k
  unfold kilnlaw3_among.f
  repeat' first
      | (with_reducible exact ih0 _ _ _ _)
      | (with_reducible exact LeO.refl _)
      | (with_reducible exact LeO.none _)
      | (with_reducible refine LeO.ite ?_ ?_)
      | (with_reducible refine LeO.bind ?_ (fun _ => ?_))
      | exact ih0 _ _ _ _
      | exact LeO.none _
      | refine LeO.ite ?_ ?_
      | refine LeO.bind ?_ (fun _ => ?_)
set_option maxHeartbeats 8000000 in
set_option maxRecDepth 100000 in
theorem kilnlaw3_among.calls (k : Nat) (A0 : Option Addr) (c0 : Nat) (l0 : List Int) (A1 : Option Addr) (c1 : Nat) (l1 : List Int) (A2 : Option Addr) (c2 : Nat) (l2 : List (S30)) (a3 : Int) (r : Bool) (w : World) (hr0 : Kd.C (Kd.int .u8) w A0 l0.length l0) (hc0 : l0.length ≤ c0) (hr1 : Kd.C (Kd.int .u8) w A1 l1.length l1) (hc1 : l1.length ≤ c1) (hr2 : Kd.C k30 w A2 l2.length l2) (hc2 : l2.length ≤ c2) (h : kilnlaw3_among.f k l0 l1 l2 a3 = some r) :
    Calls Try.prog 32 #[.slice A0 l0.length c0, .slice A1 l1.length c1, .slice A2 l2.length c2, .int .i64 a3] w fun e w' => e = .returned (.bool r) ∧ Drawn0 w w' := by
  have HR0 := Aside0.mk hr0
  have HC0 := Aside0.mk hc0
  clear hr0 hc0
  have HR1 := Aside0.mk hr1
  have HC1 := Aside0.mk hc1
  clear hr1 hc1
  have HR2 := Aside0.mk hr2
  have HC2 := Aside0.mk hc2
  clear hr2 hc2
  have H : (if (strOfNums l0).toList = (strOfNums l1).toList then (some true) else (kilnlaw3_among.l0 k l0 l2 a3 0)) = some r := h
  clear h
  by_cases c5 : (strOfNums l0).toList = (strOfNums l1).toList
  · rw [if_pos c5] at H
    have c5b0 : ((strOfNums l0).toList == (strOfNums l1).toList) = true := beq_iff_eq.mpr c5
    have c5b1 : ((strOfNums l0).toList != (strOfNums l1).toList) = false := bne_eq_false_iff_eq.mpr c5
    clear c5
    obtain rfl := Option.some.inj H
    have hcv6 := Kd.C_string (P := Try.prog) (A := A0) (c := c0) Try.underlying28 Try.underlying5 Try.underlying9 HR0.out
    have hcv7 := Kd.C_string (P := Try.prog) (A := A1) (c := c1) Try.underlying28 Try.underlying5 Try.underlying9 HR1.out
    go_enter Try.func32, Try.ntmps32
    go_wp2
    repeat (go_quiet (fail); try go_wp2)
    go_ret
    exact ⟨by first | rfl | (simp; done) | (simp [*]; done), by repeat (first | exact Drawn0.refl _ | apply Drawn0.step)⟩
  · rw [if_neg c5] at H
    have c5b0 : ((strOfNums l0).toList == (strOfNums l1).toList) = false := beq_eq_false_iff_ne.mpr c5
    have c5b1 : ((strOfNums l0).toList != (strOfNums l1).toList) = true := bne_iff_ne.mpr c5
    have H' := Aside0.mk H
    clear H
    have hcv8 := Kd.C_string (P := Try.prog) (A := A0) (c := c0) Try.underlying28 Try.underlying5 Try.underlying9 HR0.out
    have hcv9 := Kd.C_string (P := Try.prog) (A := A1) (c := c1) Try.underlying28 Try.underlying5 Try.underlying9 HR1.out
    go_enter Try.func32, Try.ntmps32
    go_wp2
    repeat (go_quiet (fail); try go_wp2)
    go_loopg [9] k (fun kq v9 w' => ∃ (x9_1 : Int), v9 = .int .i64 x9_1 ∧ Aside0 (kilnlaw3_among.l0 kq l0 l2 a3 x9_1 = some r) ∧ Aside0 (kq ≤ k) ∧ Drawn0 w w')
    case atStart => exact ⟨(0), (by first | rfl | (simp; done) | (simp [*]; done)), H', ⟨Nat.le_refl _⟩, by repeat (first | exact Drawn0.refl _ | apply Drawn0.step)⟩
    case round =>
      clear H'
      try clear c1
      try clear c2
      try clear p2
      try clear c3
      try clear c5
      try clear c5b0
      try clear c5b1
      try clear hcv6
      try clear hcv7
      try clear hcv8
      try clear hcv9
      obtain ⟨x9_1, rfl, HA, HK1, ⟨m1, rfl⟩⟩ := hrel
      cases gk with
      | zero => exact absurd HA.out (by simp [kilnlaw3_among.l0])
      | succ k1 =>
        have H := HA.out
        clear HA
        simp only [kilnlaw3_among.l0] at H
        by_cases c10 : x9_1 < (l2.length : Int)
        · rw [if_pos c10] at H
          have c10b0 : decide (x9_1 < (l2.length : Int)) = true := decide_eq_true c10
          clear c10
          by_cases c11 : 0 ≤ x9_1
          · rw [if_pos c11] at H
            have c11b0 : decide (0 ≤ x9_1) = true := decide_eq_true c11
            clear c11
            by_cases c12 : ((rd_T30 l2 x9_1).f0) = a3
            · rw [if_pos c12] at H
              have c12b0 : (((rd_T30 l2 x9_1).f0) == a3) = true := beq_iff_eq.mpr c12
              have c12b1 : (((rd_T30 l2 x9_1).f0) != a3) = false := bne_eq_false_iff_eq.mpr c12
              clear c12
              by_cases c13 : (strOfNums ((rd_T30 l2 x9_1).f1)).toList = (strOfNums l0).toList
              · rw [if_pos c13] at H
                have c13b0 : ((strOfNums ((rd_T30 l2 x9_1).f1)).toList == (strOfNums l0).toList) = true := beq_iff_eq.mpr c13
                have c13b1 : ((strOfNums ((rd_T30 l2 x9_1).f1)).toList != (strOfNums l0).toList) = false := bne_eq_false_iff_eq.mpr c13
                clear c13
                obtain rfl := Option.some.inj H
                have p316 : 0 ≤ (x9_1 : Int) := of_decide_eq_true (by first | (with_reducible assumption) | assumption)
                have q316 : x9_1 < (l2.length : Int) := of_decide_eq_true (by first | (with_reducible assumption) | assumption)
                obtain ⟨ad316, A316_1, c316_1, e316, hx316_0, hx316_1, hl316_1, hi316_1⟩ := at_T30 HR2.out x9_1 p316 q316
                cases e316
                have HR316_1 := Aside0.mk hi316_1
                have HC316_1 := Aside0.mk hl316_1
                clear hi316_1 hl316_1
                replace p316 := eq_true p316
                replace q316 := eq_true q316
                have p317 : 0 ≤ (x9_1 : Int) := of_decide_eq_true (by first | (with_reducible assumption) | assumption)
                have q317 : x9_1 < (l2.length : Int) := of_decide_eq_true (by first | (with_reducible assumption) | assumption)
                obtain ⟨ad317, A317_1, c317_1, e317, hx317_0, hx317_1, hl317_1, hi317_1⟩ := at_T30 HR2.out x9_1 p317 q317
                obtain rfl : ad316 = ad317 := (by injection e317)
                have HR317_1 := Aside0.mk hi317_1
                have HC317_1 := Aside0.mk hl317_1
                clear hi317_1 hl317_1
                replace p317 := eq_true p317
                replace q317 := eq_true q317
                have ea_ := Option.some.inj (hx316_1.symm.trans hx317_1)
                injection ea_ with ea_ en_ ec_
                subst ea_
                subst ec_
                clear en_
                have hcv14 := Kd.C_string (P := Try.prog) (A := A316_1) (c := c316_1) Try.underlying28 Try.underlying5 Try.underlying9 HR317_1.out
                have hcv15 := Kd.C_string (P := Try.prog) (A := A0) (c := c0) Try.underlying28 Try.underlying5 Try.underlying9 HR0.out
                go_wp2
                have hKp := Aside0.mk (fun m => (show ((w.drewN m).cell? (ad316.add ((x9_1).toNat * 2)) = some (.int .i64 ((rd_T30 l2 x9_1).f0)) ∧ (w.drewN m).cell? ⟨(ad316.add ((x9_1).toNat * 2)).block, (ad316.add ((x9_1).toNat * 2)).off + 1, none⟩ = some (.slice A316_1 ((rd_T30 l2 x9_1).f1).length c316_1)) ∧ (convert 28 9 (.slice A316_1 ((rd_T30 l2 x9_1).f1).length c316_1)).run Try.prog (w.drewN m) = .ok (.string (strOfNums ((rd_T30 l2 x9_1).f1))) (w.drewN m) ∧ (convert 28 9 (.slice A0 l0.length c0)).run Try.prog (w.drewN m) = .ok (.string (strOfNums l0)) (w.drewN m) from ⟨⟨hx316_0, hx316_1⟩, Kd.C_string (P := Try.prog) (A := A316_1) (c := c316_1) Try.underlying28 Try.underlying5 Try.underlying9 (Kd.C_drewN HR316_1.out _), Kd.C_string (P := Try.prog) (A := A0) (c := c0) Try.underlying28 Try.underlying5 Try.underlying9 (Kd.C_drewN HR0.out _)⟩))
                go_region_held3 (fun W => (W.cell? (ad316.add ((x9_1).toNat * 2)) = some (.int .i64 ((rd_T30 l2 x9_1).f0)) ∧ W.cell? ⟨(ad316.add ((x9_1).toNat * 2)).block, (ad316.add ((x9_1).toNat * 2)).off + 1, none⟩ = some (.slice A316_1 ((rd_T30 l2 x9_1).f1).length c316_1)) ∧ (convert 28 9 (.slice A316_1 ((rd_T30 l2 x9_1).f1).length c316_1)).run Try.prog W = .ok (.string (strOfNums ((rd_T30 l2 x9_1).f1))) W ∧ (convert 28 9 (.slice A0 l0.length c0)).run Try.prog W = .ok (.string (strOfNums l0)) W) (first | assumption | exact hKp.out (m1 + 1) | fail) (fail)
                go_wp2
                go_ret
                exact ⟨by first | rfl | (simp; done) | (simp [*]; done), by repeat (first | exact Drawn0.refl _ | apply Drawn0.step)⟩
              · rw [if_neg c13] at H
                have c13b0 : ((strOfNums ((rd_T30 l2 x9_1).f1)).toList == (strOfNums l0).toList) = false := beq_eq_false_iff_ne.mpr c13
                have c13b1 : ((strOfNums ((rd_T30 l2 x9_1).f1)).toList != (strOfNums l0).toList) = true := bne_iff_ne.mpr c13
                have H' := Aside0.mk H
                clear H
                have p316 : 0 ≤ (x9_1 : Int) := of_decide_eq_true (by first | (with_reducible assumption) | assumption)
                have q316 : x9_1 < (l2.length : Int) := of_decide_eq_true (by first | (with_reducible assumption) | assumption)
                obtain ⟨ad316, A316_1, c316_1, e316, hx316_0, hx316_1, hl316_1, hi316_1⟩ := at_T30 HR2.out x9_1 p316 q316
                cases e316
                have HR316_1 := Aside0.mk hi316_1
                have HC316_1 := Aside0.mk hl316_1
                clear hi316_1 hl316_1
                replace p316 := eq_true p316
                replace q316 := eq_true q316
                have p317 : 0 ≤ (x9_1 : Int) := of_decide_eq_true (by first | (with_reducible assumption) | assumption)
                have q317 : x9_1 < (l2.length : Int) := of_decide_eq_true (by first | (with_reducible assumption) | assumption)
                obtain ⟨ad317, A317_1, c317_1, e317, hx317_0, hx317_1, hl317_1, hi317_1⟩ := at_T30 HR2.out x9_1 p317 q317
                obtain rfl : ad316 = ad317 := (by injection e317)
                have HR317_1 := Aside0.mk hi317_1
                have HC317_1 := Aside0.mk hl317_1
                clear hi317_1 hl317_1
                replace p317 := eq_true p317
                replace q317 := eq_true q317
                have ea_ := Option.some.inj (hx316_1.symm.trans hx317_1)
                injection ea_ with ea_ en_ ec_
                subst ea_
                subst ec_
                clear en_
                have hcv16 := Kd.C_string (P := Try.prog) (A := A316_1) (c := c316_1) Try.underlying28 Try.underlying5 Try.underlying9 HR317_1.out
                have hcv17 := Kd.C_string (P := Try.prog) (A := A0) (c := c0) Try.underlying28 Try.underlying5 Try.underlying9 HR0.out
                go_wp2
                have hKp := Aside0.mk (fun m => (show ((w.drewN m).cell? (ad316.add ((x9_1).toNat * 2)) = some (.int .i64 ((rd_T30 l2 x9_1).f0)) ∧ (w.drewN m).cell? ⟨(ad316.add ((x9_1).toNat * 2)).block, (ad316.add ((x9_1).toNat * 2)).off + 1, none⟩ = some (.slice A316_1 ((rd_T30 l2 x9_1).f1).length c316_1)) ∧ (convert 28 9 (.slice A316_1 ((rd_T30 l2 x9_1).f1).length c316_1)).run Try.prog (w.drewN m) = .ok (.string (strOfNums ((rd_T30 l2 x9_1).f1))) (w.drewN m) ∧ (convert 28 9 (.slice A0 l0.length c0)).run Try.prog (w.drewN m) = .ok (.string (strOfNums l0)) (w.drewN m) from ⟨⟨hx316_0, hx316_1⟩, Kd.C_string (P := Try.prog) (A := A316_1) (c := c316_1) Try.underlying28 Try.underlying5 Try.underlying9 (Kd.C_drewN HR316_1.out _), Kd.C_string (P := Try.prog) (A := A0) (c := c0) Try.underlying28 Try.underlying5 Try.underlying9 (Kd.C_drewN HR0.out _)⟩))
                go_region_held3 (fun W => (W.cell? (ad316.add ((x9_1).toNat * 2)) = some (.int .i64 ((rd_T30 l2 x9_1).f0)) ∧ W.cell? ⟨(ad316.add ((x9_1).toNat * 2)).block, (ad316.add ((x9_1).toNat * 2)).off + 1, none⟩ = some (.slice A316_1 ((rd_T30 l2 x9_1).f1).length c316_1)) ∧ (convert 28 9 (.slice A316_1 ((rd_T30 l2 x9_1).f1).length c316_1)).run Try.prog W = .ok (.string (strOfNums ((rd_T30 l2 x9_1).f1))) W ∧ (convert 28 9 (.slice A0 l0.length c0)).run Try.prog W = .ok (.string (strOfNums l0)) W) (first | assumption | exact hKp.out (m1 + 1) | fail) (fail)
                go_wp2
                go_roundg k1
                case measure => have := HK1.out; omega
                case rel => exact ⟨(wrap64 (x9_1 + 1)), (by first | rfl | (simp; done) | (simp [*]; done)), H', ⟨by have := HK1.out; omega⟩, by repeat (first | exact Drawn0.refl _ | apply Drawn0.step)⟩
            · rw [if_neg c12] at H
              have c12b0 : (((rd_T30 l2 x9_1).f0) == a3) = false := beq_eq_false_iff_ne.mpr c12
              have c12b1 : (((rd_T30 l2 x9_1).f0) != a3) = true := bne_iff_ne.mpr c12
              have H' := Aside0.mk H
              clear H
              have p316 : 0 ≤ (x9_1 : Int) := of_decide_eq_true (by first | (with_reducible assumption) | assumption)
              have q316 : x9_1 < (l2.length : Int) := of_decide_eq_true (by first | (with_reducible assumption) | assumption)
              obtain ⟨ad316, A316_1, c316_1, e316, hx316_0, hx316_1, hl316_1, hi316_1⟩ := at_T30 HR2.out x9_1 p316 q316
              cases e316
              have HR316_1 := Aside0.mk hi316_1
              have HC316_1 := Aside0.mk hl316_1
              clear hi316_1 hl316_1
              replace p316 := eq_true p316
              replace q316 := eq_true q316
              go_wp2
              repeat (go_quiet (fail); try go_wp2)
              go_roundg k1
              case measure => have := HK1.out; omega
              case rel => exact ⟨(wrap64 (x9_1 + 1)), (by first | rfl | (simp; done) | (simp [*]; done)), H', ⟨by have := HK1.out; omega⟩, by repeat (first | exact Drawn0.refl _ | apply Drawn0.step)⟩
          · rw [if_neg c11] at H
            exact absurd H (by simp)
        · rw [if_neg c10] at H
          have c10b0 : decide (x9_1 < (l2.length : Int)) = false := decide_eq_false c10
          clear c10
          obtain rfl := Option.some.inj H
          go_wp2
          repeat (go_quiet (fail); try go_wp2)
          go_ret
          exact ⟨by first | rfl | (simp; done) | (simp [*]; done), by repeat (first | exact Drawn0.refl _ | apply Drawn0.step)⟩
end Go.Proofs.Ytddnhcnkjcdfgaa.P
