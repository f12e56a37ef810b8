/- DiskTurns: a bit turned over is another one, just it, in what is read, in what lasts, and in each write that a crash may leave; turned over twice it is as it was. -/
import Derived.Test.YtddnhcnkjcdfgaaPtZ1
import Derived.DataShut
import Derived.SizedLaws
import Derived.ChangeSlices
import Derived.Test.YtddnhcnkjcdfgaaRows
import Derived.WalkKit
import Derived.ProofKit
import Derived.OpenShut
import Derived.ShutString
import Derived.ChangeOld
import Derived.Below
import Derived.Deep.DeepHandedRow
import Derived.Lib.LaidTab
namespace Go.Proofs.Ytddnhcnkjcdfgaa.R
open Go.Proofs.Ytddnhcnkjcdfgaa.M Go.Proofs.Ytddnhcnkjcdfgaa.P
open Go.RowKit Go.Proofs.YtddnhcnkjcdfgaaW.PrintWords Go.Proofs.YtddnhcnkjcdfgaaW.PrintLast Go.Proofs.YtddnhcnkjcdfgaaW.PrintMore
attribute [local go_sem] max2_int min2_int max_two min_two max_three min_three max_four min_four   -- for this text's walks alone
set_option linter.unusedVariables false
set_option linter.unusedSimpArgs false
def kilnref3_SameImage.l0 : Nat → List (List Int) → List (List Int) → Int → Option (Bool)
  | 0, _, _, _ => none
  | k + 1, x0, x1, x5 => if x5 < (x0.length : Int) then (if 0 ≤ x5 then (if x5 < (x1.length : Int) then (if (strOfNums (rd_L2 x0 x5)).toList = (strOfNums (rd_L2 x1 x5)).toList then (kilnref3_SameImage.l0 k x0 x1 (wrap64 (x5 + 1))) else (some false)) else (none)) else (none)) else (some true)
def kilnref3_SameImage.f (k : Nat) (l0 : List (List Int)) (l1 : List (List Int)) : Option (Bool) := if (l0.length : Int) = (l1.length : Int) then (kilnref3_SameImage.l0 k l0 l1 0) else (some false)
theorem kilnref3_SameImage.mono_l : ∀ k, (∀ y0 y1 y2, LeO (kilnref3_SameImage.l0 k y0 y1 y2) (kilnref3_SameImage.l0 (k + 1) y0 y1 y2))
  | 0 => fun _ _ _ r h => by simp [kilnref3_SameImage.l0] at h
  | k + 1 => by
    have ih0 := kilnref3_SameImage.mono_l k
    · intro y0 y1 y2
      unfold kilnref3_SameImage.l0
      repeat' first
      | (with_reducible exact ih0 _ _ _)
      | (with_reducible exact LeO.refl _)
      | (with_reducible exact LeO.none _)
      | (with_reducible refine LeO.ite ?_ ?_)
      | (with_reducible refine LeO.bind ?_ (fun _ => ?_))
      | exact ih0 _ _ _
      | exact LeO.none _
      | refine LeO.ite ?_ ?_
      | refine LeO.bind ?_ (fun _ => ?_)
theorem kilnref3_SameImage.mono : ∀ a0 a1 k, LeO (kilnref3_SameImage.f k a0 a1) (kilnref3_SameImage.f (k + 1) a0 a1) := by
  intro a0 a1 k
  have ih0 := kilnref3_SameImage.mono_l k
  unfold kilnref3_SameImage.f
  repeat' first
      | (with_reducible exact ih0 _ _ _)
      | (with_reducible exact LeO.refl _)
      | (with_reducible exact LeO.none _)
      | (with_reducible refine LeO.ite ?_ ?_)
      | (with_reducible refine LeO.bind ?_ (fun _ => ?_))
      | exact ih0 _ _ _
      | exact LeO.none _
      | refine LeO.ite ?_ ?_
      | refine LeO.bind ?_ (fun _ => ?_)
def same6_T : Bool × List (List Nat × List Nat) := (true, [([], []), ([], []), ([0, 1], [0, 1]), ([2], [2]), ([3], [3]), ([], []), ([], []), ([5, 6], [5, 6]), ([7], [7]), ([8], [8]), ([4, 9], [4, 9])])
def same6_B : List Nat := [0, 0, 3, 7, 15, 0, 0, 96, 224, 480, 1023]
theorem same6_tab : rtab .any (opsOf Try.f36 6) = same6_T := by kernel_rfl
theorem same6_bits : waitsOk same6_T.2 same6_B = true := by kernel_rfl
set_option maxHeartbeats 8000000 in
set_option maxRecDepth 100000 in
theorem kilnref3_SameImage.calls (k : Nat) (A0 : Option Addr) (c0 : Nat) (l0 : List (List Int)) (A1 : Option Addr) (c1 : Nat) (l1 : List (List Int)) (r : Bool) (w : World) (hr0 : Kd.C (Kd.slice 5 (Kd.int .u8)) w A0 l0.length l0) (hc0 : l0.length ≤ c0) (hr1 : Kd.C (Kd.slice 5 (Kd.int .u8)) w A1 l1.length l1) (hc1 : l1.length ≤ c1) (h : kilnref3_SameImage.f k l0 l1 = some r) :
    Calls Try.prog 36 #[.slice A0 l0.length c0, .slice A1 l1.length c1] w fun e w' => e = .returned (.bool r) ∧ Drawn0 w w' := by
  have HR0 := Aside0.mk hr0
  have HC0 := Aside0.mk hc0
  clear hr0 hc0
  have HR1 := Aside0.mk hr1
  have HC1 := Aside0.mk hc1
  clear hr1 hc1
  have H : (if (l0.length : Int) = (l1.length : Int) then (kilnref3_SameImage.l0 k l0 l1 0) else (some false)) = some r := h
  clear h
  by_cases c3 : (l0.length : Int) = (l1.length : Int)
  · rw [if_pos c3] at H
    have c3b0 : ((l0.length : Int) == (l1.length : Int)) = true := beq_iff_eq.mpr c3
    have c3b1 : ((l0.length : Int) != (l1.length : Int)) = false := bne_eq_false_iff_eq.mpr c3
    have c3b2 : (l0.length == l1.length) = true := by first | simpa using c3 | (simp at c3 ⊢; omega)
    clear c3
    have H' := Aside0.mk H
    clear H
    go_enter Try.func36, Try.ntmps36
    go_wp2
    repeat (go_quiet (fail); try go_wp2)
    go_loopg [5] k (fun kq v5 w' => ∃ (x5_1 : Int), v5 = .int .i64 x5_1 ∧ Aside0 (kilnref3_SameImage.l0 kq l0 l1 x5_1 = some r) ∧ Aside0 (kq ≤ k) ∧ Drawn0 w w')
    case atStart => exact ⟨(0), (by first | rfl | (simp; done) | (simp [*]; done)), H', ⟨Nat.le_refl _⟩, by repeat (first | exact Drawn0.refl _ | apply Drawn0.step)⟩
    case round =>
      clear H'
      try clear c1
      try clear p2
      try clear c3
      try clear c3b0
      try clear c3b1
      try clear c3b2
      obtain ⟨x5_1, rfl, HA, HK1, ⟨m1, rfl⟩⟩ := hrel
      cases gk with
      | zero => exact absurd HA.out (by simp [kilnref3_SameImage.l0])
      | succ k1 =>
        have H := HA.out
        clear HA
        simp only [kilnref3_SameImage.l0] at H
        by_cases c4 : x5_1 < (l0.length : Int)
        · rw [if_pos c4] at H
          have c4b0 : decide (x5_1 < (l0.length : Int)) = true := decide_eq_true c4
          clear c4
          by_cases c5 : 0 ≤ x5_1
          · rw [if_pos c5] at H
            have c5b0 : decide (0 ≤ x5_1) = true := decide_eq_true c5
            clear c5
            by_cases c6 : x5_1 < (l1.length : Int)
            · rw [if_pos c6] at H
              have c6b0 : decide (x5_1 < (l1.length : Int)) = true := decide_eq_true c6
              clear c6
              by_cases c7 : (strOfNums (rd_L2 l0 x5_1)).toList = (strOfNums (rd_L2 l1 x5_1)).toList
              · rw [if_pos c7] at H
                have c7b0 : ((strOfNums (rd_L2 l0 x5_1)).toList == (strOfNums (rd_L2 l1 x5_1)).toList) = true := beq_iff_eq.mpr c7
                have c7b1 : ((strOfNums (rd_L2 l0 x5_1)).toList != (strOfNums (rd_L2 l1 x5_1)).toList) = false := bne_eq_false_iff_eq.mpr c7
                clear c7
                have H' := Aside0.mk H
                clear H
                have p222 : 0 ≤ (x5_1 : Int) := of_decide_eq_true (by first | (with_reducible assumption) | assumption)
                have q222 : x5_1 < (l0.length : Int) := of_decide_eq_true (by first | (with_reducible assumption) | assumption)
                obtain ⟨ad222, A222_0, c222_0, e222, hx222_0, hl222_0, hi222_0⟩ := at_L2 HR0.out x5_1 p222 q222
                cases e222
                have HR222_0 := Aside0.mk hi222_0
                have HC222_0 := Aside0.mk hl222_0
                clear hi222_0 hl222_0
                replace p222 := eq_true p222
                replace q222 := eq_true q222
                have p223 : 0 ≤ (x5_1 : Int) := of_decide_eq_true (by first | (with_reducible assumption) | assumption)
                have q223 : x5_1 < (l1.length : Int) := of_decide_eq_true (by first | (with_reducible assumption) | assumption)
                obtain ⟨ad223, A223_0, c223_0, e223, hx223_0, hl223_0, hi223_0⟩ := at_L2 HR1.out x5_1 p223 q223
                cases e223
                have HR223_0 := Aside0.mk hi223_0
                have HC223_0 := Aside0.mk hl223_0
                clear hi223_0 hl223_0
                replace p223 := eq_true p223
                replace q223 := eq_true q223
                have HK := Aside0.mk (fun W (hW : Below w.heap.size w W) => (show W.cell? (ad222.add x5_1.toNat) = some (.slice A222_0 (rd_L2 l0 x5_1).length c222_0) ∧ W.cell? (ad223.add x5_1.toNat) = some (.slice A223_0 (rd_L2 l1 x5_1).length c223_0) ∧ (convert 28 9 (.slice A222_0 (rd_L2 l0 x5_1).length c222_0)).run Try.prog W = .ok (.string (strOfNums (rd_L2 l0 x5_1))) W ∧ (convert 28 9 (.slice A223_0 (rd_L2 l1 x5_1).length c223_0)).run Try.prog W = .ok (.string (strOfNums (rd_L2 l1 x5_1))) W from
                  ⟨(hW.cell (World.block_lt_of_cell? w _ hx222_0)).trans hx222_0, (hW.cell (World.block_lt_of_cell? w _ hx223_0)).trans hx223_0, Kd.C_string (P := Try.prog) (A := A222_0) (c := c222_0) Try.underlying28 Try.underlying5 Try.underlying9 (Kd.C_below HR222_0.out hW), Kd.C_string (P := Try.prog) (A := A223_0) (c := c223_0) Try.underlying28 Try.underlying5 Try.underlying9 (Kd.C_below HR223_0.out hW)⟩))
                clear hx222_0 hx223_0
                go_upto_region 6 with (fail)
                refine start_ (n := 11) (S := fun W => W.cell? (ad222.add x5_1.toNat) = some (.slice A222_0 (rd_L2 l0 x5_1).length c222_0) ∧ W.cell? (ad223.add x5_1.toNat) = some (.slice A223_0 (rd_L2 l1 x5_1).length c223_0) ∧ (convert 28 9 (.slice A222_0 (rd_L2 l0 x5_1).length c222_0)).run Try.prog W = .ok (.string (strOfNums (rd_L2 l0 x5_1))) W ∧ (convert 28 9 (.slice A223_0 (rd_L2 l1 x5_1).length c223_0)).run Try.prog W = .ok (.string (strOfNums (rd_L2 l1 x5_1))) W) (ds := []) (bb 11 0) (by kernel_rfl) rfl rfl (HK.out _ (by repeat (first | exact Below.refl _ _ | apply below_drew1 | apply pw_below_drewN))) (fun hHeld => ?_); refine with_tabW same6_tab same6_bits (fun HT_ HW_ => ?_)
                refine pure_ (i := 0) (N := (some 17)) (v := ?_) (a' := ?_) (bb 11 1) rfl rfl (any_of HT_.out (by kernel_rfl)) (fun _ _ _ h => h) (Or.inl ⟨by rfl, ?_⟩) ?_ ?_
                rotate_left
                · intro w'
                  go_simp
                  with_reducible rfl
                rotate_left
                · simp only [Act.put, List.setIfInBounds_toArray, List.set_cons_zero, List.set_cons_succ, i64_w, i32_w]
                  rfl
                refine pure_ (i := 1) (N := (some 18)) (v := ?_) (a' := ?_) (bb 11 3) rfl rfl (any_of HT_.out (by kernel_rfl)) (fun _ _ _ h => h) (Or.inl ⟨by rfl, ?_⟩) ?_ ?_
                rotate_left
                · intro w'
                  go_simp
                  with_reducible rfl
                rotate_left
                · simp only [Act.put, List.setIfInBounds_toArray, List.set_cons_zero, List.set_cons_succ, i64_w, i32_w]
                  rfl
                refine pure_ (i := 2) (N := (some 19)) (v := ?_) (a' := ?_) (bb 11 7) rfl rfl (any_of HT_.out (by kernel_rfl)) (fun _ _ _ h => h) (Or.inl ⟨by rfl, ?_⟩) ?_ ?_
                rotate_left
                · intro w'
                  go_simp
                  with_reducible rfl
                rotate_left
                · simp only [Act.put, List.setIfInBounds_toArray, List.set_cons_zero, List.set_cons_succ, i64_w, i32_w]
                  rfl
                refine take_ (i := 3) (N := (some 20)) (v := ?_) (a' := ?_) (bb 11 15) rfl rfl (take_ofW HT_.out HW_.out (by kernel_rfl)) (fun _ _ _ h => h) (Or.inl ⟨by rfl, ?_⟩) hHeld ?_ ?_
                rotate_left
                · intro w' s0
                  (try dsimp only at s0)
                  go_simp
                  with_reducible rfl
                rotate_left
                · simp only [Act.put, List.setIfInBounds_toArray, List.set_cons_zero, List.set_cons_succ, i64_w, i32_w]
                  rfl
                refine take_ (i := 4) (N := (some 21)) (v := ?_) (a' := ?_) (bb 11 31) rfl rfl (take_ofW HT_.out HW_.out (by kernel_rfl)) (fun _ _ _ h => h) (Or.inl ⟨by rfl, ?_⟩) hHeld ?_ ?_
                rotate_left
                · intro w' s0
                  (try dsimp only at s0)
                  go_simp
                  with_reducible rfl
                rotate_left
                · simp only [Act.put, List.setIfInBounds_toArray, List.set_cons_zero, List.set_cons_succ, i64_w, i32_w]
                  rfl
                refine pure_ (i := 5) (N := (some 22)) (v := ?_) (a' := ?_) (bb 11 63) rfl rfl (any_of HT_.out (by kernel_rfl)) (fun _ _ _ h => h) (Or.inl ⟨by rfl, ?_⟩) ?_ ?_
                rotate_left
                · intro w'
                  go_simp
                  with_reducible rfl
                rotate_left
                · simp only [Act.put, List.setIfInBounds_toArray, List.set_cons_zero, List.set_cons_succ, i64_w, i32_w]
                  rfl
                refine pure_ (i := 6) (N := (some 23)) (v := ?_) (a' := ?_) (bb 11 127) rfl rfl (any_of HT_.out (by kernel_rfl)) (fun _ _ _ h => h) (Or.inl ⟨by rfl, ?_⟩) ?_ ?_
                rotate_left
                · intro w'
                  go_simp
                  with_reducible rfl
                rotate_left
                · simp only [Act.put, List.setIfInBounds_toArray, List.set_cons_zero, List.set_cons_succ, i64_w, i32_w]
                  rfl
                refine pure_ (i := 7) (N := (some 24)) (v := ?_) (a' := ?_) (bb 11 255) rfl rfl (any_of HT_.out (by kernel_rfl)) (fun _ _ _ h => h) (Or.inl ⟨by rfl, ?_⟩) ?_ ?_
                rotate_left
                · intro w'
                  go_simp
                  with_reducible rfl
                rotate_left
                · simp only [Act.put, List.setIfInBounds_toArray, List.set_cons_zero, List.set_cons_succ, i64_w, i32_w]
                  rfl
                refine take_ (i := 8) (N := (some 25)) (v := ?_) (a' := ?_) (bb 11 511) rfl rfl (take_ofW HT_.out HW_.out (by kernel_rfl)) (fun _ _ _ h => h) (Or.inl ⟨by rfl, ?_⟩) hHeld ?_ ?_
                rotate_left
                · intro w' s0
                  (try dsimp only at s0)
                  go_simp
                  with_reducible rfl
                rotate_left
                · simp only [Act.put, List.setIfInBounds_toArray, List.set_cons_zero, List.set_cons_succ, i64_w, i32_w]
                  rfl
                refine take_ (i := 9) (N := (some 26)) (v := ?_) (a' := ?_) (bb 11 1023) rfl rfl (take_ofW HT_.out HW_.out (by kernel_rfl)) (fun _ _ _ h => h) (Or.inl ⟨by rfl, ?_⟩) hHeld ?_ ?_
                rotate_left
                · intro w' s0
                  (try dsimp only at s0)
                  go_simp
                  with_reducible rfl
                rotate_left
                · simp only [Act.put, List.setIfInBounds_toArray, List.set_cons_zero, List.set_cons_succ, i64_w, i32_w]
                  rfl
                refine pure_ (i := 10) (N := (some 27)) (v := ?_) (a' := ?_) (bb 11 2047) rfl rfl (any_of HT_.out (by kernel_rfl)) (fun _ _ _ h => h) (Or.inl ⟨by rfl, ?_⟩) ?_ ?_
                rotate_left
                · intro w'
                  go_simp
                  with_reducible rfl
                rotate_left
                · simp only [Act.put, List.setIfInBounds_toArray, List.set_cons_zero, List.set_cons_succ, i64_w, i32_w]
                  rfl
                refine done_ (done_of HT_.out (by kernel_rfl)) ?_
                clear hHeld HK
                go_wp2
                go_roundg k1
                case measure => have := HK1.out; omega
                case rel => exact ⟨(wrap64 (x5_1 + 1)), (by first | rfl | (simp; done) | (simp [*]; done)), H', ⟨by have := HK1.out; omega⟩, by repeat (first | exact Drawn0.refl _ | apply Drawn0.step)⟩
              · rw [if_neg c7] at H
                have c7b0 : ((strOfNums (rd_L2 l0 x5_1)).toList == (strOfNums (rd_L2 l1 x5_1)).toList) = false := beq_eq_false_iff_ne.mpr c7
                have c7b1 : ((strOfNums (rd_L2 l0 x5_1)).toList != (strOfNums (rd_L2 l1 x5_1)).toList) = true := bne_iff_ne.mpr c7
                obtain rfl := Option.some.inj H
                have p222 : 0 ≤ (x5_1 : Int) := of_decide_eq_true (by first | (with_reducible assumption) | assumption)
                have q222 : x5_1 < (l0.length : Int) := of_decide_eq_true (by first | (with_reducible assumption) | assumption)
                obtain ⟨ad222, A222_0, c222_0, e222, hx222_0, hl222_0, hi222_0⟩ := at_L2 HR0.out x5_1 p222 q222
                cases e222
                have HR222_0 := Aside0.mk hi222_0
                have HC222_0 := Aside0.mk hl222_0
                clear hi222_0 hl222_0
                replace p222 := eq_true p222
                replace q222 := eq_true q222
                have p223 : 0 ≤ (x5_1 : Int) := of_decide_eq_true (by first | (with_reducible assumption) | assumption)
                have q223 : x5_1 < (l1.length : Int) := of_decide_eq_true (by first | (with_reducible assumption) | assumption)
                obtain ⟨ad223, A223_0, c223_0, e223, hx223_0, hl223_0, hi223_0⟩ := at_L2 HR1.out x5_1 p223 q223
                cases e223
                have HR223_0 := Aside0.mk hi223_0
                have HC223_0 := Aside0.mk hl223_0
                clear hi223_0 hl223_0
                replace p223 := eq_true p223
                replace q223 := eq_true q223
                have HK := Aside0.mk (fun W (hW : Below w.heap.size w W) => (show W.cell? (ad222.add x5_1.toNat) = some (.slice A222_0 (rd_L2 l0 x5_1).length c222_0) ∧ W.cell? (ad223.add x5_1.toNat) = some (.slice A223_0 (rd_L2 l1 x5_1).length c223_0) ∧ (convert 28 9 (.slice A222_0 (rd_L2 l0 x5_1).length c222_0)).run Try.prog W = .ok (.string (strOfNums (rd_L2 l0 x5_1))) W ∧ (convert 28 9 (.slice A223_0 (rd_L2 l1 x5_1).length c223_0)).run Try.prog W = .ok (.string (strOfNums (rd_L2 l1 x5_1))) W from
                  ⟨(hW.cell (World.block_lt_of_cell? w _ hx222_0)).trans hx222_0, (hW.cell (World.block_lt_of_cell? w _ hx223_0)).trans hx223_0, Kd.C_string (P := Try.prog) (A := A222_0) (c := c222_0) Try.underlying28 Try.underlying5 Try.underlying9 (Kd.C_below HR222_0.out hW), Kd.C_string (P := Try.prog) (A := A223_0) (c := c223_0) Try.underlying28 Try.underlying5 Try.underlying9 (Kd.C_below HR223_0.out hW)⟩))
                clear hx222_0 hx223_0
                go_upto_region 6 with (fail)
                refine start_ (n := 11) (S := fun W => W.cell? (ad222.add x5_1.toNat) = some (.slice A222_0 (rd_L2 l0 x5_1).length c222_0) ∧ W.cell? (ad223.add x5_1.toNat) = some (.slice A223_0 (rd_L2 l1 x5_1).length c223_0) ∧ (convert 28 9 (.slice A222_0 (rd_L2 l0 x5_1).length c222_0)).run Try.prog W = .ok (.string (strOfNums (rd_L2 l0 x5_1))) W ∧ (convert 28 9 (.slice A223_0 (rd_L2 l1 x5_1).length c223_0)).run Try.prog W = .ok (.string (strOfNums (rd_L2 l1 x5_1))) W) (ds := []) (bb 11 0) (by kernel_rfl) rfl rfl (HK.out _ (by repeat (first | exact Below.refl _ _ | apply below_drew1 | apply pw_below_drewN))) (fun hHeld => ?_); refine with_tabW same6_tab same6_bits (fun HT_ HW_ => ?_)
                refine pure_ (i := 0) (N := (some 17)) (v := ?_) (a' := ?_) (bb 11 1) rfl rfl (any_of HT_.out (by kernel_rfl)) (fun _ _ _ h => h) (Or.inl ⟨by rfl, ?_⟩) ?_ ?_
                rotate_left
                · intro w'
                  go_simp
                  with_reducible rfl
                rotate_left
                · simp only [Act.put, List.setIfInBounds_toArray, List.set_cons_zero, List.set_cons_succ, i64_w, i32_w]
                  rfl
                refine pure_ (i := 1) (N := (some 18)) (v := ?_) (a' := ?_) (bb 11 3) rfl rfl (any_of HT_.out (by kernel_rfl)) (fun _ _ _ h => h) (Or.inl ⟨by rfl, ?_⟩) ?_ ?_
                rotate_left
                · intro w'
                  go_simp
                  with_reducible rfl
                rotate_left
                · simp only [Act.put, List.setIfInBounds_toArray, List.set_cons_zero, List.set_cons_succ, i64_w, i32_w]
                  rfl
                refine pure_ (i := 2) (N := (some 19)) (v := ?_) (a' := ?_) (bb 11 7) rfl rfl (any_of HT_.out (by kernel_rfl)) (fun _ _ _ h => h) (Or.inl ⟨by rfl, ?_⟩) ?_ ?_
                rotate_left
                · intro w'
                  go_simp
                  with_reducible rfl
                rotate_left
                · simp only [Act.put, List.setIfInBounds_toArray, List.set_cons_zero, List.set_cons_succ, i64_w, i32_w]
                  rfl
                refine take_ (i := 3) (N := (some 20)) (v := ?_) (a' := ?_) (bb 11 15) rfl rfl (take_ofW HT_.out HW_.out (by kernel_rfl)) (fun _ _ _ h => h) (Or.inl ⟨by rfl, ?_⟩) hHeld ?_ ?_
                rotate_left
                · intro w' s0
                  (try dsimp only at s0)
                  go_simp
                  with_reducible rfl
                rotate_left
                · simp only [Act.put, List.setIfInBounds_toArray, List.set_cons_zero, List.set_cons_succ, i64_w, i32_w]
                  rfl
                refine take_ (i := 4) (N := (some 21)) (v := ?_) (a' := ?_) (bb 11 31) rfl rfl (take_ofW HT_.out HW_.out (by kernel_rfl)) (fun _ _ _ h => h) (Or.inl ⟨by rfl, ?_⟩) hHeld ?_ ?_
                rotate_left
                · intro w' s0
                  (try dsimp only at s0)
                  go_simp
                  with_reducible rfl
                rotate_left
                · simp only [Act.put, List.setIfInBounds_toArray, List.set_cons_zero, List.set_cons_succ, i64_w, i32_w]
                  rfl
                refine pure_ (i := 5) (N := (some 22)) (v := ?_) (a' := ?_) (bb 11 63) rfl rfl (any_of HT_.out (by kernel_rfl)) (fun _ _ _ h => h) (Or.inl ⟨by rfl, ?_⟩) ?_ ?_
                rotate_left
                · intro w'
                  go_simp
                  with_reducible rfl
                rotate_left
                · simp only [Act.put, List.setIfInBounds_toArray, List.set_cons_zero, List.set_cons_succ, i64_w, i32_w]
                  rfl
                refine pure_ (i := 6) (N := (some 23)) (v := ?_) (a' := ?_) (bb 11 127) rfl rfl (any_of HT_.out (by kernel_rfl)) (fun _ _ _ h => h) (Or.inl ⟨by rfl, ?_⟩) ?_ ?_
                rotate_left
                · intro w'
                  go_simp
                  with_reducible rfl
                rotate_left
                · simp only [Act.put, List.setIfInBounds_toArray, List.set_cons_zero, List.set_cons_succ, i64_w, i32_w]
                  rfl
                refine pure_ (i := 7) (N := (some 24)) (v := ?_) (a' := ?_) (bb 11 255) rfl rfl (any_of HT_.out (by kernel_rfl)) (fun _ _ _ h => h) (Or.inl ⟨by rfl, ?_⟩) ?_ ?_
                rotate_left
                · intro w'
                  go_simp
                  with_reducible rfl
                rotate_left
                · simp only [Act.put, List.setIfInBounds_toArray, List.set_cons_zero, List.set_cons_succ, i64_w, i32_w]
                  rfl
                refine take_ (i := 8) (N := (some 25)) (v := ?_) (a' := ?_) (bb 11 511) rfl rfl (take_ofW HT_.out HW_.out (by kernel_rfl)) (fun _ _ _ h => h) (Or.inl ⟨by rfl, ?_⟩) hHeld ?_ ?_
                rotate_left
                · intro w' s0
                  (try dsimp only at s0)
                  go_simp
                  with_reducible rfl
                rotate_left
                · simp only [Act.put, List.setIfInBounds_toArray, List.set_cons_zero, List.set_cons_succ, i64_w, i32_w]
                  rfl
                refine take_ (i := 9) (N := (some 26)) (v := ?_) (a' := ?_) (bb 11 1023) rfl rfl (take_ofW HT_.out HW_.out (by kernel_rfl)) (fun _ _ _ h => h) (Or.inl ⟨by rfl, ?_⟩) hHeld ?_ ?_
                rotate_left
                · intro w' s0
                  (try dsimp only at s0)
                  go_simp
                  with_reducible rfl
                rotate_left
                · simp only [Act.put, List.setIfInBounds_toArray, List.set_cons_zero, List.set_cons_succ, i64_w, i32_w]
                  rfl
                refine pure_ (i := 10) (N := (some 27)) (v := ?_) (a' := ?_) (bb 11 2047) rfl rfl (any_of HT_.out (by kernel_rfl)) (fun _ _ _ h => h) (Or.inl ⟨by rfl, ?_⟩) ?_ ?_
                rotate_left
                · intro w'
                  go_simp
                  with_reducible rfl
                rotate_left
                · simp only [Act.put, List.setIfInBounds_toArray, List.set_cons_zero, List.set_cons_succ, i64_w, i32_w]
                  rfl
                refine done_ (done_of HT_.out (by kernel_rfl)) ?_
                clear hHeld HK
                go_wp2
                go_ret
                exact ⟨by first | rfl | (simp; done) | (simp [*]; done), by repeat (first | exact Drawn0.refl _ | apply Drawn0.step)⟩
            · rw [if_neg c6] at H
              exact absurd H (by simp)
          · rw [if_neg c5] at H
            exact absurd H (by simp)
        · rw [if_neg c4] at H
          have c4b0 : decide (x5_1 < (l0.length : Int)) = false := decide_eq_false c4
          clear c4
          obtain rfl := Option.some.inj H
          go_wp2
          repeat (go_quiet (fail); try go_wp2)
          go_ret
          exact ⟨by first | rfl | (simp; done) | (simp [*]; done), by repeat (first | exact Drawn0.refl _ | apply Drawn0.step)⟩
  · rw [if_neg c3] at H
    have c3b0 : ((l0.length : Int) == (l1.length : Int)) = false := beq_eq_false_iff_ne.mpr c3
    have c3b1 : ((l0.length : Int) != (l1.length : Int)) = true := bne_iff_ne.mpr c3
    have c3b2 : (l0.length == l1.length) = false := by first | simpa using c3 | (simp at c3 ⊢; omega)
    obtain rfl := Option.some.inj H
    go_enter Try.func36, Try.ntmps36
    go_wp2
    repeat (go_quiet (fail); try go_wp2)
    go_ret
    exact ⟨by first | rfl | (simp; done) | (simp [*]; done), by repeat (first | exact Drawn0.refl _ | apply Drawn0.step)⟩
mutual
def kilnlaw3_other.j0 : Nat → List Int → List Int → Int → Bool → Option (Bool)
  | 0, _, _, _, _ => none
  | k + 1, x0, x1, x2, x16 => if x16 = true then (some false) else (kilnlaw3_other.l0 k x0 x1 x2 0)
def kilnlaw3_other.l0 : Nat → List Int → List Int → Int → Int → Option (Bool)
  | 0, _, _, _, _ => none
  | k + 1, x0, x1, x2, x7 => if x7 < 512 then (if 0 ≤ x7 then (if x7 < (x0.length : Int) then (if x7 < (x1.length : Int) then (if x7 = (wrap64 (Int.tdiv x2 8)) then (if 0 ≤ (Int.tmod x2 8) then (if (Go.bits .xor .u8 (rd x0 x7) (rd x1 x7)) = (shl .u8 1 (Int.tmod x2 8)) then (kilnlaw3_other.l0 k x0 x1 x2 (wrap64 (x7 + 1))) else (some false)) else (none)) else (if (Go.bits .xor .u8 (rd x0 x7) (rd x1 x7)) = 0 then (kilnlaw3_other.l0 k x0 x1 x2 (wrap64 (x7 + 1))) else (some false))) else (none)) else (none)) else (none)) else (some true)
end
def kilnlaw3_other.f (k : Nat) (l0 : List Int) (l1 : List Int) (a2 : Int) : Option (Bool) := if (l0.length : Int) = 512 then (kilnlaw3_other.j0 k l0 l1 a2 ((l1.length : Int) != 512)) else (kilnlaw3_other.j0 k l0 l1 a2 true)
theorem kilnlaw3_other.mono_l : ∀ k, (∀ y0 y1 y2 y3, LeO (kilnlaw3_other.j0 k y0 y1 y2 y3) (kilnlaw3_other.j0 (k + 1) y0 y1 y2 y3)) ∧ (∀ y0 y1 y2 y3, LeO (kilnlaw3_other.l0 k y0 y1 y2 y3) (kilnlaw3_other.l0 (k + 1) y0 y1 y2 y3))
  | 0 => ⟨fun _ _ _ _ r h => by simp [kilnlaw3_other.j0] at h, fun _ _ _ _ r h => by simp [kilnlaw3_other.l0] at h⟩
  | k + 1 => by
    obtain ⟨ih0, ih1⟩ := kilnlaw3_other.mono_l k
    refine ⟨?_, ?_⟩
    · intro y0 y1 y2 y3
      unfold kilnlaw3_other.j0
      repeat' first
      | (with_reducible exact ih0 _ _ _ _)
      | (with_reducible exact ih1 _ _ _ _)
      | (with_reducible exact LeO.refl _)
      | (with_reducible exact LeO.none _)
      | (with_reducible refine LeO.ite ?_ ?_)
      | (with_reducible refine LeO.bind ?_ (fun _ => ?_))
      | exact ih0 _ _ _ _
      | exact ih1 _ _ _ _
      | exact LeO.none _
      | refine LeO.ite ?_ ?_
      | refine LeO.bind ?_ (fun _ => ?_)
    · intro y0 y1 y2 y3
      unfold kilnlaw3_other.l0
      repeat' first
      | (with_reducible exact ih0 _ _ _ _)
      | (with_reducible exact ih1 _ _ _ _)
      | (with_reducible exact LeO.refl _)
      | (with_reducible exact LeO.none _)
      | (with_reducible refine LeO.ite ?_ ?_)
      | (with_reducible refine LeO.bind ?_ (fun _ => ?_))
      | exact ih0 _ _ _ _
      | exact ih1 _ _ _ _
      | exact LeO.none _
      | refine LeO.ite ?_ ?_
      | refine LeO.bind ?_ (fun _ => ?_)
theorem kilnlaw3_other.mono : ∀ a0 a1 a2 k, LeO (kilnlaw3_other.f k a0 a1 a2) (kilnlaw3_other.f (k + 1) a0 a1 a2) := by
  intro a0 a1 a2 k
  obtain ⟨ih0, ih1⟩ := kilnlaw3_other.mono_l k
  unfold kilnlaw3_other.f
  repeat' first
      | (with_reducible exact ih0 _ _ _ _)
      | (with_reducible exact ih1 _ _ _ _)
      | (with_reducible exact LeO.refl _)
      | (with_reducible exact LeO.none _)
      | (with_reducible refine LeO.ite ?_ ?_)
      | (with_reducible refine LeO.bind ?_ (fun _ => ?_))
      | exact ih0 _ _ _ _
      | exact ih1 _ _ _ _
      | exact LeO.none _
      | refine LeO.ite ?_ ?_
      | refine LeO.bind ?_ (fun _ => ?_)
set_option maxHeartbeats 8000000 in
set_option maxRecDepth 100000 in
theorem kilnlaw3_other.calls (k : Nat) (A0 : Option Addr) (c0 : Nat) (l0 : List Int) (A1 : Option Addr) (c1 : Nat) (l1 : List Int) (a2 : Int) (r : Bool) (w : World) (hr0 : Kd.C (Kd.int .u8) w A0 l0.length l0) (hc0 : l0.length ≤ c0) (hr1 : Kd.C (Kd.int .u8) w A1 l1.length l1) (hc1 : l1.length ≤ c1) (h : kilnlaw3_other.f k l0 l1 a2 = some r) :
    Calls Try.prog 34 #[.slice A0 l0.length c0, .slice A1 l1.length c1, .int .i64 a2] w fun e w' => e = .returned (.bool r) ∧ Drawn0 w w' := by
  have HR0 := Aside0.mk hr0
  have HC0 := Aside0.mk hc0
  clear hr0 hc0
  have HR1 := Aside0.mk hr1
  have HC1 := Aside0.mk hc1
  clear hr1 hc1
  have H : (if (l0.length : Int) = 512 then (kilnlaw3_other.j0 k l0 l1 a2 ((l1.length : Int) != 512)) else (kilnlaw3_other.j0 k l0 l1 a2 true)) = some r := h
  clear h
  have HC4 := Aside0.mk H
  clear H
  go_enter Try.func34, Try.ntmps34
  go_upto_region 1 with (fail)
  repeat (go_quiet (fail); go_upto_region 1 with (fail))
  go_cut [16] (fun v16 wc => ∃ (kq : Nat) (x16_3 : Bool), v16 = .bool x16_3 ∧ Aside0 (kilnlaw3_other.j0 kq l0 l1 a2 x16_3 = some r) ∧ Aside0 (kq ≤ k) ∧ Drawn0 w wc)
  case first =>
    have H := HC4.out
    clear HC4
    by_cases c5 : (l0.length : Int) = 512
    · rw [if_pos c5] at H
      have c5b0 : ((l0.length : Int) == 512) = true := beq_iff_eq.mpr c5
      have c5b1 : ((l0.length : Int) != 512) = false := bne_eq_false_iff_eq.mpr c5
      clear c5
      (first | rw [c5b0] | (simp only [i64_w, i32_w]; rw [c5b0]) | skip)
      have H' := Aside0.mk H
      clear H
      go_wp2
      repeat (go_quiet (fail); try go_wp2)
      go_meet
      case rel => exact ⟨_, (((l1.length : Int) != 512)), (by first | rfl | (simp; done) | (simp [*]; done)), H', ⟨by first | omega | exact Nat.le_refl _⟩, by repeat (first | exact Drawn0.refl _ | apply Drawn0.step)⟩
    · rw [if_neg c5] at H
      have c5b0 : ((l0.length : Int) == 512) = false := beq_eq_false_iff_ne.mpr c5
      have c5b1 : ((l0.length : Int) != 512) = true := bne_iff_ne.mpr c5
      (first | rw [c5b0] | (simp only [i64_w, i32_w]; rw [c5b0]) | skip)
      have H' := Aside0.mk H
      clear H
      go_wp2
      repeat (go_quiet (fail); try go_wp2)
      go_meet
      case rel => exact ⟨_, (true), (by first | rfl | (simp; done) | (simp [*]; done)), H', ⟨by first | omega | exact Nat.le_refl _⟩, by repeat (first | exact Drawn0.refl _ | apply Drawn0.step)⟩
  case rest =>
    clear HC4
    try clear c1
    try clear p2
    try clear c3
    try clear c5
    try clear c5b0
    try clear c5b1
    obtain ⟨kq, x16_3, rfl, HA, HJ3, ⟨mc3, rfl⟩⟩ := hcut
    cases kq with
    | zero => exact absurd HA.out (by simp [kilnlaw3_other.j0])
    | succ kj3 =>
      have H := HA.out
      clear HA
      simp only [kilnlaw3_other.j0] at H
      by_cases c6 : x16_3 = true
      · subst c6
        have H1 : (some false) = some r := by rw [if_pos rfl] at H; exact H
        clear H
        have H := H1
        clear H1
        obtain rfl := Option.some.inj H
        go_wp2
        repeat (go_quiet (fail); try go_wp2)
        go_ret
        exact ⟨by first | rfl | (simp; done) | (simp [*]; done), by repeat (first | exact Drawn0.refl _ | apply Drawn0.step)⟩
      · replace c6 := Bool.eq_false_iff.mpr c6
        subst c6
        have H1 : (kilnlaw3_other.l0 kj3 l0 l1 a2 0) = some r := by rw [if_neg (show ¬ (false = true) by decide)] at H; exact H
        clear H
        have H := H1
        clear H1
        have H' := Aside0.mk H
        clear H
        go_wp2
        repeat (go_quiet (fail); try go_wp2)
        go_loopg [7] kj3 (fun kq v7 w' => ∃ (x7_2 : Int), v7 = .int .i64 x7_2 ∧ Aside0 (kilnlaw3_other.l0 kq l0 l1 a2 x7_2 = some r) ∧ Aside0 (kq ≤ kj3) ∧ Drawn0 w w')
        case atStart => exact ⟨(0), (by first | rfl | (simp; done) | (simp [*]; done)), H', ⟨Nat.le_refl _⟩, by repeat (first | exact Drawn0.refl _ | apply Drawn0.step)⟩
        case round =>
          clear H'
          try clear c1
          try clear p2
          try clear c3
          try clear c5
          try clear c5b0
          try clear c5b1
          try clear c6
          try clear p2
          obtain ⟨x7_2, rfl, HA, HK2, ⟨m2, rfl⟩⟩ := hrel
          cases gk with
          | zero => exact absurd HA.out (by simp [kilnlaw3_other.l0])
          | succ k2 =>
            have H := HA.out
            clear HA
            simp only [kilnlaw3_other.l0] at H
            by_cases c7 : x7_2 < 512
            · rw [if_pos c7] at H
              have c7b0 : decide (x7_2 < 512) = true := decide_eq_true c7
              clear c7
              by_cases c8 : 0 ≤ x7_2
              · rw [if_pos c8] at H
                have c8b0 : decide (0 ≤ x7_2) = true := decide_eq_true c8
                clear c8
                by_cases c9 : x7_2 < (l0.length : Int)
                · rw [if_pos c9] at H
                  have c9b0 : decide (x7_2 < (l0.length : Int)) = true := decide_eq_true c9
                  clear c9
                  by_cases c10 : x7_2 < (l1.length : Int)
                  · rw [if_pos c10] at H
                    have c10b0 : decide (x7_2 < (l1.length : Int)) = true := decide_eq_true c10
                    clear c10
                    by_cases c11 : x7_2 = (wrap64 (Int.tdiv a2 8))
                    · rw [if_pos c11] at H
                      have c11b0 : (x7_2 == (wrap64 (Int.tdiv a2 8))) = true := beq_iff_eq.mpr c11
                      have c11b1 : (x7_2 != (wrap64 (Int.tdiv a2 8))) = false := bne_eq_false_iff_eq.mpr c11
                      clear c11
                      obtain ⟨ji12, hji12⟩ : ∃ j_ : Int, (Int.tmod a2 8) = j_ := ⟨_, rfl⟩
                      replace H : (if 0 ≤ (ji12) then (if (Go.bits .xor .u8 (rd l0 x7_2) (rd l1 x7_2)) = (shl .u8 1 (ji12)) then (kilnlaw3_other.l0 k2 l0 l1 a2 (wrap64 (x7_2 + 1))) else (some false)) else (none)) = some r := by first | (rw [hji12] at H; exact H) | (simp only [hji12] at H ⊢; exact H)
                      by_cases c13 : 0 ≤ (ji12)
                      · rw [if_pos c13] at H
                        have c13b0 := eq_true c13
                        have c13b1 : decide (0 ≤ (ji12)) = true := decide_eq_true c13
                        clear c13
                        obtain ⟨ji14, hji14⟩ : ∃ j_ : Int, (shl .u8 1 (ji12)) = j_ := ⟨_, rfl⟩
                        replace H : (if (Go.bits .xor .u8 (rd l0 x7_2) (rd l1 x7_2)) = (ji14) then (kilnlaw3_other.l0 k2 l0 l1 a2 (wrap64 (x7_2 + 1))) else (some false)) = some r := by first | (rw [hji14] at H; exact H) | (simp only [hji14] at H ⊢; exact H)
                        have hji14_ : (IntKind.u8.wrap (1 * 2 ^ min (ji12).toNat 8)) = ji14 := hji14
                        have hji14z : (ji12) ≤ 8 → (IntKind.u8.wrap (1 * 2 ^ (ji12).toNat)) = ji14 := shl_small hji14
                        have hji14u : (IntKind.u8.wrap (2 ^ min (ji12).toNat 8)) = ji14 := by have h_ := hji14_; rw [Int.one_mul] at h_; exact h_
                        have hji14v : (ji12) ≤ 8 → (IntKind.u8.wrap (2 ^ (ji12).toNat)) = ji14 := fun hle_ => by have h_ := hji14z hle_; rw [Int.one_mul] at h_; exact h_
                        by_cases c15 : (Go.bits .xor .u8 (rd l0 x7_2) (rd l1 x7_2)) = (ji14)
                        · rw [if_pos c15] at H
                          have c15b0 : ((Go.bits .xor .u8 (rd l0 x7_2) (rd l1 x7_2)) == (ji14)) = true := beq_iff_eq.mpr c15
                          have c15b1 : ((Go.bits .xor .u8 (rd l0 x7_2) (rd l1 x7_2)) != (ji14)) = false := bne_eq_false_iff_eq.mpr c15
                          clear c15
                          have H' := Aside0.mk H
                          clear H
                          have p371 : 0 ≤ (x7_2 : Int) := of_decide_eq_true (by first | (with_reducible assumption) | assumption)
                          have q371 : x7_2 < (l0.length : Int) := of_decide_eq_true (by first | (with_reducible assumption) | assumption)
                          obtain ⟨ad371, e371, hx371_0⟩ := Kd.at_int HR0.out x7_2 p371 q371
                          cases e371
                          replace p371 := eq_true p371
                          replace q371 := eq_true q371
                          have p372 : 0 ≤ (x7_2 : Int) := of_decide_eq_true (by first | (with_reducible assumption) | assumption)
                          have q372 : x7_2 < (l1.length : Int) := of_decide_eq_true (by first | (with_reducible assumption) | assumption)
                          obtain ⟨ad372, e372, hx372_0⟩ := Kd.at_int HR1.out x7_2 p372 q372
                          cases e372
                          replace p372 := eq_true p372
                          replace q372 := eq_true q372
                          go_wp2
                          repeat (go_quiet (fail); try go_wp2)
                          go_roundg k2
                          case measure => have := HJ3.out; have := HK2.out; omega
                          case rel => exact ⟨(wrap64 (x7_2 + 1)), (by first | rfl | (simp; done) | (simp [*]; done)), H', ⟨by have := HJ3.out; have := HK2.out; omega⟩, by repeat (first | exact Drawn0.refl _ | apply Drawn0.step)⟩
                        · rw [if_neg c15] at H
                          have c15b0 : ((Go.bits .xor .u8 (rd l0 x7_2) (rd l1 x7_2)) == (ji14)) = false := beq_eq_false_iff_ne.mpr c15
                          have c15b1 : ((Go.bits .xor .u8 (rd l0 x7_2) (rd l1 x7_2)) != (ji14)) = true := bne_iff_ne.mpr c15
                          obtain rfl := Option.some.inj H
                          have p371 : 0 ≤ (x7_2 : Int) := of_decide_eq_true (by first | (with_reducible assumption) | assumption)
                          have q371 : x7_2 < (l0.length : Int) := of_decide_eq_true (by first | (with_reducible assumption) | assumption)
                          obtain ⟨ad371, e371, hx371_0⟩ := Kd.at_int HR0.out x7_2 p371 q371
                          cases e371
                          replace p371 := eq_true p371
                          replace q371 := eq_true q371
                          have p372 : 0 ≤ (x7_2 : Int) := of_decide_eq_true (by first | (with_reducible assumption) | assumption)
                          have q372 : x7_2 < (l1.length : Int) := of_decide_eq_true (by first | (with_reducible assumption) | assumption)
                          obtain ⟨ad372, e372, hx372_0⟩ := Kd.at_int HR1.out x7_2 p372 q372
                          cases e372
                          replace p372 := eq_true p372
                          replace q372 := eq_true q372
                          go_wp2
                          repeat (go_quiet (fail); try go_wp2)
                          go_ret
                          exact ⟨by first | rfl | (simp; done) | (simp only [← hji12, ← hji14] <;> (first | rfl | simp)) | (simp [*]; done), by repeat (first | exact Drawn0.refl _ | apply Drawn0.step)⟩
                      · rw [if_neg c13] at H
                        exact absurd H (by simp)
                    · rw [if_neg c11] at H
                      have c11b0 : (x7_2 == (wrap64 (Int.tdiv a2 8))) = false := beq_eq_false_iff_ne.mpr c11
                      have c11b1 : (x7_2 != (wrap64 (Int.tdiv a2 8))) = true := bne_iff_ne.mpr c11
                      by_cases c16 : (Go.bits .xor .u8 (rd l0 x7_2) (rd l1 x7_2)) = 0
                      · rw [if_pos c16] at H
                        have c16b0 : ((Go.bits .xor .u8 (rd l0 x7_2) (rd l1 x7_2)) == 0) = true := beq_iff_eq.mpr c16
                        have c16b1 : ((Go.bits .xor .u8 (rd l0 x7_2) (rd l1 x7_2)) != 0) = false := bne_eq_false_iff_eq.mpr c16
                        clear c16
                        have H' := Aside0.mk H
                        clear H
                        have p371 : 0 ≤ (x7_2 : Int) := of_decide_eq_true (by first | (with_reducible assumption) | assumption)
                        have q371 : x7_2 < (l0.length : Int) := of_decide_eq_true (by first | (with_reducible assumption) | assumption)
                        obtain ⟨ad371, e371, hx371_0⟩ := Kd.at_int HR0.out x7_2 p371 q371
                        cases e371
                        replace p371 := eq_true p371
                        replace q371 := eq_true q371
                        have p372 : 0 ≤ (x7_2 : Int) := of_decide_eq_true (by first | (with_reducible assumption) | assumption)
                        have q372 : x7_2 < (l1.length : Int) := of_decide_eq_true (by first | (with_reducible assumption) | assumption)
                        obtain ⟨ad372, e372, hx372_0⟩ := Kd.at_int HR1.out x7_2 p372 q372
                        cases e372
                        replace p372 := eq_true p372
                        replace q372 := eq_true q372
                        go_wp2
                        repeat (go_quiet (fail); try go_wp2)
                        go_roundg k2
                        case measure => have := HJ3.out; have := HK2.out; omega
                        case rel => exact ⟨(wrap64 (x7_2 + 1)), (by first | rfl | (simp; done) | (simp [*]; done)), H', ⟨by have := HJ3.out; have := HK2.out; omega⟩, by repeat (first | exact Drawn0.refl _ | apply Drawn0.step)⟩
                      · rw [if_neg c16] at H
                        have c16b0 : ((Go.bits .xor .u8 (rd l0 x7_2) (rd l1 x7_2)) == 0) = false := beq_eq_false_iff_ne.mpr c16
                        have c16b1 : ((Go.bits .xor .u8 (rd l0 x7_2) (rd l1 x7_2)) != 0) = true := bne_iff_ne.mpr c16
                        obtain rfl := Option.some.inj H
                        have p371 : 0 ≤ (x7_2 : Int) := of_decide_eq_true (by first | (with_reducible assumption) | assumption)
                        have q371 : x7_2 < (l0.length : Int) := of_decide_eq_true (by first | (with_reducible assumption) | assumption)
                        obtain ⟨ad371, e371, hx371_0⟩ := Kd.at_int HR0.out x7_2 p371 q371
                        cases e371
                        replace p371 := eq_true p371
                        replace q371 := eq_true q371
                        have p372 : 0 ≤ (x7_2 : Int) := of_decide_eq_true (by first | (with_reducible assumption) | assumption)
                        have q372 : x7_2 < (l1.length : Int) := of_decide_eq_true (by first | (with_reducible assumption) | assumption)
                        obtain ⟨ad372, e372, hx372_0⟩ := Kd.at_int HR1.out x7_2 p372 q372
                        cases e372
                        replace p372 := eq_true p372
                        replace q372 := eq_true q372
                        go_wp2
                        repeat (go_quiet (fail); try go_wp2)
                        go_ret
                        exact ⟨by first | rfl | (simp; done) | (simp [*]; done), by repeat (first | exact Drawn0.refl _ | apply Drawn0.step)⟩
                  · rw [if_neg c10] at H
                    exact absurd H (by simp)
                · rw [if_neg c9] at H
                  exact absurd H (by simp)
              · rw [if_neg c8] at H
                exact absurd H (by simp)
            · rw [if_neg c7] at H
              have c7b0 : decide (x7_2 < 512) = false := decide_eq_false c7
              clear c7
              obtain rfl := Option.some.inj H
              go_wp2
              repeat (go_quiet (fail); try go_wp2)
              go_ret
              exact ⟨by first | rfl | (simp; done) | (simp [*]; done), by repeat (first | exact Drawn0.refl _ | apply Drawn0.step)⟩
end Go.Proofs.Ytddnhcnkjcdfgaa.R

namespace Go.Proofs.Ytddnhcnkjcdfgaa.M
open Go.RowKit Go.Maps Go.Proofs.YtddnhcnkjcdfgaaW.PrintWords Go.Proofs.YtddnhcnkjcdfgaaW.PrintLast Go.Proofs.YtddnhcnkjcdfgaaW.PrintMore
open Go.Proofs.Ytddnhcnkjcdfgaa.P
set_option linter.unusedVariables false
set_option linter.unusedSimpArgs false
def tZ (n : Nat) (o1 o2 : List S30) : DS := puts (puts (DS.fresh n (List.replicate n zeros)) o1 o1.length).flush o2 o2.length
theorem tZ_n (n : Nat) (o1 o2 : List S30) : (tZ n o1 o2).n = n := by
  unfold tZ
  rw [puts_n]
  show (puts _ o1 o1.length).n = n
  rw [puts_n]
  rfl
theorem tZ_c (n : Nat) (o1 o2 : List S30) : (tZ n o1 o2).c = o2.length := by
  unfold tZ
  rw [puts_c]
  show 0 + _ = _
  omega
def tst (n : Nat) (o1 o2 : List S30) (x k : Nat) : DS := if x < k then tZ n o1 o2 else DS.fresh n (List.replicate n zeros)
def tL (n : Nat) (o1 o2 : List S30) (g0 g1 g2 ba : Nat) (B1 : Option Addr) (d1 : Nat) (B2 : Option Addr) (d2 k : Nat) : List Th :=
  [dkT g0 (tst n o1 o2 0 k), dkT g1 (tst n o1 o2 1 k), dkT g2 (tst n o1 o2 2 k), cellsT ba #[.pointer (some ⟨g0, 0, none⟩), .pointer (some ⟨g1, 0, none⟩), .pointer (some ⟨g2, 0, none⟩)] 23, rowsT k30 30 (.slice B1 o1.length d1) o1, rowsT k30 30 (.slice B2 o2.length d2) o2]
theorem tL_at (w : World) (n : Nat) (o1 o2 : List S30) (g0 g1 g2 ba : Nat) (B1 : Option Addr) (d1 : Nat) (B2 : Option Addr) (d2 k : Nat) (hk : k < 3) :
    ∃ gq R, (#[Value.pointer (some ⟨g0, 0, none⟩), .pointer (some ⟨g1, 0, none⟩), .pointer (some ⟨g2, 0, none⟩)][k]? = some (.pointer (some ⟨gq, 0, none⟩))) ∧
    (∀ W, Sep w W (tL n o1 o2 g0 g1 g2 ba B1 d1 B2 d2 k) → Sep w W (dkT gq (DS.fresh n (List.replicate n zeros)) :: rowsT k30 30 (.slice B1 o1.length d1) o1 :: rowsT k30 30 (.slice B2 o2.length d2) o2 :: cellsT ba #[.pointer (some ⟨g0, 0, none⟩), .pointer (some ⟨g1, 0, none⟩), .pointer (some ⟨g2, 0, none⟩)] 23 :: R)) ∧
    (∀ W, Sep w W (dkT gq (tZ n o1 o2) :: rowsT k30 30 (.slice B1 o1.length d1) o1 :: rowsT k30 30 (.slice B2 o2.length d2) o2 :: cellsT ba #[.pointer (some ⟨g0, 0, none⟩), .pointer (some ⟨g1, 0, none⟩), .pointer (some ⟨g2, 0, none⟩)] 23 :: R) → Sep w W (tL n o1 o2 g0 g1 g2 ba B1 d1 B2 d2 (k + 1))) := by
  rcases k with _ | _ | _ | k
  · exact ⟨g0, [dkT g1 (tst n o1 o2 1 0), dkT g2 (tst n o1 o2 2 0)], rfl, fun W h => h.sel 6 [0, 4, 5, 3, 1, 2] _ rfl (by decide) rfl, fun W h => h.sel 6 [0, 4, 5, 3, 1, 2] _ rfl (by decide) rfl⟩
  · exact ⟨g1, [dkT g0 (tst n o1 o2 0 1), dkT g2 (tst n o1 o2 2 1)], rfl, fun W h => h.sel 6 [1, 4, 5, 3, 0, 2] _ rfl (by decide) rfl, fun W h => h.sel 6 [4, 0, 5, 3, 1, 2] _ rfl (by decide) rfl⟩
  · exact ⟨g2, [dkT g0 (tst n o1 o2 0 2), dkT g1 (tst n o1 o2 1 2)], rfl, fun W h => h.sel 6 [2, 4, 5, 3, 0, 1] _ rfl (by decide) rfl, fun W h => h.sel 6 [4, 5, 0, 3, 1, 2] _ rfl (by decide) rfl⟩
  · omega
theorem blk_cell_at {w : World} {g t : Nat} {cs : Array Value} (h : w.heap[g]? = some (.cells cs t (0, 0))) (j : Nat) (hj : j < cs.size) : w.cell? ⟨g, j, none⟩ = cs[j]? := by
  exact blk_cell h j
def turns13_T : Bool × List (List Nat × List Nat) := (true, [([], []), ([], []), ([0, 1], [0, 1]), ([2], [2]), ([], []), ([], []), ([4, 5], [4, 5]), ([6], [6]), ([7], [7]), ([], []), ([], []), ([9, 10], [9, 10]), ([11], [11]), ([12], [12]), ([3, 8, 13], [3, 8, 13])])
def turns13_B : List Nat := [0, 0, 3, 7, 0, 0, 48, 112, 240, 0, 0, 1536, 3584, 7680, 16383]
theorem turns13_tab : rtab .any (opsOf Try.f10 13) = turns13_T := by kernel_rfl
theorem turns13_bits : waitsOk turns13_T.2 turns13_B = true := by kernel_rfl
def turns18_T : Bool × List (List Nat × List Nat) := (true, [([], []), ([], []), ([0, 1], [0, 1]), ([2], [2]), ([], []), ([], []), ([4, 5], [4, 5]), ([6], [6]), ([7], [7]), ([], []), ([], []), ([9, 10], [9, 10]), ([11], [11]), ([12], [12]), ([3, 8, 13], [3, 8, 13])])
def turns18_B : List Nat := [0, 0, 3, 7, 0, 0, 48, 112, 240, 0, 0, 1536, 3584, 7680, 16383]
theorem turns18_tab : rtab .any (opsOf Try.f10 18) = turns18_T := by kernel_rfl
theorem turns18_bits : waitsOk turns18_T.2 turns18_B = true := by kernel_rfl
def turns31_T : Bool × List (List Nat × List Nat) := (true, [([], []), ([0], [0]), ([1], [1]), ([2], [2]), ([3, 2], [2, 3]), ([2], [2]), ([4, 5, 2], [2, 4, 5]), ([2, 6], [2, 6]), ([7, 2], [7]), ([8], [8]), ([8], [8]), ([8], [8]), ([9, 10, 11, 8, 8], [8, 9, 10, 11]), ([12, 8], [8, 12]), ([8, 13], [8, 13]), ([14, 12], [14]), ([15], [15]), ([16, 15, 15], [15, 16]), ([15], [15]), ([17, 18, 15], [15, 17, 18]), ([15, 19], [15, 19])])
def turns31_B : List Nat := [0, 1, 3, 7, 15, 7, 63, 127, 255, 511, 511, 511, 4095, 8191, 16383, 32767, 65535, 131071, 65535, 524287, 1048575]
theorem turns31_tab : rtab .any (opsOf Try.f10 31) = turns31_T := by kernel_rfl
theorem turns31_bits : waitsOk turns31_T.2 turns31_B = true := by kernel_rfl
def turns35_T : Bool × List (List Nat × List Nat) := (true, [([], []), ([0], [0]), ([1], [1]), ([2], [2]), ([2], [2]), ([2], [2]), ([3, 4, 5, 2, 2], [2, 3, 4, 5]), ([6, 2], [2, 6]), ([2, 7], [2, 7]), ([8, 6], [8]), ([9], [9]), ([10, 9], [9, 10]), ([9], [9]), ([11, 12, 9], [9, 11, 12]), ([9, 13], [9, 13]), ([14, 9], [14]), ([15], [15]), ([15], [15]), ([16, 17, 15], [15, 16, 17]), ([18, 15], [15, 18]), ([15], [15]), ([15], [15]), ([20, 21, 15], [15, 20, 21]), ([22, 15], [15, 22]), ([15], [15]), ([19, 23, 24, 15, 15], [15, 19, 23, 24]), ([25, 15], [15, 25]), ([15, 26], [15, 26])])
def turns35_B : List Nat := [0, 1, 3, 7, 7, 7, 63, 127, 255, 511, 1023, 2047, 1023, 8191, 16383, 32767, 65535, 65535, 262143, 524287, 65535, 65535, 3211263, 7405567, 65535, 33554431, 67108863, 134217727]
theorem turns35_tab : rtab .any (opsOf Try.f10 35) = turns35_T := by kernel_rfl
theorem turns35_bits : waitsOk turns35_T.2 turns35_B = true := by kernel_rfl
def turns40_T : Bool × List (List Nat × List Nat) := (true, [([], []), ([], []), ([0, 1], [0, 1]), ([2], [2]), ([3], [3]), ([3], [3]), ([4, 5, 3], [3, 4, 5]), ([6, 3], [3, 6]), ([7, 3], [3, 7]), ([3], [3]), ([3], [3]), ([9, 10, 3], [3, 9, 10]), ([11, 3], [3, 11]), ([12, 3], [3, 12]), ([8, 13, 3], [3, 8, 13]), ([3, 14], [3, 14])])
def turns40_B : List Nat := [0, 0, 3, 7, 15, 15, 63, 127, 255, 15, 15, 1551, 3599, 7695, 16383, 32767]
theorem turns40_tab : rtab .any (opsOf Try.f10 40) = turns40_T := by kernel_rfl
theorem turns40_bits : waitsOk turns40_T.2 turns40_B = true := by kernel_rfl
set_option maxHeartbeats 8000000 in
set_option maxRecDepth 100000 in
theorem turns_calls (k1 k2 k3 : Nat) (a0 : Int) (A1 : Option Addr) (c1 : Nat) (l1 : List S30) (A2 : Option Addr) (c2 : Nat) (l2 : List S30) (a3 a4 : Int) (A5 : Option Addr) (c5 : Nat) (fs : List Int) (w : World)
    (hr1 : Kd.C k30 w A1 l1.length l1) (hc1 : l1.length ≤ c1) (hr2 : Kd.C k30 w A2 l2.length l2) (hc2 : l2.length ≤ c2) (hr5 : Kd.C (Kd.int .i64) w A5 fs.length fs) (hc5 : fs.length ≤ c5)
    (n : Nat) (o1 o2 : List S30) (h1 : kilnlaw3_made.f k1 a0 l1 = some (0, (n : Int), o1)) (h2 : kilnlaw3_made.f k2 a0 l2 = some (0, (n : Int), o2)) (h3 : kilnlaw3_made.f k3 a0 [] = some (0, (n : Int), [])) (hn2 : 2 ≤ n) (hnm : n ≤ 64) (hl1 : o1.length ≤ 100) (hl2 : o2.length ≤ 100) (hg1 : Good n o1) (hg2 : Good n o2)
    (i bit : Nat) (hi : i < n) (hbit : bit < 4096) (hm3 : kilnlaw3_mod.f a3 (n : Int) = some (i : Int)) (hm4 : kilnlaw3_mod.f a4 4096 = some (bit : Int))
    (ho2 : ∃ k, R.kilnlaw3_other.f k ((tZ n o1 o2).cur i) (((tZ n o1 o2).reads.turn i bit).cur i) (bit : Int) = some true)
    (ho3 : ∃ k, R.kilnlaw3_other.f k ((tZ n o1 o2).L.getD i []) (((tZ n o1 o2).reads.turn i bit).L.getD i []) (bit : Int) = some true)
    (hsm : ∀ j, j < n → j ≠ i → ((tZ n o1 o2).reads.turn i bit).L.getD j [] = (tZ n o1 o2).L.getD j [])
    (hbk : (strOfNums ((((tZ n o1 o2).reads.turn i bit).reads.turn i bit).cur i)).toList = (strOfNums ((tZ n o1 o2).cur i)).toList)
    (hsi : ∃ k, R.kilnref3_SameImage.f k (((tZ n o1 o2).reads.turn i bit).reads.turn i bit).L (tZ n o1 o2).L = some true)
    (ho1 : ∃ k, R.kilnlaw3_other.f k ((((tZ n o1 o2).turn i bit).crash fs).cur i) (((tZ n o1 o2).crash fs).cur i) (bit : Int) = some true) :
    Calls Try.prog 10 #[.int .i64 a0, .slice A1 l1.length c1, .slice A2 l2.length c2, .int .i64 a3, .int .i64 a4, .slice A5 fs.length c5] w fun e w' => e = .returned (.bool true) ∧ Below w.heap.size w w' := by
  have HM1 := Aside0.mk (Sep.made (Sep.refl w) k1 a0 A1 c1 l1 n o1 hn2 hnm hr1 hc1 h1)
  have HM2 := Aside0.mk (fun W (L : List Th) (h : Sep w W L) => Sep.made h k2 a0 A2 c2 l2 n o2 hn2 hnm (Kd.C_below hr2 h.below) hc2 h2)
  have HM3 := Aside0.mk (fun W (L : List Th) (h : Sep w W L) => (show Calls Try.prog 15 #[.int .i64 a0, .slice none 0 0] W _ from Sep.made h k3 a0 none 0 [] n [] hn2 hnm (Kd.C_nil _ _) (Nat.le_refl _) h3))
  have HG1 := Aside0.mk hg1
  have HG2 := Aside0.mk hg2
  have HR5 := Aside0.mk hr5
  have HO1 := Aside0.mk ho1
  have HO2 := Aside0.mk ho2
  have HO3 := Aside0.mk ho3
  have HSM := Aside0.mk hsm
  have HBK := Aside0.mk hbk
  have HSI := Aside0.mk hsi
  clear ho2 ho3 hsm hbk hsi
  have HI := Aside0.mk hi
  have HBIT := Aside0.mk hbit
  have HMa := Aside0.mk (fun W => kilnlaw3_mod.calls a3 (n : Int) (i : Int) W hm3)
  have HMb := Aside0.mk (fun W => kilnlaw3_mod.calls a4 4096 (bit : Int) W hm4)
  have hin0 : (0 : Int) ≤ (i : Int) := by omega
  have hin1 : (i : Int) < (n : Int) := by omega
  clear hr1 hc1 hr2 hc2 hr5 hc5 h1 h2 h3 hg1 hg2 ho1 hi hbit hm3 hm4
  go_enter Try.func10, Try.ntmps10
  go_upto_region 6 with (first
    | (go_at_call 15; (with_reducible refine HM1.out.mono ?_); rintro e w1 ⟨B1, d1, g0, rfl, h⟩; have HS1 := Aside0.mk h; clear h)
    | (go_at_call 15; (with_reducible refine (HM2.out _ _ HS1.out).mono ?_); rintro e w2 ⟨B2, d2, g1, rfl, h⟩; have HS2 := Aside0.mk h; clear h)
    | (go_at_call 15; (with_reducible refine (HM3.out _ _ HS2.out).mono ?_); rintro e w3 ⟨B3, d3, g2, rfl, h⟩; have HS3 := Aside0.mk h; clear h))
  clear HM1 HM2 HM3 HS1 HS2
  go_wp2
  have HS4 := Aside0.mk ((HS3.out.push_alloc #[.pointer (some ⟨g0, 0, none⟩), .pointer (some ⟨g1, 0, none⟩), .pointer (some ⟨g2, 0, none⟩)] 23).sel 7 [5, 3, 1, 0, 6, 4] (tL n o1 o2 g0 g1 g2 w3.heap.size B1 d1 B2 d2 0) rfl (by decide) rfl)
  clear HS3
  generalize w3.alloc (.cells #[.pointer (some ⟨g0, 0, none⟩), .pointer (some ⟨g1, 0, none⟩), .pointer (some ⟨g2, 0, none⟩)] 23) = w4 at HS4 ⊢
  generalize w3.heap.size = ba at HS4 ⊢
  go_loopg [21] 3 (fun kq v21 wr => ∃ k : Nat, v21 = .int .i64 k ∧ Aside0 (k + kq = 3) ∧ Aside0 (Sep w wr (tL n o1 o2 g0 g1 g2 ba B1 d1 B2 d2 k)))
  case atStart => exact ⟨0, rfl, ⟨Nat.zero_add _⟩, HS4⟩
  case round =>
    clear HS4
    obtain ⟨k, rfl, HK, HS⟩ := hrel
    rename World => wo
    have hk4 : k ≤ 3 := by have := HK.out; omega
    by_cases hk : k < 3
    · have hkb : decide ((k : Int) < 3) = true := decide_eq_true (by omega)
      have hk0 : (0 : Int) ≤ (k : Int) := by omega
      have hk1 : (k : Int) < 3 := by omega
      obtain ⟨gq, R, hpk, hin, hout⟩ := tL_at w n o1 o2 g0 g1 g2 ba B1 d1 B2 d2 k hk
      have HPK := Aside0.mk hpk
      have HOUT := Aside0.mk hout
      have HKK := Aside0.mk hk
      have HSi := Aside0.mk (hin wo HS.out)
      clear hpk hin hout hk HS
      go_wp2
      go_loopg [22] o1.length (fun kq v22 wr => ∃ j : Nat, v22 = .int .i64 j ∧ Aside0 (j + kq = o1.length) ∧ Aside0 (Sep w wr (dkT gq (puts (DS.fresh n (List.replicate n zeros)) o1 j) :: rowsT k30 30 (.slice B1 o1.length d1) o1 :: rowsT k30 30 (.slice B2 o2.length d2) o2 :: cellsT ba #[.pointer (some ⟨g0, 0, none⟩), .pointer (some ⟨g1, 0, none⟩), .pointer (some ⟨g2, 0, none⟩)] 23 :: R)))
      case atStart => exact ⟨0, rfl, ⟨Nat.zero_add _⟩, HSi⟩
      case round =>
        clear HSi
        obtain ⟨j, rfl, HJ, HS⟩ := hrel
        by_cases hj : j < o1.length
        · have hjb : decide (j < o1.length) = true := decide_eq_true hj
          have hj0 : (0 : Int) ≤ (j : Int) := by omega
          have hj1 : (j : Int) < (o1.length : Int) := by omega
          obtain ⟨⟨i, hi, hf0⟩, h5⟩ := HG1.out.at_ j hj
          obtain ⟨go, b1, cc, e1, hx0, hx1, hwr⟩ := HS.out.write_row j hj h5 i (by rw [puts_n]; exact hi) hf0 (by rw [puts_c]; show 0 + j < _; omega)
          subst e1
          have HWR := Aside0.mk hwr
          have HRN := Aside0.mk (show (rd_T30 o1 (j : Int)).f0.toNat = i from by rw [hf0]; rfl)
          have hca : wr.cell? ⟨ba, k, none⟩ = some (.pointer (some ⟨gq, 0, none⟩)) := by
            rw [← HPK.out]
            exact blk_cell_at HS.out.up3.cells.1 k (by simp; have := HKK.out; omega)
          have HJ1 := Aside0.mk hj
          clear hj hi hf0 h5 hwr
          go_upto_region 13 with (fail)
          have HB := Aside0.mk (below_drew1 (Below.refl wr.heap.size wr))
          refine start_ (n := 15) (S := fun W => W.cell? ⟨ba, k, none⟩ = some (.pointer (some ⟨gq, 0, none⟩)) ∧ W.cell? ⟨go, j * 2, none⟩ = some (.int .i64 (i : Int)) ∧ W.cell? ⟨go, j * 2 + 1, none⟩ = some (.slice (some ⟨b1, 0, none⟩) 512 cc)) (ds := [14]) (bb 15 0) (by kernel_rfl) rfl rfl (⟨hca, hx0, hx1⟩) (fun hHeld => ?_); refine with_tabW turns13_tab turns13_bits (fun HT_ HW_ => ?_)
          generalize wr.drew = wd at hHeld HB ⊢
          refine pure_ (i := 0) (N := (some 80)) (v := ?_) (a' := ?_) (bb 15 1) rfl rfl (any_of HT_.out (by kernel_rfl)) (fun _ _ _ h => h) (Or.inl ⟨by rfl, ?_⟩) ?_ ?_
          rotate_left
          · intro w'
            go_simp
            with_reducible rfl
          rotate_left
          · simp only [Act.put, List.setIfInBounds_toArray, List.set_cons_zero, List.set_cons_succ, i64_w, i32_w]
            rfl
          refine pure_ (i := 1) (N := (some 81)) (v := ?_) (a' := ?_) (bb 15 3) rfl rfl (any_of HT_.out (by kernel_rfl)) (fun _ _ _ h => h) (Or.inl ⟨by rfl, ?_⟩) ?_ ?_
          rotate_left
          · intro w'
            go_simp
            with_reducible rfl
          rotate_left
          · simp only [Act.put, List.setIfInBounds_toArray, List.set_cons_zero, List.set_cons_succ, i64_w, i32_w]
            rfl
          refine pure_ (i := 2) (N := (some 82)) (v := ?_) (a' := ?_) (bb 15 7) rfl rfl (any_of HT_.out (by kernel_rfl)) (fun _ _ _ h => h) (Or.inl ⟨by rfl, ?_⟩) ?_ ?_
          rotate_left
          · intro w'
            go_simp
            with_reducible rfl
          rotate_left
          · simp only [Act.put, List.setIfInBounds_toArray, List.set_cons_zero, List.set_cons_succ, i64_w, i32_w]
            rfl
          refine take_ (i := 3) (N := (some 83)) (v := ?_) (a' := ?_) (bb 15 15) rfl rfl (take_ofW HT_.out HW_.out (by kernel_rfl)) (fun _ _ _ h => h) (Or.inl ⟨by rfl, ?_⟩) hHeld ?_ ?_
          rotate_left
          · intro w' s0
            (try dsimp only at s0)
            go_simp
            with_reducible rfl
          rotate_left
          · simp only [Act.put, List.setIfInBounds_toArray, List.set_cons_zero, List.set_cons_succ, i64_w, i32_w]
            rfl
          refine pure_ (i := 4) (N := (some 84)) (v := ?_) (a' := ?_) (bb 15 31) rfl rfl (any_of HT_.out (by kernel_rfl)) (fun _ _ _ h => h) (Or.inl ⟨by rfl, ?_⟩) ?_ ?_
          rotate_left
          · intro w'
            go_simp
            with_reducible rfl
          rotate_left
          · simp only [Act.put, List.setIfInBounds_toArray, List.set_cons_zero, List.set_cons_succ, i64_w, i32_w]
            rfl
          refine pure_ (i := 5) (N := (some 85)) (v := ?_) (a' := ?_) (bb 15 63) rfl rfl (any_of HT_.out (by kernel_rfl)) (fun _ _ _ h => h) (Or.inl ⟨by rfl, ?_⟩) ?_ ?_
          rotate_left
          · intro w'
            go_simp
            with_reducible rfl
          rotate_left
          · simp only [Act.put, List.setIfInBounds_toArray, List.set_cons_zero, List.set_cons_succ, i64_w, i32_w]
            rfl
          refine pure_ (i := 6) (N := (some 86)) (v := ?_) (a' := ?_) (bb 15 127) rfl rfl (any_of HT_.out (by kernel_rfl)) (fun _ _ _ h => h) (Or.inl ⟨by rfl, ?_⟩) ?_ ?_
          rotate_left
          · intro w'
            go_simp
            with_reducible rfl
          rotate_left
          · simp only [Act.put, List.setIfInBounds_toArray, List.set_cons_zero, List.set_cons_succ, i64_w, i32_w]
            rfl
          refine pure_ (i := 7) (N := (some 87)) (v := ?_) (a' := ?_) (bb 15 255) rfl rfl (any_of HT_.out (by kernel_rfl)) (fun _ _ _ h => h) (Or.inl ⟨by rfl, ?_⟩) ?_ ?_
          rotate_left
          · intro w'
            go_simp
            with_reducible rfl
          rotate_left
          · simp only [Act.put, List.setIfInBounds_toArray, List.set_cons_zero, List.set_cons_succ, i64_w, i32_w]
            rfl
          refine take_ (i := 8) (N := (some 88)) (v := ?_) (a' := ?_) (bb 15 511) rfl rfl (take_ofW HT_.out HW_.out (by kernel_rfl)) (fun _ _ _ h => h) (Or.inl ⟨by rfl, ?_⟩) hHeld ?_ ?_
          rotate_left
          · intro w' s0
            (try dsimp only at s0)
            go_simp
            with_reducible rfl
          rotate_left
          · simp only [Act.put, List.setIfInBounds_toArray, List.set_cons_zero, List.set_cons_succ, i64_w, i32_w]
            rfl
          refine pure_ (i := 9) (N := (some 89)) (v := ?_) (a' := ?_) (bb 15 1023) rfl rfl (any_of HT_.out (by kernel_rfl)) (fun _ _ _ h => h) (Or.inl ⟨by rfl, ?_⟩) ?_ ?_
          rotate_left
          · intro w'
            go_simp
            with_reducible rfl
          rotate_left
          · simp only [Act.put, List.setIfInBounds_toArray, List.set_cons_zero, List.set_cons_succ, i64_w, i32_w]
            rfl
          refine pure_ (i := 10) (N := (some 90)) (v := ?_) (a' := ?_) (bb 15 2047) rfl rfl (any_of HT_.out (by kernel_rfl)) (fun _ _ _ h => h) (Or.inl ⟨by rfl, ?_⟩) ?_ ?_
          rotate_left
          · intro w'
            go_simp
            with_reducible rfl
          rotate_left
          · simp only [Act.put, List.setIfInBounds_toArray, List.set_cons_zero, List.set_cons_succ, i64_w, i32_w]
            rfl
          refine pure_ (i := 11) (N := (some 91)) (v := ?_) (a' := ?_) (bb 15 4095) rfl rfl (any_of HT_.out (by kernel_rfl)) (fun _ _ _ h => h) (Or.inl ⟨by rfl, ?_⟩) ?_ ?_
          rotate_left
          · intro w'
            go_simp
            with_reducible rfl
          rotate_left
          · simp only [Act.put, List.setIfInBounds_toArray, List.set_cons_zero, List.set_cons_succ, i64_w, i32_w]
            rfl
          refine pure_ (i := 12) (N := (some 92)) (v := ?_) (a' := ?_) (bb 15 8191) rfl rfl (any_of HT_.out (by kernel_rfl)) (fun _ _ _ h => h) (Or.inl ⟨by rfl, ?_⟩) ?_ ?_
          rotate_left
          · intro w'
            go_simp
            with_reducible rfl
          rotate_left
          · simp only [Act.put, List.setIfInBounds_toArray, List.set_cons_zero, List.set_cons_succ, i64_w, i32_w]
            rfl
          refine take_ (i := 13) (N := (some 93)) (v := ?_) (a' := ?_) (bb 15 16383) rfl rfl (take_ofW HT_.out HW_.out (by kernel_rfl)) (fun _ _ _ h => h) (Or.inl ⟨by rfl, ?_⟩) hHeld ?_ ?_
          rotate_left
          · intro w' s0
            (try dsimp only at s0)
            go_simp
            with_reducible rfl
          rotate_left
          · simp only [Act.put, List.setIfInBounds_toArray, List.set_cons_zero, List.set_cons_succ, i64_w, i32_w]
            rfl
          refine last_ (i := 14) (N := (some 94)) (bb 15 32767) rfl rfl (one_of HT_.out (by kernel_rfl)) (by decide) (fun K hK => ?_)
          refine goes_ Try.func16 (by kernel_rfl) rfl #[.pointer (some ⟨gq, 0, none⟩), .int .i64 (i : Int), .slice (some ⟨b1, 0, none⟩) 512 cc] (by rfl) rfl rfl (by (try simp only [List.map_toArray, List.map_cons, List.map_nil]); first | done | rfl) ?_
          with_reducible refine (HWR.out _ HB.out).mono ?_
          rintro e w5 ⟨rfl, h⟩
          have HS5 := Aside0.mk h
          clear h
          refine ⟨_, rfl, ?_⟩
          refine hK.out _ _ ?_
          clear hK K
          refine norm_ (a' := ?_) ?_ ?_
          rotate_left
          · show Act.put _ (some 94) _ = _
            simp only [Act.put, List.setIfInBounds_toArray, List.set_cons_zero, List.set_cons_succ, i64_w, i32_w]
            rfl
          refine done_ (done_of HT_.out (by kernel_rfl)) ?_
          have HSn := Aside0.mk (show Sep w w5 (dkT gq (puts (DS.fresh n (List.replicate n zeros)) o1 (j + 1)) :: _) from by
            unfold puts
            rw [HRN.out]
            exact HS5.out)
          clear hHeld HB HWR hca hx0 hx1 HS5
          go_wp2
          go_roundg (o1.length - j - 1)
          case measure => have := HJ.out; have := HJ1.out; omega
          case rel => exact ⟨j + 1, (by have hi_ := HJ1.out; have hl_ := hl1; first | rfl | (simp; done)), ⟨by have := HJ.out; have := HJ1.out; omega⟩, HSn⟩
        · have hjb : decide (j < o1.length) = false := decide_eq_false hj
          obtain rfl : j = o1.length := by have := HJ.out; omega
          clear hj
          have hca : wr.cell? ⟨ba, k, none⟩ = some (.pointer (some ⟨gq, 0, none⟩)) := by
            rw [← HPK.out]
            exact blk_cell_at HS.out.up3.cells.1 k (by simp; have := HKK.out; omega)
          have HFL := Aside0.mk HS.out.sw12.flush
          clear HS
          go_wp2_with (go_at_call 17; (with_reducible refine HFL.out.mono ?_); rintro e w6 ⟨⟨v6, rfl⟩, h⟩; have HS6 := Aside0.mk h; clear h)
          clear HFL hca
          obtain ⟨s1, hs1⟩ : ∃ x, x = (puts (DS.fresh n (List.replicate n zeros)) o1 o1.length).flush := ⟨_, rfl⟩
          rw [← hs1] at HS6
          have HS1 := Aside0.mk hs1
          have hs1n : s1.n = n := by rw [hs1]; show (puts _ o1 o1.length).n = n; rw [puts_n]; rfl
          have hs1c : s1.c = 0 := by rw [hs1]; rfl
          have HN1 := Aside0.mk (And.intro hs1n hs1c)
          clear hs1 hs1n hs1c
          go_loopg [23] o2.length (fun kq v23 wr => ∃ j : Nat, v23 = .int .i64 j ∧ Aside0 (j + kq = o2.length) ∧ Aside0 (Sep w wr (dkT gq (puts s1 o2 j) :: rowsT k30 30 (.slice B2 o2.length d2) o2 :: rowsT k30 30 (.slice B1 o1.length d1) o1 :: cellsT ba #[.pointer (some ⟨g0, 0, none⟩), .pointer (some ⟨g1, 0, none⟩), .pointer (some ⟨g2, 0, none⟩)] 23 :: R)))
          case atStart => exact ⟨0, rfl, ⟨Nat.zero_add _⟩, HS6⟩
          case round =>
            clear HS6
            obtain ⟨j, rfl, HJ2, HS⟩ := hrel
            rename World => wr
            by_cases hj : j < o2.length
            · have hjb : decide (j < o2.length) = true := decide_eq_true hj
              have hj0 : (0 : Int) ≤ (j : Int) := by omega
              have hj1 : (j : Int) < (o2.length : Int) := by omega
              obtain ⟨⟨i, hi, hf0⟩, h5⟩ := HG2.out.at_ j hj
              obtain ⟨go, b1, cc, e1, hx0, hx1, hwr⟩ := HS.out.write_row j hj h5 i (by rw [puts_n, HN1.out.1]; exact hi) hf0 (by rw [puts_c, HN1.out.2]; omega)
              subst e1
              have HWR := Aside0.mk hwr
              have HRN := Aside0.mk (show (rd_T30 o2 (j : Int)).f0.toNat = i from by rw [hf0]; rfl)
              have hca : wr.cell? ⟨ba, k, none⟩ = some (.pointer (some ⟨gq, 0, none⟩)) := by
                rw [← HPK.out]
                exact blk_cell_at HS.out.up3.cells.1 k (by simp; have := HKK.out; omega)
              have HJ1 := Aside0.mk hj
              clear hj hi hf0 h5 hwr
              go_upto_region 18 with (fail)
              have HB := Aside0.mk (below_drew1 (Below.refl wr.heap.size wr))
              refine start_ (n := 15) (S := fun W => W.cell? ⟨ba, k, none⟩ = some (.pointer (some ⟨gq, 0, none⟩)) ∧ W.cell? ⟨go, j * 2, none⟩ = some (.int .i64 (i : Int)) ∧ W.cell? ⟨go, j * 2 + 1, none⟩ = some (.slice (some ⟨b1, 0, none⟩) 512 cc)) (ds := [14]) (bb 15 0) (by kernel_rfl) rfl rfl (⟨hca, hx0, hx1⟩) (fun hHeld => ?_); refine with_tabW turns18_tab turns18_bits (fun HT_ HW_ => ?_)
              generalize wr.drew = wd at hHeld HB ⊢
              refine pure_ (i := 0) (N := (some 106)) (v := ?_) (a' := ?_) (bb 15 1) rfl rfl (any_of HT_.out (by kernel_rfl)) (fun _ _ _ h => h) (Or.inl ⟨by rfl, ?_⟩) ?_ ?_
              rotate_left
              · intro w'
                go_simp
                with_reducible rfl
              rotate_left
              · simp only [Act.put, List.setIfInBounds_toArray, List.set_cons_zero, List.set_cons_succ, i64_w, i32_w]
                rfl
              refine pure_ (i := 1) (N := (some 107)) (v := ?_) (a' := ?_) (bb 15 3) rfl rfl (any_of HT_.out (by kernel_rfl)) (fun _ _ _ h => h) (Or.inl ⟨by rfl, ?_⟩) ?_ ?_
              rotate_left
              · intro w'
                go_simp
                with_reducible rfl
              rotate_left
              · simp only [Act.put, List.setIfInBounds_toArray, List.set_cons_zero, List.set_cons_succ, i64_w, i32_w]
                rfl
              refine pure_ (i := 2) (N := (some 108)) (v := ?_) (a' := ?_) (bb 15 7) rfl rfl (any_of HT_.out (by kernel_rfl)) (fun _ _ _ h => h) (Or.inl ⟨by rfl, ?_⟩) ?_ ?_
              rotate_left
              · intro w'
                go_simp
                with_reducible rfl
              rotate_left
              · simp only [Act.put, List.setIfInBounds_toArray, List.set_cons_zero, List.set_cons_succ, i64_w, i32_w]
                rfl
              refine take_ (i := 3) (N := (some 109)) (v := ?_) (a' := ?_) (bb 15 15) rfl rfl (take_ofW HT_.out HW_.out (by kernel_rfl)) (fun _ _ _ h => h) (Or.inl ⟨by rfl, ?_⟩) hHeld ?_ ?_
              rotate_left
              · intro w' s0
                (try dsimp only at s0)
                go_simp
                with_reducible rfl
              rotate_left
              · simp only [Act.put, List.setIfInBounds_toArray, List.set_cons_zero, List.set_cons_succ, i64_w, i32_w]
                rfl
              refine pure_ (i := 4) (N := (some 110)) (v := ?_) (a' := ?_) (bb 15 31) rfl rfl (any_of HT_.out (by kernel_rfl)) (fun _ _ _ h => h) (Or.inl ⟨by rfl, ?_⟩) ?_ ?_
              rotate_left
              · intro w'
                go_simp
                with_reducible rfl
              rotate_left
              · simp only [Act.put, List.setIfInBounds_toArray, List.set_cons_zero, List.set_cons_succ, i64_w, i32_w]
                rfl
              refine pure_ (i := 5) (N := (some 111)) (v := ?_) (a' := ?_) (bb 15 63) rfl rfl (any_of HT_.out (by kernel_rfl)) (fun _ _ _ h => h) (Or.inl ⟨by rfl, ?_⟩) ?_ ?_
              rotate_left
              · intro w'
                go_simp
                with_reducible rfl
              rotate_left
              · simp only [Act.put, List.setIfInBounds_toArray, List.set_cons_zero, List.set_cons_succ, i64_w, i32_w]
                rfl
              refine pure_ (i := 6) (N := (some 112)) (v := ?_) (a' := ?_) (bb 15 127) rfl rfl (any_of HT_.out (by kernel_rfl)) (fun _ _ _ h => h) (Or.inl ⟨by rfl, ?_⟩) ?_ ?_
              rotate_left
              · intro w'
                go_simp
                with_reducible rfl
              rotate_left
              · simp only [Act.put, List.setIfInBounds_toArray, List.set_cons_zero, List.set_cons_succ, i64_w, i32_w]
                rfl
              refine pure_ (i := 7) (N := (some 113)) (v := ?_) (a' := ?_) (bb 15 255) rfl rfl (any_of HT_.out (by kernel_rfl)) (fun _ _ _ h => h) (Or.inl ⟨by rfl, ?_⟩) ?_ ?_
              rotate_left
              · intro w'
                go_simp
                with_reducible rfl
              rotate_left
              · simp only [Act.put, List.setIfInBounds_toArray, List.set_cons_zero, List.set_cons_succ, i64_w, i32_w]
                rfl
              refine take_ (i := 8) (N := (some 114)) (v := ?_) (a' := ?_) (bb 15 511) rfl rfl (take_ofW HT_.out HW_.out (by kernel_rfl)) (fun _ _ _ h => h) (Or.inl ⟨by rfl, ?_⟩) hHeld ?_ ?_
              rotate_left
              · intro w' s0
                (try dsimp only at s0)
                go_simp
                with_reducible rfl
              rotate_left
              · simp only [Act.put, List.setIfInBounds_toArray, List.set_cons_zero, List.set_cons_succ, i64_w, i32_w]
                rfl
              refine pure_ (i := 9) (N := (some 115)) (v := ?_) (a' := ?_) (bb 15 1023) rfl rfl (any_of HT_.out (by kernel_rfl)) (fun _ _ _ h => h) (Or.inl ⟨by rfl, ?_⟩) ?_ ?_
              rotate_left
              · intro w'
                go_simp
                with_reducible rfl
              rotate_left
              · simp only [Act.put, List.setIfInBounds_toArray, List.set_cons_zero, List.set_cons_succ, i64_w, i32_w]
                rfl
              refine pure_ (i := 10) (N := (some 116)) (v := ?_) (a' := ?_) (bb 15 2047) rfl rfl (any_of HT_.out (by kernel_rfl)) (fun _ _ _ h => h) (Or.inl ⟨by rfl, ?_⟩) ?_ ?_
              rotate_left
              · intro w'
                go_simp
                with_reducible rfl
              rotate_left
              · simp only [Act.put, List.setIfInBounds_toArray, List.set_cons_zero, List.set_cons_succ, i64_w, i32_w]
                rfl
              refine pure_ (i := 11) (N := (some 117)) (v := ?_) (a' := ?_) (bb 15 4095) rfl rfl (any_of HT_.out (by kernel_rfl)) (fun _ _ _ h => h) (Or.inl ⟨by rfl, ?_⟩) ?_ ?_
              rotate_left
              · intro w'
                go_simp
                with_reducible rfl
              rotate_left
              · simp only [Act.put, List.setIfInBounds_toArray, List.set_cons_zero, List.set_cons_succ, i64_w, i32_w]
                rfl
              refine pure_ (i := 12) (N := (some 118)) (v := ?_) (a' := ?_) (bb 15 8191) rfl rfl (any_of HT_.out (by kernel_rfl)) (fun _ _ _ h => h) (Or.inl ⟨by rfl, ?_⟩) ?_ ?_
              rotate_left
              · intro w'
                go_simp
                with_reducible rfl
              rotate_left
              · simp only [Act.put, List.setIfInBounds_toArray, List.set_cons_zero, List.set_cons_succ, i64_w, i32_w]
                rfl
              refine take_ (i := 13) (N := (some 119)) (v := ?_) (a' := ?_) (bb 15 16383) rfl rfl (take_ofW HT_.out HW_.out (by kernel_rfl)) (fun _ _ _ h => h) (Or.inl ⟨by rfl, ?_⟩) hHeld ?_ ?_
              rotate_left
              · intro w' s0
                (try dsimp only at s0)
                go_simp
                with_reducible rfl
              rotate_left
              · simp only [Act.put, List.setIfInBounds_toArray, List.set_cons_zero, List.set_cons_succ, i64_w, i32_w]
                rfl
              refine last_ (i := 14) (N := (some 120)) (bb 15 32767) rfl rfl (one_of HT_.out (by kernel_rfl)) (by decide) (fun K hK => ?_)
              refine goes_ Try.func16 (by kernel_rfl) rfl #[.pointer (some ⟨gq, 0, none⟩), .int .i64 (i : Int), .slice (some ⟨b1, 0, none⟩) 512 cc] (by rfl) rfl rfl (by (try simp only [List.map_toArray, List.map_cons, List.map_nil]); first | done | rfl) ?_
              with_reducible refine (HWR.out _ HB.out).mono ?_
              rintro e w5 ⟨rfl, h⟩
              have HS5 := Aside0.mk h
              clear h
              refine ⟨_, rfl, ?_⟩
              refine hK.out _ _ ?_
              clear hK K
              refine norm_ (a' := ?_) ?_ ?_
              rotate_left
              · show Act.put _ (some 120) _ = _
                simp only [Act.put, List.setIfInBounds_toArray, List.set_cons_zero, List.set_cons_succ, i64_w, i32_w]
                rfl
              refine done_ (done_of HT_.out (by kernel_rfl)) ?_
              have HSn := Aside0.mk (show Sep w w5 (dkT gq (puts s1 o2 (j + 1)) :: _) from by
                unfold puts
                rw [HRN.out]
                exact HS5.out)
              clear hHeld HB HWR hca hx0 hx1 HS5
              go_wp2
              go_roundg (o2.length - j - 1)
              case measure => have := HJ2.out; have := HJ1.out; omega
              case rel => exact ⟨j + 1, (by have hi_ := HJ1.out; have hl_ := hl2; first | rfl | (simp; done)), ⟨by have := HJ2.out; have := HJ1.out; omega⟩, HSn⟩
            · have hjb : decide (j < o2.length) = false := decide_eq_false hj
              obtain rfl : j = o2.length := by have := HJ2.out; omega
              clear hj
              have HSo := Aside0.mk (HOUT.out _ (show Sep w _ (dkT gq (tZ n o1 o2) :: _) from by
                unfold tZ
                rw [← HS1.out]
                exact HS.out.sw12))
              go_wp2
              go_roundg (3 - k - 1)
              case measure => have := HK.out; have := HKK.out; omega
              case rel => exact ⟨k + 1, (by have hi_ := HKK.out; first | rfl | (simp; done)), ⟨by have := HK.out; have := HKK.out; omega⟩, HSo⟩
    · have hkb : decide ((k : Int) < 3) = false := decide_eq_false (by omega)
      obtain rfl : k = 3 := by omega
      clear hk
      have HS7 := Aside0.mk (show Sep w wo [dkT g0 (tZ n o1 o2), dkT g1 (tZ n o1 o2), dkT g2 (tZ n o1 o2)] from HS.out.sel 6 [0, 1, 2] _ rfl (by decide) rfl)
      clear HS
      have HZn := Aside0.mk (tZ_n n o1 o2)
      have HZc := Aside0.mk (show (tZ n o1 o2).c < 1073741824 from by rw [tZ_c]; omega)
      generalize tZ n o1 o2 = Z at *
      have HT1 := Aside0.mk (fun W (h : Sep w W [dkT g0 Z, dkT g1 Z, dkT g2 Z]) => Sep.turn h.up1 i bit (by rw [HZn.out]; exact HI.out) HBIT.out)
      have HC1 := Aside0.mk (fun W (h : Sep w W [dkT g1 (Z.turn i bit), dkT g0 Z, dkT g2 Z]) => Sep.crash_arg h (show (Z.turn i bit).c < 1073741824 from HZc.out) A5 c5 fs HR5.out)
      have HC2 := Aside0.mk (fun W (h : Sep w W [dkT g1 ((Z.turn i bit).crash fs), dkT g0 Z, dkT g2 Z]) => Sep.crash_arg h.up2 HZc.out A5 c5 fs HR5.out)
      have HR1 := Aside0.mk (fun W (h : Sep w W [dkT g2 (Z.crash fs), dkT g1 ((Z.turn i bit).crash fs), dkT g0 Z]) => Sep.read h.up1 i (show i < Z.n from by rw [HZn.out]; exact HI.out))
      have HR2 := Aside0.mk (fun W v (h : Sep w W [ownT (Kd.int .u8) 5 v (((Z.turn i bit).crash fs).cur i), dkT g1 ((Z.turn i bit).crash fs).reads, dkT g2 (Z.crash fs), dkT g0 Z]) => Sep.read h.up2 i (show i < Z.n from by rw [HZn.out]; exact HI.out))
      go_upto_region 24 with (first
        | (go_at_call 20; (with_reducible refine (HMa.out _).mono ?_); rintro e w1 ⟨rfl, nd3, rfl⟩)
        | (go_at_call 20; (with_reducible refine (HMb.out _).mono ?_); rintro e w1 ⟨rfl, nd4, rfl⟩)
        | (go_at_call 33; (with_reducible refine (HT1.out _ (HS7.out.step (by repeat (first | exact Below.refl _ _ | apply below_drew1 | apply pw_below_drewN | apply below_alloc)))).mono ?_); rintro e w8 ⟨rfl, h⟩; have HS8 := Aside0.mk h; clear h)
        | (go_at_call 30; (with_reducible refine (HC1.out _ (HS8.out.step (by repeat (first | exact Below.refl _ _ | apply below_drew1 | apply pw_below_drewN | apply below_alloc)))).mono ?_); rintro e w9 ⟨⟨v9, rfl⟩, h⟩; have HS9 := Aside0.mk h; clear h)
        | (go_at_call 30; (with_reducible refine (HC2.out _ (HS9.out.step (by repeat (first | exact Below.refl _ _ | apply below_drew1 | apply pw_below_drewN | apply below_alloc)))).mono ?_); rintro e w10 ⟨⟨v10, rfl⟩, h⟩; have HS10 := Aside0.mk h; clear h)
        | (go_at_call 25; (with_reducible refine (HR1.out _ (HS10.out.step (by repeat (first | exact Below.refl _ _ | apply below_drew1 | apply pw_below_drewN | apply below_alloc)))).mono ?_); rintro e w11 ⟨v11, rfl, h⟩; obtain ⟨A11, c11, e11⟩ := h.own_slice; subst e11; have HS11 := Aside0.mk h; clear h)
        | (go_at_call 25; (with_reducible refine (HR2.out _ _ (HS11.out.step (by repeat (first | exact Below.refl _ _ | apply below_drew1 | apply pw_below_drewN | apply below_alloc)))).mono ?_); rintro e w12 ⟨v12, rfl, h⟩; obtain ⟨A12, c12, e12⟩ := h.own_slice; subst e12; have HS12 := Aside0.mk h; clear h))
      clear HT1 HC1 HC2 HR1 HR2 HS7 HS8 HS9 HS10 HS11
      obtain ⟨ko1, hko1⟩ := HO1.out
      have HOT := Aside0.mk (fun W (hW : Below w12.heap.size w12 W) => (show Calls Try.prog 34 _ W _ from R.kilnlaw3_other.calls ko1 A11 c11 _ A12 c12 _ (bit : Int) true W (HS12.out.step hW).up2.own_C.1 (HS12.out.step hW).up2.own_C.2 (HS12.out.step hW).own_C.1 (HS12.out.step hW).own_C.2 hko1))
      clear hko1
      have HS13 := Aside0.mk (show Sep w w12 [dkT g0 Z] from HS12.out.sel 5 [4] _ rfl (by decide) rfl)
      have HIM := Aside0.mk (fun W (h : Sep w W [dkT g0 Z]) => (show Calls Try.prog 26 #[.pointer (some ⟨g0, 0, none⟩)] W (fun e w' => ∃ go c, e = .returned (.slice (some ⟨go, 0, none⟩) n c) ∧ Sep w w' [rowsT KB 28 (.slice (some ⟨go, 0, none⟩) n c) Z.L, dkT g0 Z]) from by
        have h_ := Sep.image h
        rw [HZn.out] at h_
        exact h_))
      have HRd := Aside0.mk (fun W v (h : Sep w W [rowsT KB 28 v Z.L, dkT g0 Z]) => Sep.read h.up1 i (show i < Z.n from by rw [HZn.out]; exact HI.out))
      obtain ⟨r1, hr1⟩ : ∃ x, x = Z.reads.r := ⟨_, rfl⟩
      obtain ⟨q1, hq1⟩ : ∃ x, x = Z.wr := ⟨_, rfl⟩
      obtain ⟨f1, hf1⟩ : ∃ x, x = Z.fl := ⟨_, rfl⟩
      have HAc := Aside0.mk (fun W v v2 (h : Sep w W [ownT (Kd.int .u8) 5 v (Z.cur i), dkT g0 Z.reads, rowsT KB 28 v2 Z.L]) => (show Calls Try.prog 35 #[.pointer (some ⟨g0, 0, none⟩)] W (fun e w' => e = .returned (.agg #[.int .i64 r1, .int .i64 q1, .int .i64 f1]) ∧ Sep w w' [dkT g0 Z.reads, ownT (Kd.int .u8) 5 v (Z.cur i), rowsT KB 28 v2 Z.L]) from by rw [hr1, hq1, hf1]; exact Sep.acts h.up1))
      have HTu := Aside0.mk (fun W v v2 t (h : Sep w W (dkT g0 Z.reads :: t :: [ownT (Kd.int .u8) 5 v (Z.cur i), rowsT KB 28 v2 Z.L])) => Sep.turn h i bit (show i < Z.n from by rw [HZn.out]; exact HI.out) HBIT.out)
      have HAd := Aside0.mk (fun W v v2 t (h : Sep w W (dkT g0 (Z.reads.turn i bit) :: t :: [ownT (Kd.int .u8) 5 v (Z.cur i), rowsT KB 28 v2 Z.L])) => (show Calls Try.prog 35 #[.pointer (some ⟨g0, 0, none⟩)] W (fun e w' => e = .returned (.agg #[.int .i64 r1, .int .i64 q1, .int .i64 f1]) ∧ Sep w w' (dkT g0 (Z.reads.turn i bit) :: t :: [ownT (Kd.int .u8) 5 v (Z.cur i), rowsT KB 28 v2 Z.L])) from by rw [hr1, hq1, hf1]; exact Sep.acts h))
      clear hr1 hq1 hf1
      go_upto_region 31 with (first
        | (go_at_call 20; (with_reducible refine (HMa.out _).mono ?_); rintro e w1 ⟨rfl, nd3, rfl⟩)
        | (go_at_call 20; (with_reducible refine (HMb.out _).mono ?_); rintro e w1 ⟨rfl, nd4, rfl⟩)
        | (go_at_call 34; (with_reducible refine (HOT.out _ (by repeat (first | exact Below.refl _ _ | apply below_drew1 | apply pw_below_drewN | apply below_alloc))).mono ?_); rintro e w1 ⟨rfl, nd5, rfl⟩)
        | (go_at_call 26; (with_reducible refine (HIM.out _ (HS13.out.step (by repeat (first | exact Below.refl _ _ | apply below_drew1 | apply pw_below_drewN | apply below_alloc)))).mono ?_); rintro e w14 ⟨bw, cw, rfl, h⟩; have HS14 := Aside0.mk h; clear h)
        | (go_at_call 25; (with_reducible refine (HRd.out _ _ (HS14.out.step (by repeat (first | exact Below.refl _ _ | apply below_drew1 | apply pw_below_drewN | apply below_alloc)))).mono ?_); rintro e w15 ⟨v15, rfl, h⟩; obtain ⟨A15, c15, e15⟩ := h.own_slice; subst e15; have HS15 := Aside0.mk h; clear h)
        | (go_at_call 35; (with_reducible refine (HAc.out _ _ _ (HS15.out.step (by repeat (first | exact Below.refl _ _ | apply below_drew1 | apply pw_below_drewN | apply below_alloc)))).mono ?_); rintro e w16 ⟨rfl, h⟩; have HS16 := Aside0.mk h; clear h))
      have HS17 := Aside0.mk (HS16.out.push_alloc #[.int .i64 r1, .int .i64 q1, .int .i64 f1] 63)
      clear HIM HRd HAc HOT HS12 HS13 HS14 HS15 HS16
      generalize w16.alloc (.cells #[.int .i64 r1, .int .i64 q1, .int .i64 f1] 63) = w17 at HS17 ⊢
      generalize w16.heap.size = ns at HS17 ⊢
      have HS18 := Aside0.mk (HS17.out.step (below_drew1 (Below.refl w17.heap.size w17)))
      clear HS17
      have hrr : (r1 == r1) = true := beq_iff_eq.mpr rfl
      have hqq : (q1 == q1) = true := beq_iff_eq.mpr rfl
      have hff : (f1 == f1) = true := beq_iff_eq.mpr rfl
      refine start_ (n := 21) (S := fun W => W.cell? ⟨ns, 0, none⟩ = some (.int .i64 r1) ∧ W.cell? ⟨ns, 1, none⟩ = some (.int .i64 q1) ∧ W.cell? ⟨ns, 2, none⟩ = some (.int .i64 f1)) (ds := []) (bb 21 0) (by kernel_rfl) rfl rfl (⟨blk_cell HS18.out.cells.1 0, blk_cell HS18.out.cells.1 1, blk_cell HS18.out.cells.1 2⟩) (fun hHeld => ?_); refine with_tabW turns31_tab turns31_bits (fun HT_ HW_ => ?_)
      generalize w17.drew = w18 at hHeld HS18 ⊢
      refine pure_ (i := 0) (N := (some 171)) (v := ?_) (a' := ?_) (bb 21 1) rfl rfl (any_of HT_.out (by kernel_rfl)) (fun _ _ _ h => h) (Or.inl ⟨by rfl, ?_⟩) ?_ ?_
      rotate_left
      · intro w'
        go_simp
        with_reducible rfl
      rotate_left
      · simp only [Act.put, List.setIfInBounds_toArray, List.set_cons_zero, List.set_cons_succ, i64_w, i32_w]
        rfl
      refine pure_ (i := 1) (N := (some 172)) (v := ?_) (a' := ?_) (bb 21 3) rfl rfl (any_of HT_.out (by kernel_rfl)) (fun _ _ _ h => h) (Or.inl ⟨by rfl, ?_⟩) ?_ ?_
      rotate_left
      · intro w'
        go_simp
        with_reducible rfl
      rotate_left
      · simp only [Act.put, List.setIfInBounds_toArray, List.set_cons_zero, List.set_cons_succ, i64_w, i32_w]
        rfl
      refine pure_ (i := 2) (N := (some 173)) (v := ?_) (a' := ?_) (bb 21 7) rfl rfl (any_of HT_.out (by kernel_rfl)) (fun _ _ _ h => h) (Or.inl ⟨by rfl, ?_⟩) ?_ ?_
      rotate_left
      · intro w'
        go_simp
        with_reducible rfl
      rotate_left
      · simp only [Act.put, List.setIfInBounds_toArray, List.set_cons_zero, List.set_cons_succ, i64_w, i32_w]
        rfl
      refine pure_ (i := 3) (N := (some 174)) (v := ?_) (a' := ?_) (bb 21 15) rfl rfl (any_of HT_.out (by kernel_rfl)) (fun _ _ _ h => h) (Or.inl ⟨by rfl, ?_⟩) ?_ ?_
      rotate_left
      · intro w'
        go_simp
        with_reducible rfl
      rotate_left
      · simp only [Act.put, List.setIfInBounds_toArray, List.set_cons_zero, List.set_cons_succ, i64_w, i32_w]
        rfl
      refine pure_ (i := 4) (N := (some 175)) (v := ?_) (a' := ?_) (bb 21 31) rfl rfl (any_of HT_.out (by kernel_rfl)) (fun _ _ _ h => h) (Or.inl ⟨by rfl, ?_⟩) ?_ ?_
      rotate_left
      · intro w'
        go_simp
        with_reducible rfl
      rotate_left
      · simp only [Act.put, List.setIfInBounds_toArray, List.set_cons_zero, List.set_cons_succ, i64_w, i32_w]
        rfl
      refine pure_ (i := 5) (N := (some 176)) (v := ?_) (a' := ?_) (bb 21 63) rfl rfl (any_of HT_.out (by kernel_rfl)) (fun _ _ _ h => h) (Or.inl ⟨by rfl, ?_⟩) ?_ ?_
      rotate_left
      · intro w'
        go_simp
        with_reducible rfl
      rotate_left
      · simp only [Act.put, List.setIfInBounds_toArray, List.set_cons_zero, List.set_cons_succ, i64_w, i32_w]
        rfl
      refine pure_ (i := 6) (N := (some 177)) (v := ?_) (a' := ?_) (bb 21 127) rfl rfl (any_of HT_.out (by kernel_rfl)) (fun _ _ _ h => h) (Or.inl ⟨by rfl, ?_⟩) ?_ ?_
      rotate_left
      · intro w'
        go_simp
        with_reducible rfl
      rotate_left
      · simp only [Act.put, List.setIfInBounds_toArray, List.set_cons_zero, List.set_cons_succ, i64_w, i32_w]
        rfl
      refine pure_ (i := 7) (N := (some 178)) (v := ?_) (a' := ?_) (bb 21 255) rfl rfl (any_of HT_.out (by kernel_rfl)) (fun _ _ _ h => h) (Or.inl ⟨by rfl, ?_⟩) ?_ ?_
      rotate_left
      · intro w'
        go_simp
        with_reducible rfl
      rotate_left
      · simp only [Act.put, List.setIfInBounds_toArray, List.set_cons_zero, List.set_cons_succ, i64_w, i32_w]
        rfl
      refine pure_ (i := 8) (N := (some 179)) (v := ?_) (a' := ?_) (bb 21 511) rfl rfl (any_of HT_.out (by kernel_rfl)) (fun _ _ _ h => h) (Or.inl ⟨by rfl, ?_⟩) ?_ ?_
      rotate_left
      · intro w'
        go_simp
        with_reducible rfl
      rotate_left
      · simp only [Act.put, List.setIfInBounds_toArray, List.set_cons_zero, List.set_cons_succ, i64_w, i32_w]
        rfl
      refine pure_ (i := 9) (N := (some 180)) (v := ?_) (a' := ?_) (bb 21 1023) rfl rfl (any_of HT_.out (by kernel_rfl)) (fun _ _ _ h => h) (Or.inl ⟨by rfl, ?_⟩) ?_ ?_
      rotate_left
      · intro w'
        go_simp
        with_reducible rfl
      rotate_left
      · simp only [Act.put, List.setIfInBounds_toArray, List.set_cons_zero, List.set_cons_succ, i64_w, i32_w]
        rfl
      refine pure_ (i := 10) (N := (some 181)) (v := ?_) (a' := ?_) (bb 21 2047) rfl rfl (any_of HT_.out (by kernel_rfl)) (fun _ _ _ h => h) (Or.inl ⟨by rfl, ?_⟩) ?_ ?_
      rotate_left
      · intro w'
        go_simp
        with_reducible rfl
      rotate_left
      · simp only [Act.put, List.setIfInBounds_toArray, List.set_cons_zero, List.set_cons_succ, i64_w, i32_w]
        rfl
      refine pure_ (i := 11) (N := (some 182)) (v := ?_) (a' := ?_) (bb 21 4095) rfl rfl (any_of HT_.out (by kernel_rfl)) (fun _ _ _ h => h) (Or.inl ⟨by rfl, ?_⟩) ?_ ?_
      rotate_left
      · intro w'
        go_simp
        with_reducible rfl
      rotate_left
      · simp only [Act.put, List.setIfInBounds_toArray, List.set_cons_zero, List.set_cons_succ, i64_w, i32_w]
        rfl
      refine one_ (i := 12) (N := (some 183)) (bb 21 8191) rfl rfl (one_of HT_.out (by kernel_rfl)) (by decide) (fun K hK => ?_)
      refine goes_ Try.func33 (by kernel_rfl) rfl #[.pointer (some ⟨g0, 0, none⟩), .int .i64 (i : Int), .int .i64 (bit : Int)] (by rfl) rfl rfl (by (try simp only [List.map_toArray, List.map_cons, List.map_nil]); first | done | rfl) ?_
      with_reducible refine (HTu.out _ _ _ _ HS18.out.up1).mono ?_
      rintro e w19 ⟨rfl, h⟩
      have HS19 := Aside0.mk h
      clear h
      refine ⟨_, rfl, ?_⟩
      refine hK.out _ _ (⟨blk_cell HS19.out.up1.cells.1 0, blk_cell HS19.out.up1.cells.1 1, blk_cell HS19.out.up1.cells.1 2⟩) (fun hHeld => ?_)
      clear hK K
      refine norm_ (a' := ?_) ?_ ?_
      rotate_left
      · show Act.put _ (some 183) _ = _
        simp only [Act.put, List.setIfInBounds_toArray, List.set_cons_zero, List.set_cons_succ, i64_w, i32_w]
        rfl
      refine pure_ (i := 13) (N := (some 184)) (v := ?_) (a' := ?_) (bb 21 16383) rfl rfl (any_of HT_.out (by kernel_rfl)) (fun _ _ _ h => h) (Or.inl ⟨by rfl, ?_⟩) ?_ ?_
      rotate_left
      · intro w'
        go_simp
        with_reducible rfl
      rotate_left
      · simp only [Act.put, List.setIfInBounds_toArray, List.set_cons_zero, List.set_cons_succ, i64_w, i32_w]
        rfl
      refine pure_ (i := 14) (N := (some 185)) (v := ?_) (a' := ?_) (bb 21 32767) rfl rfl (any_of HT_.out (by kernel_rfl)) (fun _ _ _ h => h) (Or.inl ⟨by rfl, ?_⟩) ?_ ?_
      rotate_left
      · intro w'
        go_simp
        with_reducible rfl
      rotate_left
      · simp only [Act.put, List.setIfInBounds_toArray, List.set_cons_zero, List.set_cons_succ, i64_w, i32_w]
        rfl
      refine pure_ (i := 15) (N := (some 186)) (v := ?_) (a' := ?_) (bb 21 65535) rfl rfl (any_of HT_.out (by kernel_rfl)) (fun _ _ _ h => h) (Or.inl ⟨by rfl, ?_⟩) ?_ ?_
      rotate_left
      · intro w'
        go_simp
        with_reducible rfl
      rotate_left
      · simp only [Act.put, List.setIfInBounds_toArray, List.set_cons_zero, List.set_cons_succ, i64_w, i32_w]
        rfl
      refine pure_ (i := 16) (N := (some 187)) (v := ?_) (a' := ?_) (bb 21 131071) rfl rfl (any_of HT_.out (by kernel_rfl)) (fun _ _ _ h => h) (Or.inl ⟨by rfl, ?_⟩) ?_ ?_
      rotate_left
      · intro w'
        go_simp
        with_reducible rfl
      rotate_left
      · simp only [Act.put, List.setIfInBounds_toArray, List.set_cons_zero, List.set_cons_succ, i64_w, i32_w]
        rfl
      refine take_ (i := 18) (N := (some 189)) (v := ?_) (a' := ?_) (bb 21 393215) rfl rfl (take_ofW HT_.out HW_.out (by kernel_rfl)) (fun _ _ _ h => h) (Or.inl ⟨by rfl, ?_⟩) hHeld ?_ ?_
      rotate_left
      · intro w' s0
        (try dsimp only at s0)
        go_simp
        with_reducible rfl
      rotate_left
      · simp only [Act.put, List.setIfInBounds_toArray, List.set_cons_zero, List.set_cons_succ, i64_w, i32_w]
        rfl
      refine one_ (i := 17) (N := (some 188)) (bb 21 524287) rfl rfl (one_of HT_.out (by kernel_rfl)) (by decide) (fun K hK => ?_)
      refine goes_ Try.func35 (by kernel_rfl) rfl #[.pointer (some ⟨g0, 0, none⟩)] (by rfl) rfl rfl (by (try simp only [List.map_toArray, List.map_cons, List.map_nil]); first | done | rfl) ?_
      with_reducible refine (HAd.out _ _ _ _ HS19.out).mono ?_
      rintro e w20 ⟨rfl, h⟩
      have HS20 := Aside0.mk h
      clear h
      refine ⟨_, rfl, ?_⟩
      refine hK.out _ _ (⟨blk_cell HS20.out.up1.cells.1 0, blk_cell HS20.out.up1.cells.1 1, blk_cell HS20.out.up1.cells.1 2⟩) (fun hHeld => ?_)
      clear hK K
      refine norm_ (a' := ?_) ?_ ?_
      rotate_left
      · show Act.put _ (some 188) _ = _
        simp only [Act.put, List.setIfInBounds_toArray, List.set_cons_zero, List.set_cons_succ, i64_w, i32_w]
        rfl
      refine pure_ (i := 19) (N := (some 190)) (v := ?_) (a' := ?_) (bb 21 1048575) rfl rfl (any_of HT_.out (by kernel_rfl)) (fun _ _ _ h => h) (Or.inl ⟨by rfl, ?_⟩) ?_ ?_
      rotate_left
      · intro w'
        go_simp
        with_reducible rfl
      rotate_left
      · simp only [Act.put, List.setIfInBounds_toArray, List.set_cons_zero, List.set_cons_succ, i64_w, i32_w]
        rfl
      refine pure_ (i := 20) (N := (some 191)) (v := ?_) (a' := ?_) (bb 21 2097151) rfl rfl (any_of HT_.out (by kernel_rfl)) (fun _ _ _ h => h) (Or.inl ⟨by rfl, ?_⟩) ?_ ?_
      rotate_left
      · intro w'
        go_simp
        with_reducible rfl
      rotate_left
      · simp only [Act.put, List.setIfInBounds_toArray, List.set_cons_zero, List.set_cons_succ, i64_w, i32_w]
        rfl
      refine done_ (done_of HT_.out (by kernel_rfl)) ?_
      clear hHeld hrr hqq hff HS18 HS19 HTu HAd
      obtain ⟨Y, hY⟩ : ∃ x, x = Z.reads.turn i bit := ⟨_, rfl⟩
      have HYn := Aside0.mk (show Y.n = n from by rw [hY]; exact HZn.out)
      rw [← hY] at HS20 HO2 HO3 HSM HBK HSI
      clear hY
      have HIM2 := Aside0.mk (fun W t v v2 (h : Sep w W [dkT g0 Y, t, ownT (Kd.int .u8) 5 v (Z.cur i), rowsT KB 28 v2 Z.L]) => (show Calls Try.prog 26 #[.pointer (some ⟨g0, 0, none⟩)] W (fun e w' => ∃ go c, e = .returned (.slice (some ⟨go, 0, none⟩) n c) ∧ Sep w w' [rowsT KB 28 (.slice (some ⟨go, 0, none⟩) n c) Y.L, dkT g0 Y, t, ownT (Kd.int .u8) 5 v (Z.cur i), rowsT KB 28 v2 Z.L]) from by
        have h_ := Sep.image h
        rw [HYn.out] at h_
        exact h_))
      have HRd2 := Aside0.mk (fun W t v v2 v3 (h : Sep w W [rowsT KB 28 v3 Y.L, dkT g0 Y, t, ownT (Kd.int .u8) 5 v (Z.cur i), rowsT KB 28 v2 Z.L]) => Sep.read h.up1 i (show i < Y.n from by rw [HYn.out]; exact HI.out))
      go_upto_region 35 with (first
        | (go_at_call 26; (with_reducible refine (HIM2.out _ _ _ _ (HS20.out.step (by repeat (first | exact Below.refl _ _ | apply below_drew1 | apply pw_below_drewN | apply below_alloc)))).mono ?_); rintro e w21 ⟨bn, cn, rfl, h⟩; have HS21 := Aside0.mk h; clear h)
        | (go_at_call 25; (with_reducible refine (HRd2.out _ _ _ _ _ (HS21.out.step (by repeat (first | exact Below.refl _ _ | apply below_drew1 | apply pw_below_drewN | apply below_alloc)))).mono ?_); rintro e w22 ⟨v22, rfl, h⟩; obtain ⟨A22, c22, e22⟩ := h.own_slice; subst e22; have HS22 := Aside0.mk h; clear h))
      clear HIM2 HRd2 HS20 HS21
      have HSw := Aside0.mk (show Sep w w22 [ownT KB 28 (.slice (some ⟨bw, 0, none⟩) n cw) Z.L] from (show Sep w w22 [rowsT KB 28 (.slice (some ⟨bw, 0, none⟩) n cw) Z.L] from HS22.out.sel 6 [5] _ rfl (by decide) rfl).rows_own)
      have HSn := Aside0.mk (show Sep w w22 [ownT KB 28 (.slice (some ⟨bn, 0, none⟩) n cn) Y.L] from (show Sep w w22 [rowsT KB 28 (.slice (some ⟨bn, 0, none⟩) n cn) Y.L] from HS22.out.sel 6 [2] _ rfl (by decide) rfl).rows_own)
      have HSb := Aside0.mk (show Sep w w22 [ownT (Kd.int .u8) 5 (.slice A15 (Z.cur i).length c15) (Z.cur i)] from HS22.out.sel 6 [4] _ rfl (by decide) rfl)
      obtain ⟨Aw, cw_, hw1, _, hw2, hw3⟩ := HSw.out.slot i HI.out
      obtain ⟨An, cn_, hn1, _, hn2_, hn3⟩ := HSn.out.slot i HI.out
      have HK35 := Aside0.mk (fun W (hW : Below w22.heap.size w22 W) => (show W.cell? ⟨bw, i, none⟩ = some (.slice Aw (Z.L.getD i []).length cw_) ∧ W.cell? ⟨bn, i, none⟩ = some (.slice An (Y.L.getD i []).length cn_) from
        ⟨(hW.cell (World.block_lt_of_cell? w22 _ hw1)).trans hw1, (hW.cell (World.block_lt_of_cell? w22 _ hn1)).trans hn1⟩))
      obtain ⟨ko2, hko2⟩ := HO2.out
      obtain ⟨ko3, hko3⟩ := HO3.out
      have HOa := Aside0.mk (fun W (hW : Below w22.heap.size w22 W) => (show Calls Try.prog 34 _ W _ from R.kilnlaw3_other.calls ko2 A15 c15 _ A22 c22 _ (bit : Int) true W (HSb.out.step hW).own_C.1 (HSb.out.step hW).own_C.2 (HS22.out.step hW).own_C.1 (HS22.out.step hW).own_C.2 hko2))
      have HOb := Aside0.mk (fun W (hW : Below w22.heap.size w22 W) => (show Calls Try.prog 34 _ W _ from R.kilnlaw3_other.calls ko3 Aw cw_ _ An cn_ _ (bit : Int) true W (Kd.C_below hw2 hW) hw3 (Kd.C_below hn2_ hW) hn3 hko3))
      have hnn : ((n : Int) != (n : Int)) = false := bne_eq_false_iff_eq.mpr rfl
      have HB23 := Aside0.mk (below_drew1 (Below.refl w22.heap.size w22))
      clear hko2 hko3 hw1 hw2 hw3 hn1 hn2_ hn3
      refine start_ (n := 28) (S := fun W => W.cell? ⟨bw, i, none⟩ = some (.slice Aw (Z.L.getD i []).length cw_) ∧ W.cell? ⟨bn, i, none⟩ = some (.slice An (Y.L.getD i []).length cn_)) (ds := []) (bb 28 0) (by kernel_rfl) rfl rfl (HK35.out _ HB23.out) (fun hHeld => ?_); refine with_tabW turns35_tab turns35_bits (fun HT_ HW_ => ?_)
      generalize w22.drew = w23 at hHeld HB23 ⊢
      refine pure_ (i := 0) (N := (some 200)) (v := ?_) (a' := ?_) (bb 28 1) rfl rfl (any_of HT_.out (by kernel_rfl)) (fun _ _ _ h => h) (Or.inl ⟨by rfl, ?_⟩) ?_ ?_
      rotate_left
      · intro w'
        go_simp
        with_reducible rfl
      rotate_left
      · simp only [Act.put, List.setIfInBounds_toArray, List.set_cons_zero, List.set_cons_succ, i64_w, i32_w]
        rfl
      refine pure_ (i := 1) (N := (some 201)) (v := ?_) (a' := ?_) (bb 28 3) rfl rfl (any_of HT_.out (by kernel_rfl)) (fun _ _ _ h => h) (Or.inl ⟨by rfl, ?_⟩) ?_ ?_
      rotate_left
      · intro w'
        go_simp
        with_reducible rfl
      rotate_left
      · simp only [Act.put, List.setIfInBounds_toArray, List.set_cons_zero, List.set_cons_succ, i64_w, i32_w]
        rfl
      refine pure_ (i := 2) (N := (some 202)) (v := ?_) (a' := ?_) (bb 28 7) rfl rfl (any_of HT_.out (by kernel_rfl)) (fun _ _ _ h => h) (Or.inl ⟨by rfl, ?_⟩) ?_ ?_
      rotate_left
      · intro w'
        go_simp
        with_reducible rfl
      rotate_left
      · simp only [Act.put, List.setIfInBounds_toArray, List.set_cons_zero, List.set_cons_succ, i64_w, i32_w]
        rfl
      refine pure_ (i := 3) (N := (some 203)) (v := ?_) (a' := ?_) (bb 28 15) rfl rfl (any_of HT_.out (by kernel_rfl)) (fun _ _ _ h => h) (Or.inl ⟨by rfl, ?_⟩) ?_ ?_
      rotate_left
      · intro w'
        go_simp
        with_reducible rfl
      rotate_left
      · simp only [Act.put, List.setIfInBounds_toArray, List.set_cons_zero, List.set_cons_succ, i64_w, i32_w]
        rfl
      refine pure_ (i := 4) (N := (some 204)) (v := ?_) (a' := ?_) (bb 28 31) rfl rfl (any_of HT_.out (by kernel_rfl)) (fun _ _ _ h => h) (Or.inl ⟨by rfl, ?_⟩) ?_ ?_
      rotate_left
      · intro w'
        go_simp
        with_reducible rfl
      rotate_left
      · simp only [Act.put, List.setIfInBounds_toArray, List.set_cons_zero, List.set_cons_succ, i64_w, i32_w]
        rfl
      refine pure_ (i := 5) (N := (some 205)) (v := ?_) (a' := ?_) (bb 28 63) rfl rfl (any_of HT_.out (by kernel_rfl)) (fun _ _ _ h => h) (Or.inl ⟨by rfl, ?_⟩) ?_ ?_
      rotate_left
      · intro w'
        go_simp
        with_reducible rfl
      rotate_left
      · simp only [Act.put, List.setIfInBounds_toArray, List.set_cons_zero, List.set_cons_succ, i64_w, i32_w]
        rfl
      refine one_ (i := 6) (N := (some 206)) (bb 28 127) rfl rfl (one_of HT_.out (by kernel_rfl)) (by decide) (fun K hK => ?_)
      refine goes_ Try.func34 (by kernel_rfl) rfl #[.slice A15 (Z.cur i).length c15, .slice A22 (Y.cur i).length c22, .int .i64 (bit : Int)] (by rfl) rfl rfl (by (try simp only [List.map_toArray, List.map_cons, List.map_nil]); first | done | rfl) ?_
      with_reducible refine (HOa.out _ HB23.out).mono ?_
      rintro e w24 ⟨rfl, hd⟩
      have HB24 := Aside0.mk (show Below w22.heap.size w22 w24 from by obtain ⟨nd, rfl⟩ := hd; exact pw_below_drewN HB23.out nd)
      clear hd
      refine ⟨_, rfl, ?_⟩
      refine hK.out _ _ (HK35.out _ HB24.out) (fun hHeld => ?_)
      clear hK K
      refine norm_ (a' := ?_) ?_ ?_
      rotate_left
      · show Act.put _ (some 206) _ = _
        simp only [Act.put, List.setIfInBounds_toArray, List.set_cons_zero, List.set_cons_succ, i64_w, i32_w]
        rfl
      refine pure_ (i := 7) (N := (some 207)) (v := ?_) (a' := ?_) (bb 28 255) rfl rfl (any_of HT_.out (by kernel_rfl)) (fun _ _ _ h => h) (Or.inl ⟨by rfl, ?_⟩) ?_ ?_
      rotate_left
      · intro w'
        go_simp
        with_reducible rfl
      rotate_left
      · simp only [Act.put, List.setIfInBounds_toArray, List.set_cons_zero, List.set_cons_succ, i64_w, i32_w]
        rfl
      refine pure_ (i := 8) (N := (some 208)) (v := ?_) (a' := ?_) (bb 28 511) rfl rfl (any_of HT_.out (by kernel_rfl)) (fun _ _ _ h => h) (Or.inl ⟨by rfl, ?_⟩) ?_ ?_
      rotate_left
      · intro w'
        go_simp
        with_reducible rfl
      rotate_left
      · simp only [Act.put, List.setIfInBounds_toArray, List.set_cons_zero, List.set_cons_succ, i64_w, i32_w]
        rfl
      refine pure_ (i := 9) (N := (some 209)) (v := ?_) (a' := ?_) (bb 28 1023) rfl rfl (any_of HT_.out (by kernel_rfl)) (fun _ _ _ h => h) (Or.inl ⟨by rfl, ?_⟩) ?_ ?_
      rotate_left
      · intro w'
        go_simp
        with_reducible rfl
      rotate_left
      · simp only [Act.put, List.setIfInBounds_toArray, List.set_cons_zero, List.set_cons_succ, i64_w, i32_w]
        rfl
      refine pure_ (i := 10) (N := (some 210)) (v := ?_) (a' := ?_) (bb 28 2047) rfl rfl (any_of HT_.out (by kernel_rfl)) (fun _ _ _ h => h) (Or.inl ⟨by rfl, ?_⟩) ?_ ?_
      rotate_left
      · intro w'
        go_simp
        with_reducible rfl
      rotate_left
      · simp only [Act.put, List.setIfInBounds_toArray, List.set_cons_zero, List.set_cons_succ, i64_w, i32_w]
        rfl
      refine pure_ (i := 11) (N := (some 211)) (v := ?_) (a' := ?_) (bb 28 4095) rfl rfl (any_of HT_.out (by kernel_rfl)) (fun _ _ _ h => h) (Or.inl ⟨by rfl, ?_⟩) ?_ ?_
      rotate_left
      · intro w'
        go_simp
        with_reducible rfl
      rotate_left
      · simp only [Act.put, List.setIfInBounds_toArray, List.set_cons_zero, List.set_cons_succ, i64_w, i32_w]
        rfl
      refine pure_ (i := 12) (N := (some 212)) (v := ?_) (a' := ?_) (bb 28 8191) rfl rfl (any_of HT_.out (by kernel_rfl)) (fun _ _ _ h => h) (Or.inl ⟨by rfl, ?_⟩) ?_ ?_
      rotate_left
      · intro w'
        go_simp
        with_reducible rfl
      rotate_left
      · simp only [Act.put, List.setIfInBounds_toArray, List.set_cons_zero, List.set_cons_succ, i64_w, i32_w]
        rfl
      refine pure_ (i := 13) (N := (some 213)) (v := ?_) (a' := ?_) (bb 28 16383) rfl rfl (any_of HT_.out (by kernel_rfl)) (fun _ _ _ h => h) (Or.inl ⟨by rfl, ?_⟩) ?_ ?_
      rotate_left
      · intro w'
        go_simp
        with_reducible rfl
      rotate_left
      · simp only [Act.put, List.setIfInBounds_toArray, List.set_cons_zero, List.set_cons_succ, i64_w, i32_w]
        rfl
      refine pure_ (i := 14) (N := (some 214)) (v := ?_) (a' := ?_) (bb 28 32767) rfl rfl (any_of HT_.out (by kernel_rfl)) (fun _ _ _ h => h) (Or.inl ⟨by rfl, ?_⟩) ?_ ?_
      rotate_left
      · intro w'
        go_simp
        with_reducible rfl
      rotate_left
      · simp only [Act.put, List.setIfInBounds_toArray, List.set_cons_zero, List.set_cons_succ, i64_w, i32_w]
        rfl
      refine pure_ (i := 15) (N := (some 215)) (v := ?_) (a' := ?_) (bb 28 65535) rfl rfl (any_of HT_.out (by kernel_rfl)) (fun _ _ _ h => h) (Or.inl ⟨by rfl, ?_⟩) ?_ ?_
      rotate_left
      · intro w'
        go_simp
        with_reducible rfl
      rotate_left
      · simp only [Act.put, List.setIfInBounds_toArray, List.set_cons_zero, List.set_cons_succ, i64_w, i32_w]
        rfl
      refine pure_ (i := 16) (N := (some 216)) (v := ?_) (a' := ?_) (bb 28 131071) rfl rfl (any_of HT_.out (by kernel_rfl)) (fun _ _ _ h => h) (Or.inl ⟨by rfl, ?_⟩) ?_ ?_
      rotate_left
      · intro w'
        go_simp
        with_reducible rfl
      rotate_left
      · simp only [Act.put, List.setIfInBounds_toArray, List.set_cons_zero, List.set_cons_succ, i64_w, i32_w]
        rfl
      refine pure_ (i := 17) (N := (some 217)) (v := ?_) (a' := ?_) (bb 28 262143) rfl rfl (any_of HT_.out (by kernel_rfl)) (fun _ _ _ h => h) (Or.inl ⟨by rfl, ?_⟩) ?_ ?_
      rotate_left
      · intro w'
        go_simp
        with_reducible rfl
      rotate_left
      · simp only [Act.put, List.setIfInBounds_toArray, List.set_cons_zero, List.set_cons_succ, i64_w, i32_w]
        rfl
      refine pure_ (i := 18) (N := (some 218)) (v := ?_) (a' := ?_) (bb 28 524287) rfl rfl (any_of HT_.out (by kernel_rfl)) (fun _ _ _ h => h) (Or.inl ⟨by rfl, ?_⟩) ?_ ?_
      rotate_left
      · intro w'
        go_simp
        with_reducible rfl
      rotate_left
      · simp only [Act.put, List.setIfInBounds_toArray, List.set_cons_zero, List.set_cons_succ, i64_w, i32_w]
        rfl
      refine take_ (i := 19) (N := (some 219)) (v := ?_) (a' := ?_) (bb 28 1048575) rfl rfl (take_ofW HT_.out HW_.out (by kernel_rfl)) (fun _ _ _ h => h) (Or.inl ⟨by rfl, ?_⟩) hHeld ?_ ?_
      rotate_left
      · intro w' s0
        (try dsimp only at s0)
        go_simp
        with_reducible rfl
      rotate_left
      · simp only [Act.put, List.setIfInBounds_toArray, List.set_cons_zero, List.set_cons_succ, i64_w, i32_w]
        rfl
      refine pure_ (i := 20) (N := (some 220)) (v := ?_) (a' := ?_) (bb 28 2097151) rfl rfl (any_of HT_.out (by kernel_rfl)) (fun _ _ _ h => h) (Or.inl ⟨by rfl, ?_⟩) ?_ ?_
      rotate_left
      · intro w'
        go_simp
        with_reducible rfl
      rotate_left
      · simp only [Act.put, List.setIfInBounds_toArray, List.set_cons_zero, List.set_cons_succ, i64_w, i32_w]
        rfl
      refine pure_ (i := 21) (N := (some 221)) (v := ?_) (a' := ?_) (bb 28 4194303) rfl rfl (any_of HT_.out (by kernel_rfl)) (fun _ _ _ h => h) (Or.inl ⟨by rfl, ?_⟩) ?_ ?_
      rotate_left
      · intro w'
        go_simp
        with_reducible rfl
      rotate_left
      · simp only [Act.put, List.setIfInBounds_toArray, List.set_cons_zero, List.set_cons_succ, i64_w, i32_w]
        rfl
      refine pure_ (i := 22) (N := (some 222)) (v := ?_) (a' := ?_) (bb 28 8388607) rfl rfl (any_of HT_.out (by kernel_rfl)) (fun _ _ _ h => h) (Or.inl ⟨by rfl, ?_⟩) ?_ ?_
      rotate_left
      · intro w'
        go_simp
        with_reducible rfl
      rotate_left
      · simp only [Act.put, List.setIfInBounds_toArray, List.set_cons_zero, List.set_cons_succ, i64_w, i32_w]
        rfl
      refine take_ (i := 23) (N := (some 223)) (v := ?_) (a' := ?_) (bb 28 16777215) rfl rfl (take_ofW HT_.out HW_.out (by kernel_rfl)) (fun _ _ _ h => h) (Or.inl ⟨by rfl, ?_⟩) hHeld ?_ ?_
      rotate_left
      · intro w' s0
        (try dsimp only at s0)
        go_simp
        with_reducible rfl
      rotate_left
      · simp only [Act.put, List.setIfInBounds_toArray, List.set_cons_zero, List.set_cons_succ, i64_w, i32_w]
        rfl
      refine pure_ (i := 24) (N := (some 224)) (v := ?_) (a' := ?_) (bb 28 33554431) rfl rfl (any_of HT_.out (by kernel_rfl)) (fun _ _ _ h => h) (Or.inl ⟨by rfl, ?_⟩) ?_ ?_
      rotate_left
      · intro w'
        go_simp
        with_reducible rfl
      rotate_left
      · simp only [Act.put, List.setIfInBounds_toArray, List.set_cons_zero, List.set_cons_succ, i64_w, i32_w]
        rfl
      refine one_ (i := 25) (N := (some 225)) (bb 28 67108863) rfl rfl (one_of HT_.out (by kernel_rfl)) (by decide) (fun K hK => ?_)
      refine goes_ Try.func34 (by kernel_rfl) rfl #[.slice Aw (Z.L.getD i []).length cw_, .slice An (Y.L.getD i []).length cn_, .int .i64 (bit : Int)] (by rfl) rfl rfl (by (try simp only [List.map_toArray, List.map_cons, List.map_nil]); first | done | rfl) ?_
      with_reducible refine (HOb.out _ HB24.out).mono ?_
      rintro e w25 ⟨rfl, hd⟩
      have HB25 := Aside0.mk (show Below w22.heap.size w22 w25 from by obtain ⟨nd, rfl⟩ := hd; exact pw_below_drewN HB24.out nd)
      clear hd
      refine ⟨_, rfl, ?_⟩
      refine hK.out _ _ (HK35.out _ HB25.out) (fun hHeld => ?_)
      clear hK K
      refine norm_ (a' := ?_) ?_ ?_
      rotate_left
      · show Act.put _ (some 225) _ = _
        simp only [Act.put, List.setIfInBounds_toArray, List.set_cons_zero, List.set_cons_succ, i64_w, i32_w]
        rfl
      refine pure_ (i := 26) (N := (some 226)) (v := ?_) (a' := ?_) (bb 28 134217727) rfl rfl (any_of HT_.out (by kernel_rfl)) (fun _ _ _ h => h) (Or.inl ⟨by rfl, ?_⟩) ?_ ?_
      rotate_left
      · intro w'
        go_simp
        with_reducible rfl
      rotate_left
      · simp only [Act.put, List.setIfInBounds_toArray, List.set_cons_zero, List.set_cons_succ, i64_w, i32_w]
        rfl
      refine pure_ (i := 27) (N := (some 227)) (v := ?_) (a' := ?_) (bb 28 268435455) rfl rfl (any_of HT_.out (by kernel_rfl)) (fun _ _ _ h => h) (Or.inl ⟨by rfl, ?_⟩) ?_ ?_
      rotate_left
      · intro w'
        go_simp
        with_reducible rfl
      rotate_left
      · simp only [Act.put, List.setIfInBounds_toArray, List.set_cons_zero, List.set_cons_succ, i64_w, i32_w]
        rfl
      refine done_ (done_of HT_.out (by kernel_rfl)) ?_
      clear hHeld HK35 HOa HOb HB23 HB24 HSw HSn HSb HO1 HO2 HO3
      have HS26 := Aside0.mk (show Sep w w25 [dkT g0 Y.reads, ownT (Kd.int .u8) 5 (.slice A15 (Z.cur i).length c15) (Z.cur i), rowsT KB 28 (.slice (some ⟨bn, 0, none⟩) n cn) Y.L, rowsT KB 28 (.slice (some ⟨bw, 0, none⟩) n cw) Z.L] from (HS22.out.step HB25.out).sel 6 [1, 4, 2, 5] _ rfl (by decide) rfl)
      clear HS22 HB25
      go_wp2
      go_loopg [35] n (fun kq v35 wr => ∃ j : Nat, v35 = .int .i64 j ∧ Aside0 (j + kq = n) ∧ Aside0 (Sep w wr [dkT g0 Y.reads, ownT (Kd.int .u8) 5 (.slice A15 (Z.cur i).length c15) (Z.cur i), rowsT KB 28 (.slice (some ⟨bn, 0, none⟩) n cn) Y.L, rowsT KB 28 (.slice (some ⟨bw, 0, none⟩) n cw) Z.L]))
      case atStart => exact ⟨0, rfl, ⟨Nat.zero_add _⟩, HS26⟩
      case round =>
        clear HS26
        obtain ⟨j, rfl, HJ, HS⟩ := hrel
        rename World => wq
        by_cases hj : j < n
        · have hjb : decide (j < n) = true := decide_eq_true hj
          have hj0 : (0 : Int) ≤ (j : Int) := by omega
          have hj1 : (j : Int) < (n : Int) := by omega
          have HJ1 := Aside0.mk hj
          have HB := Aside0.mk (below_drew1 (Below.refl wq.heap.size wq))
          by_cases hji : j = i
          · have hne : ((j : Int) != (i : Int)) = false := bne_eq_false_iff_eq.mpr (by omega)
            clear hj hji
            go_upto_region 40 with (fail)
            refine start_ (n := 16) (S := fun _ => True) (ds := []) (bb 16 0) (by kernel_rfl) rfl rfl (trivial) (fun hHeld => ?_); refine with_tabW turns40_tab turns40_bits (fun HT_ HW_ => ?_)
            generalize wq.drew = wd at hHeld HB ⊢
            refine pure_ (i := 0) (N := (some 233)) (v := ?_) (a' := ?_) (bb 16 1) rfl rfl (any_of HT_.out (by kernel_rfl)) (fun _ _ _ h => h) (Or.inl ⟨by rfl, ?_⟩) ?_ ?_
            rotate_left
            · intro w'
              go_simp
              with_reducible rfl
            rotate_left
            · simp only [Act.put, List.setIfInBounds_toArray, List.set_cons_zero, List.set_cons_succ, i64_w, i32_w]
              rfl
            refine pure_ (i := 1) (N := (some 234)) (v := ?_) (a' := ?_) (bb 16 3) rfl rfl (any_of HT_.out (by kernel_rfl)) (fun _ _ _ h => h) (Or.inl ⟨by rfl, ?_⟩) ?_ ?_
            rotate_left
            · intro w'
              go_simp
              with_reducible rfl
            rotate_left
            · simp only [Act.put, List.setIfInBounds_toArray, List.set_cons_zero, List.set_cons_succ, i64_w, i32_w]
              rfl
            refine pure_ (i := 2) (N := (some 235)) (v := ?_) (a' := ?_) (bb 16 7) rfl rfl (any_of HT_.out (by kernel_rfl)) (fun _ _ _ h => h) (Or.inl ⟨by rfl, ?_⟩) ?_ ?_
            rotate_left
            · intro w'
              go_simp
              with_reducible rfl
            rotate_left
            · simp only [Act.put, List.setIfInBounds_toArray, List.set_cons_zero, List.set_cons_succ, i64_w, i32_w]
              rfl
            refine pure_ (i := 3) (N := (some 236)) (v := ?_) (a' := ?_) (bb 16 15) rfl rfl (any_of HT_.out (by kernel_rfl)) (fun _ _ _ h => h) (Or.inl ⟨by rfl, ?_⟩) ?_ ?_
            rotate_left
            · intro w'
              go_simp
              with_reducible rfl
            rotate_left
            · simp only [Act.put, List.setIfInBounds_toArray, List.set_cons_zero, List.set_cons_succ, i64_w, i32_w]
              rfl
            refine pure_ (i := 4) (N := (some 237)) (v := undef) (a' := ?_) (bb 16 31) rfl rfl (any_of HT_.out (by kernel_rfl)) (fun _ _ _ h => h) (Or.inr ⟨by rfl, rfl⟩) ?_ ?_
            rotate_left
            · simp only [Act.put, List.setIfInBounds_toArray, List.set_cons_zero, List.set_cons_succ, i64_w, i32_w]
              rfl
            refine pure_ (i := 5) (N := (some 238)) (v := undef) (a' := ?_) (bb 16 63) rfl rfl (any_of HT_.out (by kernel_rfl)) (fun _ _ _ h => h) (Or.inr ⟨by rfl, rfl⟩) ?_ ?_
            rotate_left
            · simp only [Act.put, List.setIfInBounds_toArray, List.set_cons_zero, List.set_cons_succ, i64_w, i32_w]
              rfl
            refine pure_ (i := 6) (N := (some 239)) (v := undef) (a' := ?_) (bb 16 127) rfl rfl (any_of HT_.out (by kernel_rfl)) (fun _ _ _ h => h) (Or.inr ⟨by rfl, rfl⟩) ?_ ?_
            rotate_left
            · simp only [Act.put, List.setIfInBounds_toArray, List.set_cons_zero, List.set_cons_succ, i64_w, i32_w]
              rfl
            refine pure_ (i := 7) (N := (some 240)) (v := undef) (a' := ?_) (bb 16 255) rfl rfl (any_of HT_.out (by kernel_rfl)) (fun _ _ _ h => h) (Or.inr ⟨by rfl, rfl⟩) ?_ ?_
            rotate_left
            · simp only [Act.put, List.setIfInBounds_toArray, List.set_cons_zero, List.set_cons_succ, i64_w, i32_w]
              rfl
            refine pure_ (i := 8) (N := (some 241)) (v := undef) (a' := ?_) (bb 16 511) rfl rfl (any_of HT_.out (by kernel_rfl)) (fun _ _ _ h => h) (Or.inr ⟨by rfl, rfl⟩) ?_ ?_
            rotate_left
            · simp only [Act.put, List.setIfInBounds_toArray, List.set_cons_zero, List.set_cons_succ, i64_w, i32_w]
              rfl
            refine pure_ (i := 9) (N := (some 242)) (v := undef) (a' := ?_) (bb 16 1023) rfl rfl (any_of HT_.out (by kernel_rfl)) (fun _ _ _ h => h) (Or.inr ⟨by rfl, rfl⟩) ?_ ?_
            rotate_left
            · simp only [Act.put, List.setIfInBounds_toArray, List.set_cons_zero, List.set_cons_succ, i64_w, i32_w]
              rfl
            refine pure_ (i := 10) (N := (some 243)) (v := undef) (a' := ?_) (bb 16 2047) rfl rfl (any_of HT_.out (by kernel_rfl)) (fun _ _ _ h => h) (Or.inr ⟨by rfl, rfl⟩) ?_ ?_
            rotate_left
            · simp only [Act.put, List.setIfInBounds_toArray, List.set_cons_zero, List.set_cons_succ, i64_w, i32_w]
              rfl
            refine pure_ (i := 11) (N := (some 244)) (v := undef) (a' := ?_) (bb 16 4095) rfl rfl (any_of HT_.out (by kernel_rfl)) (fun _ _ _ h => h) (Or.inr ⟨by rfl, rfl⟩) ?_ ?_
            rotate_left
            · simp only [Act.put, List.setIfInBounds_toArray, List.set_cons_zero, List.set_cons_succ, i64_w, i32_w]
              rfl
            refine pure_ (i := 12) (N := (some 245)) (v := undef) (a' := ?_) (bb 16 8191) rfl rfl (any_of HT_.out (by kernel_rfl)) (fun _ _ _ h => h) (Or.inr ⟨by rfl, rfl⟩) ?_ ?_
            rotate_left
            · simp only [Act.put, List.setIfInBounds_toArray, List.set_cons_zero, List.set_cons_succ, i64_w, i32_w]
              rfl
            refine pure_ (i := 13) (N := (some 246)) (v := undef) (a' := ?_) (bb 16 16383) rfl rfl (any_of HT_.out (by kernel_rfl)) (fun _ _ _ h => h) (Or.inr ⟨by rfl, rfl⟩) ?_ ?_
            rotate_left
            · simp only [Act.put, List.setIfInBounds_toArray, List.set_cons_zero, List.set_cons_succ, i64_w, i32_w]
              rfl
            refine pure_ (i := 14) (N := (some 247)) (v := undef) (a' := ?_) (bb 16 32767) rfl rfl (any_of HT_.out (by kernel_rfl)) (fun _ _ _ h => h) (Or.inr ⟨by rfl, rfl⟩) ?_ ?_
            rotate_left
            · simp only [Act.put, List.setIfInBounds_toArray, List.set_cons_zero, List.set_cons_succ, i64_w, i32_w]
              rfl
            refine pure_ (i := 15) (N := (some 248)) (v := ?_) (a' := ?_) (bb 16 65535) rfl rfl (any_of HT_.out (by kernel_rfl)) (fun _ _ _ h => h) (Or.inl ⟨by rfl, ?_⟩) ?_ ?_
            rotate_left
            · intro w'
              go_simp
              with_reducible rfl
            rotate_left
            · simp only [Act.put, List.setIfInBounds_toArray, List.set_cons_zero, List.set_cons_succ, i64_w, i32_w]
              rfl
            refine done_ (done_of HT_.out (by kernel_rfl)) ?_
            have HSe := Aside0.mk (HS.out.step HB.out)
            clear hHeld HB HS
            go_wp2
            go_roundg (n - j - 1)
            case measure => have := HJ.out; have := HJ1.out; omega
            case rel => exact ⟨j + 1, (by have hi_ := HJ1.out; have hl_ := hnm; first | rfl | (simp; done)), ⟨by have := HJ.out; have := HJ1.out; omega⟩, HSe⟩
          · have hne : ((j : Int) != (i : Int)) = true := bne_iff_ne.mpr (by omega)
            have hst := HSM.out j hj hji
            obtain ⟨t, ht⟩ : ∃ x, x = Z.L.getD j [] := ⟨_, rfl⟩
            obtain ⟨A2_, c2_, hw1, _, hw2, _⟩ := (show Sep w wq [rowsT KB 28 (.slice (some ⟨bw, 0, none⟩) n cw) Z.L] from HS.out.sel 4 [3] _ rfl (by decide) rfl).rows_own.slot j hj
            obtain ⟨A1_, c1_, hn1, _, hn2_, _⟩ := (show Sep w wq [rowsT KB 28 (.slice (some ⟨bn, 0, none⟩) n cn) Y.L] from HS.out.sel 4 [2] _ rfl (by decide) rfl).rows_own.slot j hj
            rw [hst] at hn1 hn2_
            rw [← ht] at hw1 hw2 hn1 hn2_
            have HK40 := Aside0.mk (fun W (hW : Below wq.heap.size wq W) => (show (W.cell? ⟨bn, j, none⟩ = some (.slice A1_ t.length c1_) ∧ (convert 28 9 (.slice A1_ t.length c1_)).run Try.prog W = .ok (.string (strOfNums t)) W) ∧ (W.cell? ⟨bw, j, none⟩ = some (.slice A2_ t.length c2_) ∧ (convert 28 9 (.slice A2_ t.length c2_)).run Try.prog W = .ok (.string (strOfNums t)) W) from
              ⟨⟨(hW.cell (World.block_lt_of_cell? wq _ hn1)).trans hn1, Kd.C_string (P := Try.prog) (A := A1_) (c := c1_) Try.underlying28 Try.underlying5 Try.underlying9 (Kd.C_below hn2_ hW)⟩, (hW.cell (World.block_lt_of_cell? wq _ hw1)).trans hw1, Kd.C_string (P := Try.prog) (A := A2_) (c := c2_) Try.underlying28 Try.underlying5 Try.underlying9 (Kd.C_below hw2 hW)⟩))
            have c9b0 : ((strOfNums t).toList == (strOfNums t).toList) = true := beq_iff_eq.mpr rfl
            have c9b1 : ((strOfNums t).toList != (strOfNums t).toList) = false := bne_eq_false_iff_eq.mpr rfl
            clear hj hji hst ht hw1 hw2 hn1 hn2_
            go_upto_region 40 with (fail)
            refine start_ (n := 16) (S := fun W => (W.cell? ⟨bn, j, none⟩ = some (.slice A1_ t.length c1_) ∧ (convert 28 9 (.slice A1_ t.length c1_)).run Try.prog W = .ok (.string (strOfNums t)) W) ∧ (W.cell? ⟨bw, j, none⟩ = some (.slice A2_ t.length c2_) ∧ (convert 28 9 (.slice A2_ t.length c2_)).run Try.prog W = .ok (.string (strOfNums t)) W)) (ds := []) (bb 16 0) (by kernel_rfl) rfl rfl (HK40.out _ HB.out) (fun hHeld => ?_); refine with_tabW turns40_tab turns40_bits (fun HT_ HW_ => ?_)
            generalize wq.drew = wd at hHeld HB ⊢
            refine pure_ (i := 0) (N := (some 233)) (v := ?_) (a' := ?_) (bb 16 1) rfl rfl (any_of HT_.out (by kernel_rfl)) (fun _ _ _ h => h) (Or.inl ⟨by rfl, ?_⟩) ?_ ?_
            rotate_left
            · intro w'
              go_simp
              with_reducible rfl
            rotate_left
            · simp only [Act.put, List.setIfInBounds_toArray, List.set_cons_zero, List.set_cons_succ, i64_w, i32_w]
              rfl
            refine pure_ (i := 1) (N := (some 234)) (v := ?_) (a' := ?_) (bb 16 3) rfl rfl (any_of HT_.out (by kernel_rfl)) (fun _ _ _ h => h) (Or.inl ⟨by rfl, ?_⟩) ?_ ?_
            rotate_left
            · intro w'
              go_simp
              with_reducible rfl
            rotate_left
            · simp only [Act.put, List.setIfInBounds_toArray, List.set_cons_zero, List.set_cons_succ, i64_w, i32_w]
              rfl
            refine pure_ (i := 2) (N := (some 235)) (v := ?_) (a' := ?_) (bb 16 7) rfl rfl (any_of HT_.out (by kernel_rfl)) (fun _ _ _ h => h) (Or.inl ⟨by rfl, ?_⟩) ?_ ?_
            rotate_left
            · intro w'
              go_simp
              with_reducible rfl
            rotate_left
            · simp only [Act.put, List.setIfInBounds_toArray, List.set_cons_zero, List.set_cons_succ, i64_w, i32_w]
              rfl
            refine pure_ (i := 3) (N := (some 236)) (v := ?_) (a' := ?_) (bb 16 15) rfl rfl (any_of HT_.out (by kernel_rfl)) (fun _ _ _ h => h) (Or.inl ⟨by rfl, ?_⟩) ?_ ?_
            rotate_left
            · intro w'
              go_simp
              with_reducible rfl
            rotate_left
            · simp only [Act.put, List.setIfInBounds_toArray, List.set_cons_zero, List.set_cons_succ, i64_w, i32_w]
              rfl
            refine pure_ (i := 4) (N := (some 237)) (v := ?_) (a' := ?_) (bb 16 31) rfl rfl (any_of HT_.out (by kernel_rfl)) (fun _ _ _ h => h) (Or.inl ⟨by rfl, ?_⟩) ?_ ?_
            rotate_left
            · intro w'
              go_simp
              with_reducible rfl
            rotate_left
            · simp only [Act.put, List.setIfInBounds_toArray, List.set_cons_zero, List.set_cons_succ, i64_w, i32_w]
              rfl
            refine pure_ (i := 5) (N := (some 238)) (v := ?_) (a' := ?_) (bb 16 63) rfl rfl (any_of HT_.out (by kernel_rfl)) (fun _ _ _ h => h) (Or.inl ⟨by rfl, ?_⟩) ?_ ?_
            rotate_left
            · intro w'
              go_simp
              with_reducible rfl
            rotate_left
            · simp only [Act.put, List.setIfInBounds_toArray, List.set_cons_zero, List.set_cons_succ, i64_w, i32_w]
              rfl
            refine pure_ (i := 6) (N := (some 239)) (v := ?_) (a' := ?_) (bb 16 127) rfl rfl (any_of HT_.out (by kernel_rfl)) (fun _ _ _ h => h) (Or.inl ⟨by rfl, ?_⟩) ?_ ?_
            rotate_left
            · intro w'
              go_simp
              with_reducible rfl
            rotate_left
            · simp only [Act.put, List.setIfInBounds_toArray, List.set_cons_zero, List.set_cons_succ, i64_w, i32_w]
              rfl
            refine take_ (i := 7) (N := (some 240)) (v := ?_) (a' := ?_) (bb 16 255) rfl rfl (take_ofW HT_.out HW_.out (by kernel_rfl)) (fun _ _ _ h => h) (Or.inl ⟨by rfl, ?_⟩) hHeld ?_ ?_
            rotate_left
            · intro w' s0
              (try dsimp only at s0)
              go_simp
              with_reducible rfl
            rotate_left
            · simp only [Act.put, List.setIfInBounds_toArray, List.set_cons_zero, List.set_cons_succ, i64_w, i32_w]
              rfl
            refine take_ (i := 8) (N := (some 241)) (v := ?_) (a' := ?_) (bb 16 511) rfl rfl (take_ofW HT_.out HW_.out (by kernel_rfl)) (fun _ _ _ h => h) (Or.inl ⟨by rfl, ?_⟩) hHeld ?_ ?_
            rotate_left
            · intro w' s0
              (try dsimp only at s0)
              go_simp
              with_reducible rfl
            rotate_left
            · simp only [Act.put, List.setIfInBounds_toArray, List.set_cons_zero, List.set_cons_succ, i64_w, i32_w]
              rfl
            refine pure_ (i := 9) (N := (some 242)) (v := ?_) (a' := ?_) (bb 16 1023) rfl rfl (any_of HT_.out (by kernel_rfl)) (fun _ _ _ h => h) (Or.inl ⟨by rfl, ?_⟩) ?_ ?_
            rotate_left
            · intro w'
              go_simp
              with_reducible rfl
            rotate_left
            · simp only [Act.put, List.setIfInBounds_toArray, List.set_cons_zero, List.set_cons_succ, i64_w, i32_w]
              rfl
            refine pure_ (i := 10) (N := (some 243)) (v := ?_) (a' := ?_) (bb 16 2047) rfl rfl (any_of HT_.out (by kernel_rfl)) (fun _ _ _ h => h) (Or.inl ⟨by rfl, ?_⟩) ?_ ?_
            rotate_left
            · intro w'
              go_simp
              with_reducible rfl
            rotate_left
            · simp only [Act.put, List.setIfInBounds_toArray, List.set_cons_zero, List.set_cons_succ, i64_w, i32_w]
              rfl
            refine pure_ (i := 11) (N := (some 244)) (v := ?_) (a' := ?_) (bb 16 4095) rfl rfl (any_of HT_.out (by kernel_rfl)) (fun _ _ _ h => h) (Or.inl ⟨by rfl, ?_⟩) ?_ ?_
            rotate_left
            · intro w'
              go_simp
              with_reducible rfl
            rotate_left
            · simp only [Act.put, List.setIfInBounds_toArray, List.set_cons_zero, List.set_cons_succ, i64_w, i32_w]
              rfl
            refine take_ (i := 12) (N := (some 245)) (v := ?_) (a' := ?_) (bb 16 8191) rfl rfl (take_ofW HT_.out HW_.out (by kernel_rfl)) (fun _ _ _ h => h) (Or.inl ⟨by rfl, ?_⟩) hHeld ?_ ?_
            rotate_left
            · intro w' s0
              (try dsimp only at s0)
              go_simp
              with_reducible rfl
            rotate_left
            · simp only [Act.put, List.setIfInBounds_toArray, List.set_cons_zero, List.set_cons_succ, i64_w, i32_w]
              rfl
            refine take_ (i := 13) (N := (some 246)) (v := ?_) (a' := ?_) (bb 16 16383) rfl rfl (take_ofW HT_.out HW_.out (by kernel_rfl)) (fun _ _ _ h => h) (Or.inl ⟨by rfl, ?_⟩) hHeld ?_ ?_
            rotate_left
            · intro w' s0
              (try dsimp only at s0)
              go_simp
              with_reducible rfl
            rotate_left
            · simp only [Act.put, List.setIfInBounds_toArray, List.set_cons_zero, List.set_cons_succ, i64_w, i32_w]
              rfl
            refine pure_ (i := 14) (N := (some 247)) (v := ?_) (a' := ?_) (bb 16 32767) rfl rfl (any_of HT_.out (by kernel_rfl)) (fun _ _ _ h => h) (Or.inl ⟨by rfl, ?_⟩) ?_ ?_
            rotate_left
            · intro w'
              go_simp
              with_reducible rfl
            rotate_left
            · simp only [Act.put, List.setIfInBounds_toArray, List.set_cons_zero, List.set_cons_succ, i64_w, i32_w]
              rfl
            refine pure_ (i := 15) (N := (some 248)) (v := ?_) (a' := ?_) (bb 16 65535) rfl rfl (any_of HT_.out (by kernel_rfl)) (fun _ _ _ h => h) (Or.inl ⟨by rfl, ?_⟩) ?_ ?_
            rotate_left
            · intro w'
              go_simp
              with_reducible rfl
            rotate_left
            · simp only [Act.put, List.setIfInBounds_toArray, List.set_cons_zero, List.set_cons_succ, i64_w, i32_w]
              rfl
            refine done_ (done_of HT_.out (by kernel_rfl)) ?_
            have HSe := Aside0.mk (HS.out.step HB.out)
            clear hHeld HB HS HK40 c9b0 c9b1
            go_wp2
            go_roundg (n - j - 1)
            case measure => have := HJ.out; have := HJ1.out; omega
            case rel => exact ⟨j + 1, (by have hi_ := HJ1.out; have hl_ := hnm; first | rfl | (simp; done)), ⟨by have := HJ.out; have := HJ1.out; omega⟩, HSe⟩
        · have hjb : decide (j < n) = false := decide_eq_false hj
          clear hj
          have HTu := Aside0.mk (Sep.turn HS.out i bit (show i < Y.n from by rw [HYn.out]; exact HI.out) HBIT.out)
          obtain ⟨Y2, hY2⟩ : ∃ x, x = Y.reads.turn i bit := ⟨_, rfl⟩
          have HY2n := Aside0.mk (show Y2.n = n from by rw [hY2]; exact HYn.out)
          rw [← hY2] at HTu HBK HSI
          clear hY2
          have HRd := Aside0.mk (fun W (L : List Th) (h : Sep w W (dkT g0 Y2 :: L)) => Sep.read h i (show i < Y2.n from by rw [HY2n.out]; exact HI.out))
          have HIM := Aside0.mk (fun W (L : List Th) (h : Sep w W (dkT g0 Y2.reads :: L)) => (show Calls Try.prog 26 #[.pointer (some ⟨g0, 0, none⟩)] W (fun e w' => ∃ go c, e = .returned (.slice (some ⟨go, 0, none⟩) n c) ∧ Sep w w' (rowsT KB 28 (.slice (some ⟨go, 0, none⟩) n c) Y2.L :: dkT g0 Y2.reads :: L)) from by
            have h_ := Sep.image h
            rw [show Y2.reads.n = n from HY2n.out] at h_
            exact h_))
          clear HS
          go_upto_region 45 with (first
            | (go_at_call 33; (with_reducible refine HTu.out.mono ?_); rintro e w30 ⟨rfl, h⟩; have HS30 := Aside0.mk h; clear h)
            | (go_at_call 25; (with_reducible refine (HRd.out _ _ (HS30.out.step (by repeat (first | exact Below.refl _ _ | apply below_drew1 | apply pw_below_drewN | apply below_alloc)))).mono ?_); rintro e w31 ⟨v31, rfl, h⟩; obtain ⟨A31, c31, e31⟩ := h.own_slice; subst e31; have HS31 := Aside0.mk h; clear h))
          clear HTu HRd HS30
          have hcv1 := (show (convert 28 9 (.slice A31 (Y2.cur i).length c31)).run Try.prog w31 = .ok (.string (strOfNums (Y2.cur i))) w31 from Kd.C_string (P := Try.prog) Try.underlying28 Try.underlying5 Try.underlying9 HS31.out.own_C.1)
          have hcv2 := (show (convert 28 9 (.slice A15 (Z.cur i).length c15)).run Try.prog w31 = .ok (.string (strOfNums (Z.cur i))) w31 from Kd.C_string (P := Try.prog) Try.underlying28 Try.underlying5 Try.underlying9 HS31.out.up2.own_C.1)
          have c9b0 : ((strOfNums (Y2.cur i)).toList == (strOfNums (Z.cur i)).toList) = true := beq_iff_eq.mpr HBK.out
          obtain ⟨ks, hks⟩ := HSI.out
          have HSMI := Aside0.mk (fun W go c (h : Sep w W [rowsT KB 28 (.slice (some ⟨go, 0, none⟩) n c) Y2.L, rowsT KB 28 (.slice (some ⟨bw, 0, none⟩) n cw) Z.L]) => (show Calls Try.prog 36 #[.slice (some ⟨go, 0, none⟩) n c, .slice (some ⟨bw, 0, none⟩) n cw] W (fun e w' => e = .returned (.bool true) ∧ Drawn0 W w') from by
            obtain ⟨_, _, r1⟩ := h.rows_own.own
            obtain ⟨_, _, r2⟩ := h.up1.rows_own.own
            obtain ⟨e1, f1, g1⟩ := Kd.R_reads' r1
            obtain ⟨e2, f2, g2⟩ := Kd.R_reads' r2
            have h_ := R.kilnref3_SameImage.calls ks (some ⟨go, 0, none⟩) c Y2.L (some ⟨bw, 0, none⟩) cw Z.L true W g1 (e1 ▸ f1) g2 (e2 ▸ f2) hks
            rw [← e1, ← e2] at h_
            exact h_))
          clear hks
          go_wp2_with (first
            | (go_at_call 26; (with_reducible refine (HIM.out _ _ HS31.out.up1).mono ?_); rintro e w32 ⟨go, c32, rfl, h⟩; have HS32 := Aside0.mk h; clear h)
            | (go_at_call 36; (with_reducible refine (HSMI.out _ _ _ (HS32.out.sel 6 [0, 5] _ rfl (by decide) rfl)).mono ?_); rintro e w33 ⟨rfl, hd⟩; have HB33 := Aside0.mk (show Below w32.heap.size w32 w33 from by obtain ⟨nd, rfl⟩ := hd; exact pw_below_drewN (Below.refl _ _) nd); clear hd))
          go_ret
          exact ⟨rfl, (HS32.out.step HB33.out).below⟩
end Go.Proofs.Ytddnhcnkjcdfgaa.M

namespace Go.Proofs.Ytddnhcnkjcdfgaa.M
open Go.RowKit Go.Maps Go.Proofs.YtddnhcnkjcdfgaaW.PrintWords Go.Proofs.YtddnhcnkjcdfgaaW.PrintLast Go.Proofs.YtddnhcnkjcdfgaaW.PrintMore
open Go.Proofs.Ytddnhcnkjcdfgaa.P
set_option linter.unusedVariables false
set_option linter.unusedSimpArgs false
def Byt (l : List Int) : Prop := ∀ b ∈ l, 0 ≤ b ∧ b < 256
theorem Byt.get {l : List Int} (h : Byt l) (q : Nat) : 0 ≤ l.getD q 0 ∧ l.getD q 0 < 256 := by
  rw [List.getD_eq_getElem?_getD]
  by_cases e : q < l.length
  · rw [List.getElem?_eq_getElem e]; exact h _ (List.getElem_mem e)
  · rw [List.getElem?_eq_none (by omega)]; decide
theorem Byt.set {l : List Int} (h : Byt l) (q : Nat) (v : Int) (hv : 0 ≤ v ∧ v < 256) : Byt (l.set q v) := by
  intro b hb
  rcases List.mem_or_eq_of_mem_set hb with e | e
  · exact h b e
  · rw [e]; exact hv
theorem byt_zeros : Byt zeros := fun b hb => by rw [List.eq_of_mem_replicate hb]; decide
theorem sector_l0b (x0 : List Int) (h0 : Byt x0) : ∀ (m : Nat) (x3 : List Int) (j : Nat), x3.length = 512 → Byt x3 → j + m = 512 → ∃ r, kilnlaw3_sector.l0 (m + 1) x0 x3 (j : Int) = some r ∧ r.length = 512 ∧ Byt r
  | 0, x3, j, hl, hb, hj => by
    unfold kilnlaw3_sector.l0
    rw [if_neg (by omega)]
    exact ⟨_, rfl, hl, hb⟩
  | m + 1, x3, j, hl, hb, hj => by
    unfold kilnlaw3_sector.l0
    rw [if_pos (by omega)]
    by_cases h1 : (x0.length : Int) > 0
    · rw [if_pos h1, if_neg (by omega), if_pos (Int.tmod_nonneg _ (by omega)), if_pos (Int.tmod_lt_of_pos _ h1), if_pos (by omega), w64 _ (by omega) (by omega)]
      exact sector_l0b x0 h0 m _ (j + 1) (by rw [List.length_set]; exact hl) (hb.set _ _ (h0.get _)) (by omega)
    · rw [if_neg h1]
      exact ⟨_, rfl, hl, hb⟩
theorem sector_okb (b : List Int) (hb : Byt b) (d : Nat) : ∃ r, kilnlaw3_sector.f (513 + d) b = some r ∧ r.length = 512 ∧ Byt r := by
  obtain ⟨r, h, hl, hr⟩ := sector_l0b b hb 512 (List.replicate 512 0) 0 (by rw [List.length_replicate]) byt_zeros (by omega)
  refine ⟨r, up_ (g := fun k => kilnlaw3_sector.f k b) (kilnlaw3_sector.mono b) 513 d r ?_, hl, hr⟩
  show kilnlaw3_sector.f 513 b = some r
  unfold kilnlaw3_sector.f
  rw [if_pos (by decide)]
  exact h
def BytS (l : List S30) : Prop := ∀ x ∈ l, Byt x.f1
theorem BytS.get {l : List S30} (h : BytS l) (j : Nat) (hj : j < l.length) : Byt (rd_T30 l (j : Int)).f1 := by
  unfold rd_T30
  rw [Int.toNat_natCast, List.getD_eq_getElem?_getD, List.getElem?_eq_getElem hj]
  exact h _ (List.getElem_mem hj)
theorem made_l0b (l1 : List S30) (hB : BytS l1) (n : Nat) (hn : 2 ≤ n) (hm : n ≤ 64) : ∀ (m : Nat) (x8 : List S30) (j : Nat), x8.length = j → j + m = 100 → Good n x8 → BytS x8 → ∃ k out, kilnlaw3_made.l0 k l1 (n : Int) x8 (j : Int) = some (0, (n : Int), out) ∧ out.length ≤ 100 ∧ Good n out ∧ BytS out
  | 0, x8, j, hl, hj, hg, hb => by
    refine ⟨2, x8, ?_, by omega, hg, hb⟩
    unfold kilnlaw3_made.l0
    rw [show decide ((j : Int) < 100) = false from decide_eq_false (by omega), made_end l1 n hn]
    split <;> rfl
  | m + 1, x8, j, hl, hj, hg, hb => by
    by_cases hc : (j : Int) < (l1.length : Int)
    · obtain ⟨r, hr, hr0, hr1⟩ := mod_ok (rd_T30 l1 (j : Int)).f0 (n : Int) (by omega) (by omega)
      obtain ⟨b, hb0, hbl, hbb⟩ := sector_okb (rd_T30 l1 (j : Int)).f1 (hB.get j (by omega)) 0
      obtain ⟨k, out, hk, ho, hgo, hbo⟩ := made_l0b l1 hB n hn hm m (x8 ++ [⟨r, b⟩]) (j + 1) (by rw [List.length_append]; simp [hl]) (by omega) (by
        intro x hx
        rcases List.mem_append.1 hx with h | h
        · exact hg x h
        · obtain rfl := List.mem_singleton.1 h
          exact ⟨⟨r.toNat, by omega, by show r = _; omega⟩, hbl⟩) (by
        intro x hx
        rcases List.mem_append.1 hx with h | h
        · exact hb x h
        · obtain rfl := List.mem_singleton.1 h
          exact hbb)
      refine ⟨k + 513 + 2, out, ?_, ho, hgo, hbo⟩
      unfold kilnlaw3_made.l0
      rw [if_pos hc, show decide ((j : Int) < 100) = true from decide_eq_true (by omega)]
      unfold kilnlaw3_made.j1
      rw [if_pos rfl, if_pos (by omega), if_pos hc, hr, Option.bind_some]
      have hb1 : kilnlaw3_sector.f (k + 513) (rd_T30 l1 (j : Int)).f1 = some b := by
        have := up_ (g := fun k => kilnlaw3_sector.f k (rd_T30 l1 (j : Int)).f1) (kilnlaw3_sector.mono _) 513 k b hb0
        rw [show k + 513 = 513 + k by omega]
        exact this
      rw [hb1, Option.bind_some, if_pos (by omega), w64 _ (by omega) (by omega)]
      have h_ := up_ (g := fun k => kilnlaw3_made.l0 k l1 (n : Int) (x8 ++ [⟨r, b⟩]) ((j + 1 : Nat) : Int)) (fun k => (kilnlaw3_made.mono_l k).1 _ _ _ _) k 513
      have h2_ := h_ _ hk
      rw [show (j : Int) + 1 = ((j + 1 : Nat) : Int) from by omega]
      with_reducible exact h2_
    · refine ⟨2, x8, ?_, by omega, hg, hb⟩
      unfold kilnlaw3_made.l0
      rw [if_neg hc, made_end l1 n hn]
theorem made_ok3 (a0 : Int) : ∃ n : Nat, 2 ≤ n ∧ n ≤ 64 ∧ ∀ l1 : List S30, BytS l1 → ∃ k out, kilnlaw3_made.f k a0 l1 = some (0, (n : Int), out) ∧ out.length ≤ 100 ∧ Good n out ∧ BytS out ∧ (l1 = [] → out = []) := by
  obtain ⟨r, hr, hr0, hr1⟩ := mod_ok a0 63 (by omega) (by omega)
  refine ⟨r.toNat + 2, by omega, by omega, fun l1 hB => ?_⟩
  by_cases e : l1 = []
  · subst e
    refine ⟨2, [], ?_, by simp, fun x hx => (by cases hx), fun x hx => (by cases hx), fun _ => rfl⟩
    unfold kilnlaw3_made.f
    rw [hr, Option.bind_some, w64 _ (by omega) (by omega), show 2 + r = ((r.toNat + 2 : Nat) : Int) by omega]
    unfold kilnlaw3_made.l0
    rw [if_neg (by simp), made_end [] _ (by omega)]
  · obtain ⟨k, out, hk, ho, hg, hb⟩ := made_l0b l1 hB (r.toNat + 2) (by omega) (by omega) 100 [] 0 rfl rfl (fun x hx => by cases hx) (fun x hx => by cases hx)
    refine ⟨k, out, ?_, ho, hg, hb, fun h => absurd h e⟩
    unfold kilnlaw3_made.f
    rw [hr, Option.bind_some, w64 _ (by omega) (by omega), show 2 + r = ((r.toNat + 2 : Nat) : Int) by omega]
    exact hk
def Sec (l : List Int) : Prop := l.length = 512 ∧ Byt l
structure DOk (s : DS) : Prop where
  len : s.L.length = s.n
  L : ∀ x ∈ s.L, Sec x
  W : ∀ i, i < s.n → ∀ x ∈ s.W i, Sec x
theorem DOk.getL {s : DS} (h : DOk s) (i : Nat) (hi : i < s.n) : Sec (s.L.getD i []) := by
  rw [List.getD_eq_getElem?_getD, List.getElem?_eq_getElem (by rw [h.len]; exact hi)]
  exact h.L _ (List.getElem_mem _)
theorem DOk.cur {s : DS} (h : DOk s) (i : Nat) (hi : i < s.n) : Sec (s.cur i) := by
  by_cases e : s.W i = []
  · rw [cur_nil e]; exact h.getL i hi
  · rw [cur_last e, List.getD_eq_getElem?_getD, List.getElem?_eq_getElem (by have := List.length_pos_iff.2 e; omega)]
    exact h.W i hi _ (List.getElem_mem _)
theorem DOk.fresh (n : Nat) : DOk (DS.fresh n (List.replicate n zeros)) :=
  ⟨List.length_replicate, fun x hx => by rw [List.eq_of_mem_replicate hx]; exact ⟨zeros_len, byt_zeros⟩, fun i _ x hx => by cases hx⟩
theorem DOk.put {s : DS} (h : DOk s) (i : Nat) (b : List Int) (hb : Sec b) : DOk (s.put i b) :=
  ⟨h.len, h.L, fun j hj x hx => by
    have hx : x ∈ (if j = i then s.W i ++ [b] else s.W j) := hx
    split at hx
    · rename_i e
      rcases List.mem_append.1 hx with h1 | h1
      · rw [← e] at h1; exact h.W j hj x h1
      · rw [List.mem_singleton.1 h1]; exact hb
    · exact h.W j hj x hx⟩
theorem DOk.puts {s : DS} (h : DOk s) (o : List S30) (n : Nat) (hg : Good n o) (hb : BytS o) : ∀ j, j ≤ o.length → DOk (puts s o j)
  | 0, _ => h
  | j + 1, hj => (DOk.puts h o n hg hb j (by omega)).put _ _ ⟨(hg.at_ j (by omega)).2, hb.get j (by omega)⟩
theorem DOk.flush {s : DS} (h : DOk s) : DOk s.flush :=
  ⟨by show ((List.range s.n).map s.cur).length = s.n; rw [List.length_map, List.length_range], fun x hx => by
    obtain ⟨i, hi, rfl⟩ := List.mem_map.1 (show x ∈ (List.range s.n).map s.cur from hx)
    exact h.cur i (List.mem_range.1 hi), fun i _ x hx => by cases hx⟩
theorem DOk.crash {s : DS} (h : DOk s) (fs : List Int) : DOk (s.crash fs) :=
  ⟨by show (crashL s fs _).length = s.n; rw [crashL_len]; exact h.len, fun x hx => by
    obtain ⟨i, hi⟩ := List.getElem?_of_mem (show x ∈ crashL s fs (min s.keysN.length fs.length) from hx)
    have hil : i < s.n := by have := (List.getElem?_eq_some_iff.1 hi).1; rw [crashL_len, h.len] at this; exact this
    have hx : x = (crashL s fs (min s.keysN.length fs.length)).getD i [] := by rw [List.getD_eq_getElem?_getD, hi]; rfl
    rcases crashL_is s fs i (min s.keysN.length fs.length) (Nat.min_le_left _ _) with e | e
    · rw [hx, e]; exact h.getL i hil
    · rw [hx]; exact h.W i hil _ e, fun i _ x hx => by cases hx⟩
theorem DOk.tZ (n : Nat) (o1 o2 : List S30) (hg1 : Good n o1) (hb1 : BytS o1) (hg2 : Good n o2) (hb2 : BytS o2) : DOk (tZ n o1 o2) :=
  (((DOk.fresh n).puts o1 n hg1 hb1 _ (Nat.le_refl _)).flush).puts o2 n hg2 hb2 _ (Nat.le_refl _)
theorem mskB_lt (r : Nat) (h : r < 8) : 0 ≤ mskB r ∧ mskB r < 256 := by
  rcases r with _ | _ | _ | _ | _ | _ | _ | _ | r <;> first | decide | omega
theorem xor_back (v m : Int) (hv : 0 ≤ v ∧ v < 256) (hm : 0 ≤ m ∧ m < 256) : bits .xor .u8 v (bits .xor .u8 v m) = m ∧ bits .xor .u8 (bits .xor .u8 v m) v = m ∧ bits .xor .u8 (bits .xor .u8 v m) m = v ∧ bits .xor .u8 v v = 0 ∧ 0 ≤ bits .xor .u8 v m ∧ bits .xor .u8 v m < 256 := by
  obtain ⟨a, rfl⟩ := Int.eq_ofNat_of_zero_le hv.1
  obtain ⟨b, rfl⟩ := Int.eq_ofNat_of_zero_le hm.1
  have hx : a ^^^ b < 2 ^ 8 := Nat.xor_lt_two_pow (by omega) (by omega)
  rw [u8_xor_nat a b (by omega) (by omega), u8_xor_nat a _ (by omega) (by omega), u8_xor_nat _ a (by omega) (by omega), u8_xor_nat _ b (by omega) (by omega), u8_xor_nat a a (by omega) (by omega)]
  refine ⟨?_, ?_, ?_, ?_, by omega, by omega⟩
  · rw [← Nat.xor_assoc, Nat.xor_self, Nat.zero_xor]
  · rw [Nat.xor_comm a b, Nat.xor_assoc, Nat.xor_self, Nat.xor_zero]
  · rw [Nat.xor_assoc, Nat.xor_self, Nat.xor_zero]
  · rw [Nat.xor_self]; rfl
theorem flipL_get (q : Nat) (m : Int) (l : List Int) (y : Nat) : (flipL q m l).getD y 0 = if y = q ∧ q < l.length then bits .xor .u8 (l.getD q 0) m else l.getD y 0 := by
  unfold flipL
  rw [List.getD_eq_getElem?_getD, List.getElem?_set]
  by_cases e : q = y
  · subst e
    rw [if_pos rfl]
    by_cases h : q < l.length
    · rw [if_pos h, if_pos ⟨rfl, h⟩, Option.getD_some]
    · rw [if_neg h, if_neg (fun h2 => h h2.2), List.getD_eq_getElem?_getD, List.getElem?_eq_none (by omega)]
  · rw [if_neg e, if_neg (fun h => e h.1.symm), List.getD_eq_getElem?_getD]
theorem flip_flip (q : Nat) (m : Int) (l : List Int) (hb : Byt l) (hm : 0 ≤ m ∧ m < 256) : flipL q m (flipL q m l) = l := by
  have h := (xor_back (l.getD q 0) m (hb.get q) hm).2.2.1
  by_cases e : q < l.length
  · have h1 := flipL_get q m l q
    rw [if_pos ⟨rfl, e⟩] at h1
    have h2 : flipL q m (flipL q m l) = (flipL q m l).set q (bits .xor .u8 ((flipL q m l).getD q 0) m) := rfl
    rw [h2, h1, h]
    unfold flipL
    rw [List.set_set, List.getD_eq_getElem?_getD, List.getElem?_eq_getElem e]
    exact List.set_getElem_self e
  · unfold flipL
    rw [List.set_eq_of_length_le (by rw [List.length_set]; omega), List.set_eq_of_length_le (by omega)]
theorem shl_msk (r : Nat) (h : r < 8) : shl .u8 1 (r : Int) = mskB r := by
  rcases r with _ | _ | _ | _ | _ | _ | _ | _ | r <;> first | rfl | decide | omega
theorem other_l0 (a b : List Int) (bit : Nat) (hbit : bit < 4096) (ha : a.length = 512) (hb : b.length = 512) (hx : ∀ y, y < 512 → bits .xor .u8 (a.getD y 0) (b.getD y 0) = if y = bit / 8 then mskB (bit % 8) else 0) : ∀ m y : Nat, y + m = 512 → R.kilnlaw3_other.l0 (m + 1) a b (bit : Int) (y : Int) = some true
  | 0, y, h => by
    unfold R.kilnlaw3_other.l0
    rw [if_neg (by omega)]
  | m + 1, y, h => by
    have ih := other_l0 a b bit hbit ha hb hx m (y + 1) (by omega)
    have hd : Int.tdiv (bit : Int) 8 = ((bit / 8 : Nat) : Int) := by rw [Int.tdiv_eq_ediv_of_nonneg (by omega)]; omega
    have hr : Int.tmod (bit : Int) 8 = ((bit % 8 : Nat) : Int) := by rw [Int.tmod_eq_emod_of_nonneg (by omega)]; omega
    have hxy := hx y (by omega)
    unfold R.kilnlaw3_other.l0
    rw [if_pos (by omega), if_pos (by omega), if_pos (by omega), if_pos (by omega), hd, hr, w64 _ (by omega) (by omega), w64 _ (by omega) (by omega)]
    show (if (y : Int) = _ then (if (0 : Int) ≤ _ then (if bits .xor .u8 (a.getD ((y : Int)).toNat 0) (b.getD ((y : Int)).toNat 0) = _ then _ else _) else _) else (if bits .xor .u8 (a.getD ((y : Int)).toNat 0) (b.getD ((y : Int)).toNat 0) = 0 then _ else _)) = _
    rw [Int.toNat_natCast, hxy]
    by_cases e : y = bit / 8
    · rw [if_pos (by omega), if_pos (by omega), if_pos e, shl_msk _ (by omega), if_pos rfl]
      exact ih
    · rw [if_neg (by omega), if_neg e, if_pos rfl]
      exact ih
theorem other_ok (a b : List Int) (bit : Nat) (hbit : bit < 4096) (ha : a.length = 512) (hb : b.length = 512) (hx : ∀ y, y < 512 → bits .xor .u8 (a.getD y 0) (b.getD y 0) = if y = bit / 8 then mskB (bit % 8) else 0) : ∃ k, R.kilnlaw3_other.f k a b (bit : Int) = some true := by
  refine ⟨514, ?_⟩
  unfold R.kilnlaw3_other.f
  rw [if_pos (by omega), show ((b.length : Int) != 512) = false from bne_eq_false_iff_eq.mpr (by omega)]
  have e : ∀ k, R.kilnlaw3_other.j0 (k + 1) a b (bit : Int) false = R.kilnlaw3_other.l0 k a b (bit : Int) 0 := fun k => by
    simp [R.kilnlaw3_other.j0]
  rw [e 513]
  exact other_l0 a b bit hbit ha hb hx 512 0 (by omega)
theorem other_flip (l : List Int) (h : Sec l) (bit : Nat) (hbit : bit < 4096) : (∃ k, R.kilnlaw3_other.f k l (flipL (bit / 8) (mskB (bit % 8)) l) (bit : Int) = some true) ∧ ∃ k, R.kilnlaw3_other.f k (flipL (bit / 8) (mskB (bit % 8)) l) l (bit : Int) = some true := by
  have hm := mskB_lt (bit % 8) (by omega)
  constructor
  · refine other_ok _ _ bit hbit h.1 (by rw [flipL_len]; exact h.1) (fun y hy => ?_)
    rw [flipL_get]
    by_cases e : y = bit / 8
    · rw [if_pos ⟨e, by rw [h.1]; omega⟩, if_pos e, e]
      exact (xor_back _ _ (h.2.get _) hm).1
    · rw [if_neg (fun h => e h.1), if_neg e]
      exact (xor_back _ _ (h.2.get _) hm).2.2.2.1
  · refine other_ok _ _ bit hbit (by rw [flipL_len]; exact h.1) h.1 (fun y hy => ?_)
    rw [flipL_get]
    by_cases e : y = bit / 8
    · rw [if_pos ⟨e, by rw [h.1]; omega⟩, if_pos e, e]
      exact (xor_back _ _ (h.2.get _) hm).2.1
    · rw [if_neg (fun h => e h.1), if_neg e]
      exact (xor_back _ _ (h.2.get _) hm).2.2.2.1
theorem turn_L (s : DS) (i bit : Nat) (hi : i < s.L.length) : (s.turn i bit).L.getD i [] = flipL (bit / 8) (mskB (bit % 8)) (s.L.getD i []) := by
  show (s.L.set i _).getD i [] = _
  rw [List.getD_eq_getElem?_getD, List.getElem?_set_self hi, Option.getD_some]
theorem turn_W (s : DS) (i bit : Nat) : (s.turn i bit).W i = (s.W i).map (flipL (bit / 8) (mskB (bit % 8))) := by
  show (if i = i then _ else _) = _
  rw [if_pos rfl]
theorem turn_cur (s : DS) (i bit : Nat) (hi : i < s.L.length) : (s.turn i bit).cur i = flipL (bit / 8) (mskB (bit % 8)) (s.cur i) := by
  by_cases e : s.W i = []
  · rw [cur_nil e, cur_nil (by rw [turn_W, e]; rfl), turn_L s i bit hi]
  · have e2 : (s.turn i bit).W i ≠ [] := by rw [turn_W]; intro h; exact e (List.map_eq_nil_iff.1 h)
    have hp := List.length_pos_iff.2 e
    rw [cur_last e, cur_last e2, turn_W, List.length_map, List.getD_eq_getElem?_getD, List.getElem?_map, List.getD_eq_getElem?_getD, List.getElem?_eq_getElem (by omega)]
    rfl
theorem turn_keys (s : DS) (i bit : Nat) : (s.turn i bit).keysN = s.keysN := by
  unfold DS.keysN
  show List.filter _ (List.range s.n) = _
  apply List.filter_congr
  intro x _
  by_cases e : x = i
  · rw [e, turn_W]
    by_cases e2 : s.W i = []
    · rw [e2]; rfl
    · have e3 : (s.W i).map (flipL (bit / 8) (mskB (bit % 8))) ≠ [] := fun h => e2 (List.map_eq_nil_iff.1 h)
      rw [decide_eq_true e3, decide_eq_true (show s.W i ≠ [] from e2)]
  · show decide ((if x = i then _ else s.W x) ≠ []) = _
    rw [if_neg e]
theorem getD_set_at (l : List (List Int)) (i : Nat) (v : List Int) (h : i < l.length) : (l.set i v).getD i [] = v := by rw [List.getD_eq_getElem?_getD, List.getElem?_set_self h, Option.getD_some]
theorem getD_map_at (l : List (List Int)) (f : List Int → List Int) (i : Nat) (h : i < l.length) : (l.map f).getD i [] = f (l.getD i []) := by rw [List.getD_eq_getElem?_getD, List.getElem?_map, List.getD_eq_getElem?_getD, List.getElem?_eq_getElem h]; rfl
theorem turn_crashL (s : DS) (fs : List Int) (i bit : Nat) (hi : i < s.L.length) : ∀ j, j ≤ s.keysN.length → (crashL (s.turn i bit) fs j).getD i [] = flipL (bit / 8) (mskB (bit % 8)) ((crashL s fs j).getD i [])
  | 0, _ => turn_L s i bit hi
  | j + 1, hj => by
    have ih := turn_crashL s fs i bit hi j (by omega)
    obtain ⟨hk1, hk2, _⟩ := key_at s j (by omega)
    have hp := List.length_pos_iff.2 hk2
    unfold crashL
    rw [turn_keys]
    by_cases hf : 1 ≤ fs.getD j 0
    · rw [if_pos hf, if_pos hf]
      by_cases e : s.keysN.getD j 0 = i
      · rw [e] at hp ⊢
        rw [turn_W, List.length_map, getD_set_at _ _ _ (by rw [crashL_len]; show i < (s.L.set i _).length; rw [List.length_set]; exact hi), getD_set_at _ _ _ (by rw [crashL_len]; exact hi), getD_map_at _ _ _ (by omega)]
      · rw [List.getD_eq_getElem?_getD, List.getElem?_set_ne e, ← List.getD_eq_getElem?_getD, ih, List.getD_eq_getElem?_getD (l := (crashL s fs j).set _ _), List.getElem?_set_ne e, ← List.getD_eq_getElem?_getD]
    · rw [if_neg hf, if_neg hf]
      exact ih
theorem turn_crash (s : DS) (fs : List Int) (i bit : Nat) (hi : i < s.L.length) : ((s.turn i bit).crash fs).cur i = flipL (bit / 8) (mskB (bit % 8)) ((s.crash fs).cur i) := by
  have h1 : ((s.turn i bit).crash fs).cur i = (crashL (s.turn i bit) fs (min (s.turn i bit).keysN.length fs.length)).getD i [] := rfl
  have h2 : (s.crash fs).cur i = (crashL s fs (min s.keysN.length fs.length)).getD i [] := rfl
  rw [h1, h2, turn_keys]
  exact turn_crashL s fs i bit hi _ (Nat.min_le_left _ _)
theorem same_l0 (l : List (List Int)) (hl : l.length ≤ 1000000) : ∀ m j, j + m = l.length → R.kilnref3_SameImage.l0 (m + 1) l l (j : Int) = some true
  | 0, j, h => by
    unfold R.kilnref3_SameImage.l0
    rw [if_neg (by omega)]
  | m + 1, j, h => by
    unfold R.kilnref3_SameImage.l0
    rw [if_pos (by omega), if_pos (by omega), if_pos (by omega), if_pos rfl, w64 _ (by omega) (by omega)]
    exact same_l0 l hl m (j + 1) (by omega)
theorem same_ok (l : List (List Int)) (hl : l.length ≤ 1000000) : R.kilnref3_SameImage.f (l.length + 1) l l = some true := by
  unfold R.kilnref3_SameImage.f
  rw [if_pos rfl]
  exact same_l0 l hl l.length 0 (by omega)
theorem turns_all (n : Nat) (o1 o2 : List S30) (hg1 : Good n o1) (hb1 : BytS o1) (hg2 : Good n o2) (hb2 : BytS o2) (fs : List Int) (i bit : Nat) (hi : i < n) (hnm : n ≤ 64) (hbit : bit < 4096) :
    (∃ k, R.kilnlaw3_other.f k ((tZ n o1 o2).cur i) (((tZ n o1 o2).reads.turn i bit).cur i) (bit : Int) = some true) ∧
    (∃ k, R.kilnlaw3_other.f k ((tZ n o1 o2).L.getD i []) (((tZ n o1 o2).reads.turn i bit).L.getD i []) (bit : Int) = some true) ∧
    (∀ j, j < n → j ≠ i → ((tZ n o1 o2).reads.turn i bit).L.getD j [] = (tZ n o1 o2).L.getD j []) ∧
    ((strOfNums ((((tZ n o1 o2).reads.turn i bit).reads.turn i bit).cur i)).toList = (strOfNums ((tZ n o1 o2).cur i)).toList) ∧
    (∃ k, R.kilnref3_SameImage.f k (((tZ n o1 o2).reads.turn i bit).reads.turn i bit).L (tZ n o1 o2).L = some true) ∧
    (∃ k, R.kilnlaw3_other.f k ((((tZ n o1 o2).turn i bit).crash fs).cur i) (((tZ n o1 o2).crash fs).cur i) (bit : Int) = some true) := by
  have hZ := DOk.tZ n o1 o2 hg1 hb1 hg2 hb2
  have hn := tZ_n n o1 o2
  generalize tZ n o1 o2 = Z at hZ hn ⊢
  subst hn
  have hil : i < Z.L.length := by rw [hZ.len]; exact hi
  have hm := mskB_lt (bit % 8) (by omega)
  have e1 : (Z.reads.turn i bit).cur i = flipL (bit / 8) (mskB (bit % 8)) (Z.cur i) := turn_cur Z.reads i bit hil
  have e2 : (Z.reads.turn i bit).L.getD i [] = flipL (bit / 8) (mskB (bit % 8)) (Z.L.getD i []) := turn_L Z.reads i bit hil
  have e3 : ((Z.reads.turn i bit).reads.turn i bit).cur i = Z.cur i := by
    have h_ := turn_cur (Z.reads.turn i bit).reads i bit (show i < (Z.L.set i _).length from by rw [List.length_set]; exact hil)
    rw [h_, show (Z.reads.turn i bit).reads.cur i = (Z.reads.turn i bit).cur i from rfl, e1, flip_flip _ _ _ (hZ.cur i hi).2 hm]
  have e4 : ((Z.reads.turn i bit).reads.turn i bit).L = Z.L := by
    show ((Z.L.set i _).set i (flipL _ _ ((Z.reads.turn i bit).L.getD i []))) = Z.L
    rw [List.set_set, e2, flip_flip _ _ _ (hZ.getL i hi).2 hm, List.getD_eq_getElem?_getD, List.getElem?_eq_getElem hil]
    exact List.set_getElem_self hil
  rw [e1, e2, e3, e4, turn_crash Z fs i bit hil]
  refine ⟨(other_flip _ (hZ.cur i hi) bit hbit).1, (other_flip _ (hZ.getL i hi) bit hbit).1, fun j hj hji => ?_, rfl, ?_, (other_flip _ ((hZ.crash fs).cur i hi) bit hbit).2⟩
  · show (Z.L.set i _).getD j [] = _
    rw [List.getD_eq_getElem?_getD, List.getElem?_set_ne (fun e => hji e.symm), ← List.getD_eq_getElem?_getD]
  · exact ⟨_, same_ok Z.L (by rw [hZ.len]; omega)⟩
open Classical in
noncomputable def turnsF (_k : Nat) (_a : Int) (l m : List S30) (_b _c : Int) (_f : List Int) : Option Bool := if BytS l ∧ BytS m then some true else none
theorem turns_row (k : Nat) (a0 : Int) (A1 : Option Addr) (c1 : Nat) (l1 : List S30) (A2 : Option Addr) (c2 : Nat) (l2 : List S30) (a3 a4 : Int) (A5 : Option Addr) (c5 : Nat) (fs : List Int) (r : Bool) (w : World)
    (hr1 : Kd.C k30 w A1 l1.length l1) (hc1 : l1.length ≤ c1) (hr2 : Kd.C k30 w A2 l2.length l2) (hc2 : l2.length ≤ c2) (hr5 : Kd.C (Kd.int .i64) w A5 fs.length fs) (hc5 : fs.length ≤ c5) (h : turnsF k a0 l1 l2 a3 a4 fs = some r) :
    Calls Try.prog 10 #[.int .i64 a0, .slice A1 l1.length c1, .slice A2 l2.length c2, .int .i64 a3, .int .i64 a4, .slice A5 fs.length c5] w fun e w' => e = .returned (.bool r) ∧ Below w.heap.size w w' := by
  unfold turnsF at h
  split at h
  · rename_i hB
    cases h
    obtain ⟨n, hn2, hnm, hm⟩ := made_ok3 a0
    obtain ⟨k1, o1, h1, hl1, hg1, hb1, _⟩ := hm l1 hB.1
    obtain ⟨k2, o2, h2, hl2, hg2, hb2, _⟩ := hm l2 hB.2
    obtain ⟨k3, o3, h3, _, _, _, e3⟩ := hm [] (fun x hx => by cases hx)
    obtain rfl := e3 rfl
    obtain ⟨i, hi, hi0, hi1⟩ := mod_ok a3 (n : Int) (by omega) (by omega)
    obtain ⟨i, rfl⟩ := Int.eq_ofNat_of_zero_le hi0
    obtain ⟨bit, hb, hb0, hb1'⟩ := mod_ok a4 4096 (by omega) (by omega)
    obtain ⟨bit, rfl⟩ := Int.eq_ofNat_of_zero_le hb0
    obtain ⟨p1, p2, p3, p4, p5, p6⟩ := turns_all n o1 o2 hg1 hb1 hg2 hb2 fs i bit (by omega) hnm (by omega)
    exact turns_calls k1 k2 k3 a0 A1 c1 l1 A2 c2 l2 a3 a4 A5 c5 fs w hr1 hc1 hr2 hc2 hr5 hc5 n o1 o2 h1 h2 h3 hn2 hnm hl1 hl2 hg1 hg2 i bit (by omega) (by omega) hi hb p1 p2 p3 p4 p5 p6
  · cases h
def BytW (l : List S30) : Prop := ∀ x ∈ l, ∀ b ∈ x.f1, (Lit.int .u8 b).wf = true
theorem BytW.S {l : List S30} (h : BytW l) : BytS l := fun x hx b hb => by
  have h1 := (Lit.wf_int_iff .u8 b).1 (h x hx b hb)
  have h2 : IntKind.min .u8 = 0 := rfl
  have h3 : IntKind.max .u8 = 255 := rfl
  rw [h2, h3] at h1
  omega
theorem turns_pure : ∀ (a0 : Int) (l1 l2 : List S30) (a3 a4 : Int) (fs : List Int), (Lit.int .i64 a0).wf = true → l1.length ≤ 9223372036854775807 → BytW l1 → l2.length ≤ 9223372036854775807 → BytW l2 → (Lit.int .i64 a3).wf = true → (Lit.int .i64 a4).wf = true → fs.length ≤ 9223372036854775807 → (∀ n ∈ fs, (Lit.int .i64 n).wf = true) → ∃ k, turnsF k a0 l1 l2 a3 a4 fs = some true := fun _ _ _ _ _ _ _ _ h1 _ h2 _ _ _ _ => ⟨0, if_pos ⟨h1.S, h2.S⟩⟩
end Go.Proofs.Ytddnhcnkjcdfgaa.M
namespace Go.Proofs.Ytddnhcnkjcdfgaa.Bulk
open Go.ChangeShapes Go.WideShapes Go.Proofs.YtddnhcnkjcdfgaaW.PrintWords Go.Proofs.Ytddnhcnkjcdfgaa.M
section
variable {H : Type} {enc : TypeId × Value → H} {W : World} {base : Nat} {spare : Nat → Bool} {held : Bool}
theorem opens_30b : Opens enc Try.prog W base spare held 30 Go.Proofs.Ytddnhcnkjcdfgaa.P.k30 (fun y _ => ∀ b ∈ y.f1, (Lit.int .u8 b).wf = true) := by
  intro fuel cs x h
  obtain ⟨xs, n, _, rfl, hl, hx, hf⟩ := DataW.trod_struct Try.underlying30 h
  rw [show Try.prog.cellsOf 30 = 2 by kernel_rfl] at hl
  obtain ⟨c0, c1, rfl⟩ : ∃ c0 c1, cs = [c0, c1] := two_of_len hl
  have hx2 : xs.length = 2 := hx
  obtain ⟨x0, x1, rfl⟩ : ∃ x0 x1, xs = [x0, x1] := two_of_len hx2
  have q3 : Try.prog.cellsOf 3 = 1 := by kernel_rfl
  have q28 : Try.prog.cellsOf 28 = 1 := by kernel_rfl
  have f0 : DataW.trod enc Try.prog W base spare held n 3 (([c0, c1].drop 0).take (Try.prog.cellsOf 3)) = some x0 := hf 0 _ rfl
  have f1 : DataW.trod enc Try.prog W base spare held n 28 (([c0, c1].drop 1).take (Try.prog.cellsOf 28)) = some x1 := hf 1 _ rfl
  rw [q3] at f0
  rw [q28] at f1
  obtain ⟨y0, k0, _⟩ := opens_int Try.underlying3 _ _ _ f0
  obtain ⟨y1, k1, hk1⟩ := opens_28 _ _ _ f1
  exact ⟨⟨y0, y1⟩, ⟨[c0], [c1], rfl, k0, k1⟩, hk1.2⟩
theorem arg_22b {a : Option Addr} {len cap : Nat} {dd : DataW H} {ps : List MemPlace}
    (h : DataW.Trod enc Try.prog W base spare held 22 (.slice a len cap) dd ps) : ∃ l, len = l.length ∧ l.length ≤ cap ∧ Kd.C Go.Proofs.Ytddnhcnkjcdfgaa.P.k30 W a l.length l ∧ l.length ≤ 9223372036854775807 ∧ BytW l := by
  obtain ⟨l, h1, h2, h3, h4, _, h5⟩ := arg_full (q := 30) (opens_slice Try.underlying22 (by kernel_rfl) (fun _ _ _ _ h => h) opens_30b) h
  exact ⟨l, h1, h2, h3, h4, h5.2⟩
end
end Go.Proofs.Ytddnhcnkjcdfgaa.Bulk

namespace Go.Proofs.YtddnhcnkjcdfgaaW.PrintWords
open Go.ChangeShapes Go.WideShapes
theorem sized_ints {H : Type} {enc : TypeId × Value → H} {P : Program} {W : World} {base : Nat} {spare : Nat → Bool} {held : Bool} {t e : TypeId} {k : IntKind} {a : Option Addr} {len cap : Nat} {d : DataW H} {ps : List MemPlace} {ts : List TypeId} {ds : List (DataW H)} {j : Nat}
    (hsz : (DataW.weightsEach P ts ds).all (· ≤ reachBytes) = true) (ht : ts[j]? = some t) (hd : ds[j]? = some d) (hu : P.underlying t = some (.slice e)) (he : P.underlying e = some (.int k)) (hc : P.cellsOf e = 1) {B : Nat} (hB : P.bytesOf e = B)
    (h : DataW.Trod enc P W base spare held t (.slice a len cap) d ps) : len * B ≤ 140737488351232 := by
  obtain ⟨fuel, hf⟩ := h
  rcases open_ints hu he hc hf with ⟨hcs, _⟩ | ⟨x, l, c, zs, hcs, _, hl, _, hz, hx, _, _⟩
  · simp [Value.cells] at hcs
    obtain ⟨rfl, rfl, rfl⟩ := hcs
    simp
  · simp [Value.cells] at hcs
    obtain ⟨rfl, rfl, rfl⟩ := hcs
    obtain ⟨hx, _⟩ := Prod.mk.inj hx
    subst hx
    have z := sized_slice hsz ht hd hu
    rw [hB] at z
    have hl2 : len ≤ zs.length := by
      rw [hz]
      split
      · exact hl
      · exact Nat.le_refl _
    have h1 : (lits (H := H) k (zs.take len)).length + (lits (H := H) k (zs.drop len)).length = zs.length := by
      simp [lits]
      omega
    rw [h1] at z
    exact Nat.le_trans (Nat.mul_le_mul_right _ hl2) z
end Go.Proofs.YtddnhcnkjcdfgaaW.PrintWords

namespace Go.Proofs.Ytddnhcnkjcdfgaa.diskTurns
open Go.ChangeShapes Go.WideShapes Go.ChangeAt Go.RowKit Go.Proofs.YtddnhcnkjcdfgaaW.PrintWords Go.Proofs.YtddnhcnkjcdfgaaW.PrintLast Go.Proofs.YtddnhcnkjcdfgaaW.PrintMore Go.Proofs.Ytddnhcnkjcdfgaa.P Go.Proofs.Ytddnhcnkjcdfgaa.M
set_option linter.unusedVariables false
theorem own : ownKnob Try.prog.godebug = none := by kernel_rfl
theorem laidOut : laidOutB Try.prog = true := by kernel_rfl
def IsRow (k : IntKind) (w : World) (a : Option Addr) (len cap : Nat) (zs : List Int) : Prop :=
  (a = none ∧ len = 0 ∧ cap = 0 ∧ zs = []) ∨
  ∃ x, a = some x ∧ len ≤ cap ∧ cap ≤ maxLen ∧ zs.length = cap ∧ (∀ i, i < zs.length → w.cell? (x.add i) = some (.int k (zs.getD i 0))) ∧ ∀ n ∈ zs, (Lit.int k n).wf = true
set_option maxRecDepth 100000 in
theorem contract (H : Type) (enc : TypeId × Value → H) (W : World) (base : Nat) (args : Array Value) (ds gs : List (DataW H)) (before : List MemPlace)
    (hval : ∀ (j : Nat) t v, Try.f10.params[j]? = some t → args[j]? = some v → Value.okWide Try.prog W .any base t v)
    (hW : DataW.Whole enc Try.prog Try.f10.params.toList Rows.diskTurnsSpec.vars false W args.toList ds gs before)
    (hsz0 : (DataW.weightsEach Try.prog (Try.f10.params.toList ++ Rows.diskTurnsSpec.plain.varTypes Try.prog) (ds ++ gs)).all (· ≤ reachBytes) = true)
    (hL : laidMetH Try.prog Rows.diskTurnsRow.laid W) :
    Calls Try.prog 10 args W fun e W' => ∃ v, e = .returned v ∧ Rows.diskTurnsSpec.post enc Try.prog Try.f10 false true false false W args v W' := by
  have hW' := hW
  have hsz : (DataW.weightsEach Try.prog (Try.f10.params.toList ++ Rows.diskTurnsSpec.plain.varTypes Try.prog) (ds ++ gs)).all (· ≤ reachBytes) = true := hsz0
  obtain ⟨p, q, hA0, hV, rfl, hfz, hnd⟩ := hW
  have hA : DataW.TrodAll enc Try.prog W 0 (fun _ => true) true Try.f10.params.toList args.toList ds p := hA0
  rw [Try.params10] at hA hval hsz
  obtain ⟨v0, vs0, d0, ds0, p0, q0, hargs, rfl, rfl, h0, r0⟩ := trodAll_cons hA
  obtain ⟨v1, vs1, d1, ds1, p1, q1, rfl, rfl, rfl, h1, r1⟩ := trodAll_cons r0
  obtain ⟨v2, vs2, d2, ds2, p2, q2, rfl, rfl, rfl, h2, r2⟩ := trodAll_cons r1
  obtain ⟨v3, vs3, d3, ds3, p3, q3, rfl, rfl, rfl, h3, r3⟩ := trodAll_cons r2
  obtain ⟨v4, vs4, d4, ds4, p4, q4, rfl, rfl, rfl, h4, r4⟩ := trodAll_cons r3
  obtain ⟨v5, vs5, d5, ds5, p5, q5, rfl, rfl, rfl, h5, r5⟩ := trodAll_cons r4
  obtain ⟨rfl, rfl, rfl⟩ := trodAll_nil r5
  obtain rfl : args = #[v0, v1, v2, v3, v4, v5] := by cases args; simp_all
  obtain ⟨rfl, rfl⟩ := trodVars_none hV
  obtain ⟨a0, rfl, rfl, rfl, w0⟩ := open_int Try.underlying3 (hval 0 3 v0 rfl rfl) h0
  obtain ⟨a1, len1, cap1, rfl⟩ := okWide_slice Try.underlying22 (hval 1 22 v1 rfl rfl)
  have k1 := h1
  have lt1 : ∀ x ∈ p1, x.block < W.heap.size := by obtain ⟨m, hm⟩ := k1; exact DataW.trod_lt m _ _ _ hm
  obtain ⟨l1, rfl, hc1, hr1, hn1, hw1⟩ := Bulk.arg_22b h1
  obtain ⟨a2, len2, cap2, rfl⟩ := okWide_slice Try.underlying22 (hval 2 22 v2 rfl rfl)
  have k2 := h2
  have lt2 : ∀ x ∈ p2, x.block < W.heap.size := by obtain ⟨m, hm⟩ := k2; exact DataW.trod_lt m _ _ _ hm
  obtain ⟨l2, rfl, hc2, hr2, hn2, hw2⟩ := Bulk.arg_22b h2
  obtain ⟨a3, rfl, rfl, rfl, w3⟩ := open_int Try.underlying3 (hval 3 3 v3 rfl rfl) h3
  obtain ⟨a4, rfl, rfl, rfl, w4⟩ := open_int Try.underlying3 (hval 4 3 v4 rfl rfl) h4
  obtain ⟨a5, len5, cap5, rfl⟩ := okWide_slice Try.underlying51 (hval 5 51 v5 rfl rfl)
  have k5 := h5
  have lt5 : ∀ x ∈ p5, x.block < W.heap.size := by obtain ⟨m, hm⟩ := k5; exact DataW.trod_lt m _ _ _ hm
  obtain ⟨z5, w5⟩ : ∃ zs, IsRow .i64 W a5 len5 cap5 zs := by
    obtain ⟨fuel, hf⟩ := h5
    rcases open_ints Try.underlying51 Try.underlying3 (by kernel_rfl) hf with ⟨hcs, _⟩ | ⟨x, l, c, zs, hcs, _, hl, hm, hz, _, hcell, hwz⟩
    · simp [Value.cells] at hcs
      obtain ⟨rfl, rfl, rfl⟩ := hcs
      exact ⟨[], .inl ⟨rfl, rfl, rfl, rfl⟩⟩
    · simp [Value.cells] at hcs
      obtain ⟨rfl, rfl, rfl⟩ := hcs
      exact ⟨zs, .inr ⟨_, rfl, hl, hm, by simpa using hz, hcell, hwz⟩⟩
  have y5 : len5 * 8 ≤ 140737488351232 := Go.Proofs.YtddnhcnkjcdfgaaW.PrintWords.sized_ints hsz (j := 5) (t := 51) rfl rfl Try.underlying51 Try.underlying3 (by kernel_rfl) (by kernel_rfl) h5
  obtain ⟨l5, rfl, hr5, hm5, hw5, hc5⟩ := ReadsInt.ofRowC w5
  clear hA0 hsz0 hsz
  obtain ⟨k, h⟩ := M.turns_pure a0 l1 l2 a3 a4 l5 w0 (by omega) hw1 (by omega) hw2 w3 w4 (by omega) hw5
  refine (M.turns_row k a0 _ _ l1 _ _ l2 a3 a4 _ _ l5 true W hr1 hc1 hr2 hc2 (Kd.C_of_reads (d := (0 : Int)) (h1 := fun _ => rfl) hr5) hc5 h).mono ?_
  rintro e W' ⟨rfl, bel⟩
  exact ⟨_, rfl, _, _, _, [], _, [], hW', trodAll_mk1 (shut_bool Try.underlying4 _), (trodAll_cons_mk (shut_int Try.underlying3 w0) (trodAll_cons_mk (Below.trod laidOut (by kernel_rfl) (of_decide_eq_true (by kernel_rfl)) k1 bel lt1) (trodAll_cons_mk (Below.trod laidOut (by kernel_rfl) (of_decide_eq_true (by kernel_rfl)) k2 bel lt2) (trodAll_cons_mk (shut_int Try.underlying3 w3) (trodAll_cons_mk (shut_int Try.underlying3 w4) (trodAll_cons_mk (Below.trod laidOut (by kernel_rfl) (of_decide_eq_true (by kernel_rfl)) k5 bel lt5) trodAll_mk0)))))), rfl, bel.frame _, fun h => by cases h⟩
noncomputable def laidWorld (os : Os) : World := World.holding Try.prog os ⟨#[], #[], []⟩
theorem laid_met (os : Os) : laidMet Try.prog Rows.diskTurnsRow.laid ((laidWorld os).forCall (fun _ _ => 0) ⟨#[], #[.int .i64 0, .slice none 0 0, .slice none 0 0, .int .i64 0, .int .i64 0, .slice none 0 0], []⟩).memory :=
  laidMet_of_run' 8 (by kernel_rfl) (by kernel_rfl)
theorem reads (os : Os) {H : Type} (enc : TypeId × Value → H) : ∃ places, DataW.whole enc Try.prog ((laidWorld os).forCall (fun _ _ => 0) ⟨#[], #[.int .i64 0, .slice none 0 0, .slice none 0 0, .int .i64 0, .int .i64 0, .slice none 0 0], []⟩).memory Try.f10.params.toList Rows.diskTurnsSpec.vars false (#[.int .i64 0, .slice none 0 0, .slice none 0 0, .int .i64 0, .int .i64 0, .slice none 0 0] : Array Value).toList 8 = some ([.lit (.int .i64 0), .nil, .nil, .lit (.int .i64 0), .lit (.int .i64 0), .nil], [], places) :=
  ⟨[], by kernel_rfl⟩
set_option maxRecDepth 100000 in
theorem lifted (os : Os) (started : os.Started) (H : Type) (enc : TypeId × Value → H) (F : Stop.Interp) :
    ReturnsInHanded {} Try.checked os 10 .any ((OpenSpec.ofChange Rows.diskTurnsSpec).preRow enc Try.prog Try.f10 Rows.diskTurnsRow.domain false Rows.diskTurnsRow.laid) (((OpenSpec.ofChange Rows.diskTurnsSpec).at F).post enc Try.prog Try.f10 false true false false) := by
  obtain ⟨places, hx⟩ := reads os enc
  refine returnsInHanded_of_row (C := Try.checked) (s := OpenSpec.ofChange Rows.diskTurnsSpec) own started (by kernel_rfl) Try.func10
    (witness_row_at (enc := enc) (C := Try.checked) false (laidWorld os) #[.int .i64 0, .slice none 0 0, .slice none 0 0, .int .i64 0, .int .i64 0, .slice none 0 0] rfl (by kernel_rfl) (by kernel_rfl) (by kernel_rfl)
      (OpenSpec.preRow_of_cond 8 hx (by kernel_rfl) (fun k hk => by cases hk) (by kernel_rfl) (laid_met os))) ?_
  intro W base args ds gs before hval hW _ hcond hsz hL _ _
  exact contract H enc W base args ds gs before hval hW hsz hL
theorem said : Rows.DiskTurnsSaid :=
  OpenClaim.holds_of_cond 10 Try.f10 rfl rfl rfl rfl rfl rfl rfl ⟨rfl, rfl, rfl, rfl, rfl⟩ rfl rfl rfl rfl rfl (by kernel_rfl) Try.func10 (by kernel_rfl)
    (of_decide_eq_true (by kernel_rfl)) (by unfold Func.isWrapper; first | (rw [if_pos (by decide +kernel)]; kernel_rfl) | (rw [if_neg (by decide +kernel)]; exact ⟨rfl, rfl⟩))
    (fun os started H enc _ F => by rw [OpenClaim.pre_eq_preRow]; exact lifted os started H enc F)
#print axioms said
end Go.Proofs.Ytddnhcnkjcdfgaa.diskTurns
namespace Go.Proofs.Ytddnhcnkjcdfgaa
theorem diskTurns_holds : Rows.DiskTurnsSaid := diskTurns.said
end Go.Proofs.Ytddnhcnkjcdfgaa
