-- written by programs of this session
import Derived.Test.YthmnomdjpbfefaaDoorSUx0
namespace Go.Proofs.YthmnomdjpbfefaaDoor.U
open Go.Proofs.YthmnomdjpbfefaaDoor.M Go.Proofs.YthmnomdjpbfefaaDoor.P
open Go.RowKit Go.Proofs.YthmnomdjpbfefaaDoorW.PrintWords Go.Proofs.YthmnomdjpbfefaaDoorW.PrintLast Go.Proofs.YthmnomdjpbfefaaDoorW.PrintMore
attribute [local go_sem] max2_int min2_int max_two min_two max_three min_three max_four min_four   -- for this text's walks alone
set_option linter.unusedVariables false
set_option linter.unusedSimpArgs false
mutual
def kilnlaw1_WireSums.j0 : Nat → List (List Int) → List Int → List Int → List Int → Bool → Option (Bool)
  | 0, _, _, _, _, _ => none
  | k + 1, x0, x1, x2, x3, x25 => if x25 = true then (some false) else (kilnlaw1_WireSums.l0 k x0 x1 x2 x3 (mn (mn (x1.length : Int) (x2.length : Int)) (x3.length : Int)) ([] : List Int) 0)
def kilnlaw1_WireSums.l0 : Nat → List (List Int) → List Int → List Int → List Int → Int → List Int → Int → Option (Bool)
  | 0, _, _, _, _, _, _, _ => none
  | k + 1, x0, x1, x2, x3, x9, x10, x11 => if x11 < x9 then (if 0 ≤ x11 then (if x11 < (x1.length : Int) then (if x11 < (x2.length : Int) then (if x11 < (x3.length : Int) then (if x10.length < 140737488355328 then (kilnlaw1_WireSums.l0 k x0 x1 x2 x3 x9 (x10 ++ [Go.bits .xor .u8 (Go.bits .xor .u8 (rd x1 x11) (rd x2 x11)) (rd x3 x11)]) (wrap64 (x11 + 1))) else (none)) else (none)) else (none)) else (none)) else (none)) else ((V.sum1.f x10).bind fun t175 => (if 0 ≤ x9 then (if x9 ≤ (x1.length : Int) then ((V.sum1.f (x1.take (x9 : Int).toNat)).bind fun t181 => (if x9 ≤ (x2.length : Int) then ((V.sum1.f (x2.take (x9 : Int).toNat)).bind fun t187 => (if x9 ≤ (x3.length : Int) then ((V.sum1.f (x3.take (x9 : Int).toNat)).bind fun t189 => (if t175 = (Go.bits .xor .u32 (Go.bits .xor .u32 t181 t187) t189) then ((kilnlaw1_started.f k).bind fun t190 => (if t190 = true then ((wire_Sum.f x0).bind fun t191 => ((kilnlaw1_join.f k x0).bind fun t192 => ((wire_Sum.f (([t192] : List (List Int)))).bind fun t198 => (if t191 = t198 then ((wire_Sum.f (([x1, x2] : List (List Int)))).bind fun t202 => ((kilnlaw1_join.f k (([x1, x2] : List (List Int)))).bind fun t206 => ((wire_Sum.f (([t206] : List (List Int)))).bind fun t212 => (some (t202 == t212))))) else (some false))))) else (some false))) else (some false))) else (none))) else (none))) else (none)) else (none)))
end
def kilnlaw1_WireSums.f (k : Nat) (l0 : List (List Int)) (l1 : List Int) (l2 : List Int) (l3 : List Int) : Option (Bool) := (wire_Sum.f (([(([49, 50, 51, 52] : List Int)), [], (([53, 54, 55, 56, 57] : List Int))] : List (List Int)))).bind fun t163 => (if t163 = 3421780262 then ((wire_Sum.f ([] : List (List Int))).bind fun t164 => (if t164 = 0 then ((wire_Sum.f (([[], []] : List (List Int)))).bind fun t168 => (kilnlaw1_WireSums.j0 k l0 l1 l2 l3 (t168 != 0))) else (kilnlaw1_WireSums.j0 k l0 l1 l2 l3 true))) else (kilnlaw1_WireSums.j0 k l0 l1 l2 l3 true))
theorem kilnlaw1_WireSums.mono_l : ∀ k, (∀ y0 y1 y2 y3 y4, LeO (kilnlaw1_WireSums.j0 k y0 y1 y2 y3 y4) (kilnlaw1_WireSums.j0 (k + 1) y0 y1 y2 y3 y4)) ∧ (∀ y0 y1 y2 y3 y4 y5 y6, LeO (kilnlaw1_WireSums.l0 k y0 y1 y2 y3 y4 y5 y6) (kilnlaw1_WireSums.l0 (k + 1) y0 y1 y2 y3 y4 y5 y6))
  | 0 => ⟨fun _ _ _ _ _ r h => by simp [kilnlaw1_WireSums.j0] at h, fun _ _ _ _ _ _ _ r h => by simp [kilnlaw1_WireSums.l0] at h⟩
  | k + 1 => by
    obtain ⟨ih0, ih1⟩ := kilnlaw1_WireSums.mono_l k
    refine ⟨?_, ?_⟩
    · intro y0 y1 y2 y3 y4
      unfold kilnlaw1_WireSums.j0
      repeat' first
      | (with_reducible exact ih0 _ _ _ _ _)
      | (with_reducible exact ih1 _ _ _ _ _ _ _)
      | (with_reducible exact kilnlaw1_join.mono _ _)
      | (with_reducible exact kilnlaw1_started.mono _)
      | (with_reducible exact LeO.refl _)
      | (with_reducible exact LeO.none _)
      | (with_reducible refine LeO.ite ?_ ?_)
      | (with_reducible refine LeO.bind ?_ (fun _ => ?_))
      | exact ih0 _ _ _ _ _
      | exact ih1 _ _ _ _ _ _ _
      | exact kilnlaw1_join.mono _ _
      | exact kilnlaw1_started.mono _
      | exact LeO.none _
      | refine LeO.ite ?_ ?_
      | refine LeO.bind ?_ (fun _ => ?_)
    · intro y0 y1 y2 y3 y4 y5 y6
      unfold kilnlaw1_WireSums.l0
      repeat' first
      | (with_reducible exact ih0 _ _ _ _ _)
      | (with_reducible exact ih1 _ _ _ _ _ _ _)
      | (with_reducible exact kilnlaw1_join.mono _ _)
      | (with_reducible exact kilnlaw1_started.mono _)
      | (with_reducible exact LeO.refl _)
      | (with_reducible exact LeO.none _)
      | (with_reducible refine LeO.ite ?_ ?_)
      | (with_reducible refine LeO.bind ?_ (fun _ => ?_))
      | exact ih0 _ _ _ _ _
      | exact ih1 _ _ _ _ _ _ _
      | exact kilnlaw1_join.mono _ _
      | exact kilnlaw1_started.mono _
      | exact LeO.none _
      | refine LeO.ite ?_ ?_
      | refine LeO.bind ?_ (fun _ => ?_)
theorem kilnlaw1_WireSums.mono : ∀ a0 a1 a2 a3 k, LeO (kilnlaw1_WireSums.f k a0 a1 a2 a3) (kilnlaw1_WireSums.f (k + 1) a0 a1 a2 a3) := by
  intro a0 a1 a2 a3 k
  obtain ⟨ih0, ih1⟩ := kilnlaw1_WireSums.mono_l k
  unfold kilnlaw1_WireSums.f
  repeat' first
      | (with_reducible exact ih0 _ _ _ _ _)
      | (with_reducible exact ih1 _ _ _ _ _ _ _)
      | (with_reducible exact kilnlaw1_join.mono _ _)
      | (with_reducible exact kilnlaw1_started.mono _)
      | (with_reducible exact LeO.refl _)
      | (with_reducible exact LeO.none _)
      | (with_reducible refine LeO.ite ?_ ?_)
      | (with_reducible refine LeO.bind ?_ (fun _ => ?_))
      | exact ih0 _ _ _ _ _
      | exact ih1 _ _ _ _ _ _ _
      | exact kilnlaw1_join.mono _ _
      | exact kilnlaw1_started.mono _
      | exact LeO.none _
      | refine LeO.ite ?_ ?_
      | refine LeO.bind ?_ (fun _ => ?_)
def kilnlaw1_WireSums.T8 : Bool × List (List Nat × List Nat) := (true, [([], []), ([], []), ([], []), ([1, 2], [1, 2]), ([3], [3]), ([], []), ([], []), ([5, 6], [5, 6]), ([7], [7]), ([4, 8], [4, 8]), ([], []), ([], []), ([10, 11], [10, 11]), ([12], [12]), ([9, 13], [9, 13]), ([14], [14]), ([0, 15], [0, 15]), ([16, 16, 0, 1, 2, 3, 4, 5, 6, 7, 8, 9, 10, 11, 12, 13, 14, 15, 16], [0, 16])])
def kilnlaw1_WireSums.B8 : List Nat := [0, 0, 0, 6, 14, 0, 0, 96, 224, 510, 0, 0, 3072, 7168, 16382, 32766, 65535, 131071]
theorem kilnlaw1_WireSums.tab8 : rtab .any (opsOf Tryd.f3 8) = kilnlaw1_WireSums.T8 := by kernel_rfl
theorem kilnlaw1_WireSums.bits8 : waitsOk kilnlaw1_WireSums.T8.2 kilnlaw1_WireSums.B8 = true := by kernel_rfl
def kilnlaw1_WireSums.T9 : Bool × List (List Nat × List Nat) := (true, [([], []), ([0], [0]), ([1], [1]), ([], []), ([], []), ([3, 4], [3, 4]), ([5], [5]), ([6, 2], [6]), ([], []), ([], []), ([8, 9], [8, 9]), ([10], [10]), ([11, 7], [11]), ([7, 12], [7, 12]), ([], []), ([], []), ([14, 15], [14, 15]), ([16], [16]), ([17, 12], [17]), ([13, 18], [13, 18]), ([2, 19], [2, 19])])
def kilnlaw1_WireSums.B9 : List Nat := [0, 1, 3, 0, 0, 24, 56, 127, 0, 0, 768, 1792, 4095, 8191, 0, 0, 49152, 114688, 253951, 524287, 1048575]
theorem kilnlaw1_WireSums.tab9 : rtab .any (opsOf Tryd.f3 9) = kilnlaw1_WireSums.T9 := by kernel_rfl
theorem kilnlaw1_WireSums.bits9 : waitsOk kilnlaw1_WireSums.T9.2 kilnlaw1_WireSums.B9 = true := by kernel_rfl
set_option maxHeartbeats 8000000 in
set_option maxRecDepth 100000 in
theorem kilnlaw1_WireSums.calls (k : Nat) (A0 : Option Addr) (c0 : Nat) (l0 : List (List Int)) (P1_ : Nat → Prop) (A1 : Option Addr) (c1 : Nat) (l1 : List Int) (P2_ : Nat → Prop) (A2 : Option Addr) (c2 : Nat) (l2 : List Int) (A3 : Option Addr) (c3 : Nat) (l3 : List Int) (r : Bool) (w : World) (hr0 : Kd.C (Kd.slice 5 (Kd.int .u8)) w A0 l0.length l0) (hc0 : l0.length ≤ c0) (hs1 : Kd.V (Kd.int .u8) 5 w w.heap.size (fun k_ => P1_ k_) (.slice A1 l1.length c1) l1) (hs2 : Kd.V (Kd.int .u8) 5 w w.heap.size (fun k_ => P2_ k_) (.slice A2 l2.length c2) l2) (hr3 : Kd.C (Kd.int .u8) w A3 l3.length l3) (hc3 : l3.length ≤ c3) (hG : Half w) (h : kilnlaw1_WireSums.f k l0 l1 l2 l3 = some r) :
    Calls Tryd.prog 3 #[.slice A0 l0.length c0, .slice A1 l1.length c1, .slice A2 l2.length c2, .slice A3 l3.length c3] w fun e w' => e = .returned (.bool r) ∧ Below w.heap.size w w' := by
  have HR0 := Aside0.mk hr0
  have HC0 := Aside0.mk hc0
  clear hr0 hc0
  have HO1 := Aside0.mk (show Kd.V (Kd.int .u8) 5 w w.heap.size (fun k_ => ((P1_ k_ ∨ P2_ k_) ∨ w.heap.size ≤ k_)) (.slice A1 l1.length c1) l1 from Kd.V_mono hs1 (fun k_ hk => .inl (.inl hk)))
  have HO2 := Aside0.mk (show Kd.V (Kd.int .u8) 5 w w.heap.size (fun k_ => ((P1_ k_ ∨ P2_ k_) ∨ w.heap.size ≤ k_)) (.slice A2 l2.length c2) l2 from Kd.V_mono hs2 (fun k_ hk => .inl (.inr hk)))
  have HR3 := Aside0.mk hr3
  have HC3 := Aside0.mk hc3
  clear hr3 hc3
  have HG := Aside0.mk hG
  clear hG
  have HB := Aside0.mk (Below.refl w.heap.size w)
  have H : ((wire_Sum.f (([(([49, 50, 51, 52] : List Int)), [], (([53, 54, 55, 56, 57] : List Int))] : List (List Int)))).bind fun t163 => (if t163 = 3421780262 then ((wire_Sum.f ([] : List (List Int))).bind fun t164 => (if t164 = 0 then ((wire_Sum.f (([[], []] : List (List Int)))).bind fun t168 => (kilnlaw1_WireSums.j0 k l0 l1 l2 l3 (t168 != 0))) else (kilnlaw1_WireSums.j0 k l0 l1 l2 l3 true))) else (kilnlaw1_WireSums.j0 k l0 l1 l2 l3 true))) = some r := h
  clear h
  have HC5 := Aside0.mk H
  clear H
  go_enter Tryd.func3, Tryd.ntmps3
  go_upto_region 1 with (fail)
  go_cut [25] (fun v25 wc => ∃ (kq : Nat) (x25_4 : Bool), v25 = .bool x25_4 ∧ Aside0 (kilnlaw1_WireSums.j0 kq l0 l1 l2 l3 x25_4 = some r) ∧ Aside0 (kq ≤ k) ∧ Aside0 (Kd.V (Kd.int .u8) 5 wc w.heap.size (fun k_ => ((P1_ k_ ∨ P2_ k_) ∨ w.heap.size ≤ k_)) (.slice A1 l1.length c1) l1) ∧ Aside0 (Kd.V (Kd.int .u8) 5 wc w.heap.size (fun k_ => ((P1_ k_ ∨ P2_ k_) ∨ w.heap.size ≤ k_)) (.slice A2 l2.length c2) l2) ∧ Aside0 (Below w.heap.size w wc))
  case first =>
    have H := HC5.out
    clear HC5
    obtain ⟨y154, hy154⟩ : ∃ y_ : List Int, y_ = (([49, 50, 51, 52] : List Int)) := ⟨_, rfl⟩
    replace H : ((wire_Sum.f (([y154, [], (([53, 54, 55, 56, 57] : List Int))] : List (List Int)))).bind fun t163 => (if t163 = 3421780262 then ((wire_Sum.f ([] : List (List Int))).bind fun t164 => (if t164 = 0 then ((wire_Sum.f (([[], []] : List (List Int)))).bind fun t168 => (kilnlaw1_WireSums.j0 k l0 l1 l2 l3 (t168 != 0))) else (kilnlaw1_WireSums.j0 k l0 l1 l2 l3 true))) else (kilnlaw1_WireSums.j0 k l0 l1 l2 l3 true))) = some r := by first | (rw [hy154]; with_reducible exact H) | (have H2_ := (Option.bind_some _ _).symm.trans H; rw [hy154]; with_reducible exact H2_) | (have H2_ := (Option.bind_some _ _).symm.trans H; with_reducible exact H2_) | with_reducible exact H | (rw [hy154]; exact H) | exact H
    have Ny154 := Aside0.mk hy154
    clear hy154
    obtain ⟨y157, hy157⟩ : ∃ y_ : List Int, y_ = (([53, 54, 55, 56, 57] : List Int)) := ⟨_, rfl⟩
    replace H : ((wire_Sum.f (([y154, [], y157] : List (List Int)))).bind fun t163 => (if t163 = 3421780262 then ((wire_Sum.f ([] : List (List Int))).bind fun t164 => (if t164 = 0 then ((wire_Sum.f (([[], []] : List (List Int)))).bind fun t168 => (kilnlaw1_WireSums.j0 k l0 l1 l2 l3 (t168 != 0))) else (kilnlaw1_WireSums.j0 k l0 l1 l2 l3 true))) else (kilnlaw1_WireSums.j0 k l0 l1 l2 l3 true))) = some r := by first | (rw [hy157]; with_reducible exact H) | (have H2_ := (Option.bind_some _ _).symm.trans H; rw [hy157]; with_reducible exact H2_) | (have H2_ := (Option.bind_some _ _).symm.trans H; with_reducible exact H2_) | with_reducible exact H | (rw [hy157]; exact H) | exact H
    have Ny157 := Aside0.mk hy157
    clear hy157
    obtain ⟨y160, hy160⟩ : ∃ y_ : List (List Int), y_ = (([y154, [], y157] : List (List Int))) := ⟨_, rfl⟩
    replace H : ((wire_Sum.f y160).bind fun t163 => (if t163 = 3421780262 then ((wire_Sum.f ([] : List (List Int))).bind fun t164 => (if t164 = 0 then ((wire_Sum.f (([[], []] : List (List Int)))).bind fun t168 => (kilnlaw1_WireSums.j0 k l0 l1 l2 l3 (t168 != 0))) else (kilnlaw1_WireSums.j0 k l0 l1 l2 l3 true))) else (kilnlaw1_WireSums.j0 k l0 l1 l2 l3 true))) = some r := by first | (rw [hy160]; with_reducible exact H) | (have H2_ := (Option.bind_some _ _).symm.trans H; rw [hy160]; with_reducible exact H2_) | (have H2_ := (Option.bind_some _ _).symm.trans H; with_reducible exact H2_) | with_reducible exact H | (rw [hy160]; exact H) | exact H
    have Ny160 := Aside0.mk hy160
    clear hy160
    replace H := Option.bind_eq_some_iff.mp H
    obtain ⟨t163, A60, H⟩ := H
    replace H : (if t163 = 3421780262 then ((wire_Sum.f ([] : List (List Int))).bind fun t164 => (if t164 = 0 then ((wire_Sum.f (([[], []] : List (List Int)))).bind fun t168 => (kilnlaw1_WireSums.j0 k l0 l1 l2 l3 (t168 != 0))) else (kilnlaw1_WireSums.j0 k l0 l1 l2 l3 true))) else (kilnlaw1_WireSums.j0 k l0 l1 l2 l3 true)) = some r := H
    have A6 := Aside0.mk A60
    clear A60
    by_cases c7 : t163 = 3421780262
    · rw [if_pos c7] at H
      have c7b0 : (t163 == 3421780262) = true := beq_iff_eq.mpr c7
      have c7b1 : (t163 != 3421780262) = false := bne_eq_false_iff_eq.mpr c7
      clear c7
      (first | rw [c7b0] | (simp only [i64_w, i32_w]; rw [c7b0]) | skip)
      replace H := Option.bind_eq_some_iff.mp H
      obtain ⟨t164, A80, H⟩ := H
      replace H : (if t164 = 0 then ((wire_Sum.f (([[], []] : List (List Int)))).bind fun t168 => (kilnlaw1_WireSums.j0 k l0 l1 l2 l3 (t168 != 0))) else (kilnlaw1_WireSums.j0 k l0 l1 l2 l3 true)) = some r := H
      have A8 := Aside0.mk A80
      clear A80
      by_cases c9 : t164 = 0
      · rw [if_pos c9] at H
        have c9b0 : (t164 == 0) = true := beq_iff_eq.mpr c9
        have c9b1 : (t164 != 0) = false := bne_eq_false_iff_eq.mpr c9
        clear c9
        obtain ⟨y165, hy165⟩ : ∃ y_ : List (List Int), y_ = (([[], []] : List (List Int))) := ⟨_, rfl⟩
        replace H : ((wire_Sum.f y165).bind fun t168 => (kilnlaw1_WireSums.j0 k l0 l1 l2 l3 (t168 != 0))) = some r := by first | (rw [hy165]; with_reducible exact H) | (have H2_ := (Option.bind_some _ _).symm.trans H; rw [hy165]; with_reducible exact H2_) | (have H2_ := (Option.bind_some _ _).symm.trans H; with_reducible exact H2_) | with_reducible exact H | (rw [hy165]; exact H) | exact H
        have Ny165 := Aside0.mk hy165
        clear hy165
        replace H := Option.bind_eq_some_iff.mp H
        obtain ⟨t168, A100, H⟩ := H
        replace H : (kilnlaw1_WireSums.j0 k l0 l1 l2 l3 (t168 != 0)) = some r := H
        have A10 := Aside0.mk A100
        clear A100
        have H' := Aside0.mk H
        clear H
        go_wp2_with (first | ((with_reducible refine gate_dst (N := 12) rfl ?_); (try (refine gate_guard (by rfl) ?_; dsimp only)); refine Kd.R_lit (Kd.int .u8) _ 5 ?hg (N := 12) ?hd (xs := ([49, 50, 51, 52] : List Int)) (inner := [.int .u8 49, .int .u8 50, .int .u8 51, .int .u8 52]) (ok := fun _ => True) (okp := fun _ => True) ?hr ?hp (fun _ hk => hk) trivial (Below.refl _ _) (Nat.le_refl _) (by simp) ?_; (case hd => rfl); (case hg => rfl); (case hr => first | (go_simp; done) | (go_simp; rfl)); (case hp => exact (Reps.one (show Kd.M (Kd.int .u8) _ _ _ 49 [.int .u8 49] from rfl) (Reps.one (show Kd.M (Kd.int .u8) _ _ _ 50 [.int .u8 50] from rfl) (Reps.one (show Kd.M (Kd.int .u8) _ _ _ 51 [.int .u8 51] from rfl) (Reps.one (show Kd.M (Kd.int .u8) _ _ _ 52 [.int .u8 52] from rfl) (Reps.none _ _)))))); intro v155 w11 ho12 hb hg_ hnew_; clear hg_ hnew_; (first | rw [← Ny154.out] at ho12 | (simp only [Int.reduceToNat] at ho12; rw [← Ny154.out] at ho12)); have n0_ := Aside0.mk (Kd.V_elder' (by (with_reducible repeat (first | apply Kd.V_alloc | apply Kd.V_drewN | apply Kd.V_drew)); exact HO1.out) (Kd.R_base ho12) hb); have n1_ := Aside0.mk (Kd.V_elder' (by (with_reducible repeat (first | apply Kd.V_alloc | apply Kd.V_drewN | apply Kd.V_drew)); exact HO2.out) (Kd.R_base ho12) hb); have n2_ := Aside0.mk (Kd.R_lower (Kd.R_newM (M := fun k_ => (w.heap.size ≤ k_)) ho12 (below_size (by repeat (first | (with_reducible first | exact HB.out | apply below_alloc | apply pw_below_drewN | apply below_drew1) | exact HB.out))) (fun k_ h_ => h_)) (below_size (by repeat (first | (with_reducible first | exact HB.out | apply below_alloc | apply pw_below_drewN | apply below_drew1) | exact HB.out)))); have n3_ := Aside0.mk (below_step (by repeat (first | (with_reducible first | exact HB.out | apply below_alloc | apply pw_below_drewN | apply below_drew1) | exact HB.out)) hb); clear HO1; clear HO2; clear HB; have HO1 := n0_; have HO2 := n1_; have HO156 := n2_; have HB := n3_; clear n0_ n1_ n2_ n3_; clear hb ho12) | ((with_reducible refine gate_dst (N := 13) rfl ?_); (try (refine gate_guard (by rfl) ?_; dsimp only)); refine Kd.R_lit (Kd.int .u8) _ 5 ?hg (N := 13) ?hd (xs := ([53, 54, 55, 56, 57] : List Int)) (inner := [.int .u8 53, .int .u8 54, .int .u8 55, .int .u8 56, .int .u8 57]) (ok := fun _ => True) (okp := fun _ => True) ?hr ?hp (fun _ hk => hk) trivial (Below.refl _ _) (Nat.le_refl _) (by simp) ?_; (case hd => rfl); (case hg => rfl); (case hr => first | (go_simp; done) | (go_simp; rfl)); (case hp => exact (Reps.one (show Kd.M (Kd.int .u8) _ _ _ 53 [.int .u8 53] from rfl) (Reps.one (show Kd.M (Kd.int .u8) _ _ _ 54 [.int .u8 54] from rfl) (Reps.one (show Kd.M (Kd.int .u8) _ _ _ 55 [.int .u8 55] from rfl) (Reps.one (show Kd.M (Kd.int .u8) _ _ _ 56 [.int .u8 56] from rfl) (Reps.one (show Kd.M (Kd.int .u8) _ _ _ 57 [.int .u8 57] from rfl) (Reps.none _ _))))))); intro v158 w13 ho14 hb hg_ hnew_; clear hg_ hnew_; (first | rw [← Ny157.out] at ho14 | (simp only [Int.reduceToNat] at ho14; rw [← Ny157.out] at ho14)); have n0_ := Aside0.mk (Kd.V_elder' (by (with_reducible repeat (first | apply Kd.V_alloc | apply Kd.V_drewN | apply Kd.V_drew)); exact HO1.out) (Kd.R_base ho14) hb); have n1_ := Aside0.mk (Kd.V_elder' (by (with_reducible repeat (first | apply Kd.V_alloc | apply Kd.V_drewN | apply Kd.V_drew)); exact HO2.out) (Kd.R_base ho14) hb); have n2_ := Aside0.mk (Kd.R_elder' (by (with_reducible repeat (first | apply Kd.R_alloc | apply Kd.R_drewN | apply Kd.R_drew)); exact HO156.out) (Kd.R_base ho14) hb); have n3_ := Aside0.mk (Kd.R_lower (Kd.R_new' (Kd.R_newM (M := fun k_ => (w.heap.size ≤ k_)) ho14 (below_size (by repeat (first | (with_reducible first | exact HB.out | apply below_alloc | apply pw_below_drewN | apply below_drew1) | exact HB.out))) (fun k_ h_ => h_)) (Kd.R_lt (by (with_reducible repeat (first | apply Kd.R_alloc | apply Kd.R_drewN | apply Kd.R_drew)); exact HO156.out))) (below_size (by repeat (first | (with_reducible first | exact HB.out | apply below_alloc | apply pw_below_drewN | apply below_drew1) | exact HB.out)))); have n4_ := Aside0.mk (below_step (by repeat (first | (with_reducible first | exact HB.out | apply below_alloc | apply pw_below_drewN | apply below_drew1) | exact HB.out)) hb); clear HO1; clear HO2; clear HO156; clear HB; have HO1 := n0_; have HO2 := n1_; have HO156 := n2_; have HO159 := n3_; have HB := n4_; clear n0_ n1_ n2_ n3_ n4_; clear hb ho14; obtain ⟨Ao15, co15, eo15⟩ := Kd.R_slice HO156.out; subst eo15; obtain ⟨Ao16, co16, eo16⟩ := Kd.R_slice HO159.out; subst eo16) | ((with_reducible refine gate_dst (N := 14) rfl ?_); (try (refine gate_guard (by rfl) ?_; dsimp only)); refine Kd.N_lit (Kd.slice 5 (Kd.int .u8)) _ 23 ?hg (N' := 14) ?hd (xs := ([y154, [], y157] : List (List Int))) (inner := [.slice Ao15 y154.length co15, .slice none 0 0, .slice Ao16 y157.length co16]) (ok := (fun k_ => ((P1_ k_ ∨ P2_ k_) ∨ w.heap.size ≤ k_))) (okp := (fun k_ => ((P1_ k_ ∨ P2_ k_) ∨ w.heap.size ≤ k_))) ?hr ?hp (fun _ hk => hk) ((show ∀ k_, w13.heap.size ≤ k_ → (fun k_ => ((P1_ k_ ∨ P2_ k_) ∨ w.heap.size ≤ k_)) k_ from fun k_ hk => (.inr (Nat.le_trans (below_size (by repeat (first | (with_reducible first | exact HB.out | apply below_alloc | apply pw_below_drewN | apply below_drew1) | exact HB.out))) hk))) _ (Nat.le_refl _)) (Below.refl _ _) (Nat.le_refl _) (by simp) ?_; (case hd => rfl); (case hg => rfl); (case hr => first | (go_simp; done) | (go_simp; rfl)); (case hp => exact (Reps.one (show Kd.FK (Kd.slice 5 (Kd.int .u8)) _ _ y154 [.slice Ao15 y154.length co15] from (Kd.FK_slice_mk (Kd.R_reads' (Kd.R_mono (ok' := (fun k_ => ((P1_ k_ ∨ P2_ k_) ∨ w.heap.size ≤ k_))) (HO156.out) (fun k_ hk => (.inr (hk.1.1))))).2.1 (Kd.R_F (Kd.R_mono (ok' := (fun k_ => ((P1_ k_ ∨ P2_ k_) ∨ w.heap.size ≤ k_))) (HO156.out) (fun k_ hk => (.inr (hk.1.1))))))) (Reps.one (show Kd.FK (Kd.slice 5 (Kd.int .u8)) _ _ [] [.slice none 0 0] from (Kd.FK_slice_mk (Nat.le_refl _) (Kd.F_nil _ _ _))) (Reps.one (show Kd.FK (Kd.slice 5 (Kd.int .u8)) _ _ y157 [.slice Ao16 y157.length co16] from (Kd.FK_slice_mk (Kd.R_reads' (Kd.R_mono (ok' := (fun k_ => ((P1_ k_ ∨ P2_ k_) ∨ w.heap.size ≤ k_))) (HO159.out) (fun k_ hk => (.inr (hk.1.1))))).2.1 (Kd.R_F (Kd.R_mono (ok' := (fun k_ => ((P1_ k_ ∨ P2_ k_) ∨ w.heap.size ≤ k_))) (HO159.out) (fun k_ hk => (.inr (hk.1.1))))))) (Reps.none _ _))))); intro v161 w17 ho18 hb hg_ hnew_; clear hg_ hnew_; (first | rw [← Ny160.out] at ho18 | (simp only [Int.reduceToNat] at ho18; rw [← Ny160.out] at ho18)); have n0_ := Aside0.mk (Kd.V_elder' (by (with_reducible repeat (first | apply Kd.V_alloc | apply Kd.V_drewN | apply Kd.V_drew)); exact HO1.out) (Kd.N_base ho18) hb); have n1_ := Aside0.mk (Kd.V_elder' (by (with_reducible repeat (first | apply Kd.V_alloc | apply Kd.V_drewN | apply Kd.V_drew)); exact HO2.out) (Kd.N_base ho18) hb); have n2_ := Aside0.mk (Kd.N_lower ho18 (below_size (by repeat (first | (with_reducible first | exact HB.out | apply below_alloc | apply pw_below_drewN | apply below_drew1) | exact HB.out)))); have n3_ := Aside0.mk (below_step (by repeat (first | (with_reducible first | exact HB.out | apply below_alloc | apply pw_below_drewN | apply below_drew1) | exact HB.out)) hb); clear HO1; clear HO2; clear HB; clear HO156; clear HO159; have HO1 := n0_; have HO2 := n1_; have HO162 := n2_; have HB := n3_; clear n0_ n1_ n2_ n3_; clear hb ho18; obtain ⟨Ao19, co19, eo19⟩ := Kd.N_slice HO162.out; subst eo19) | ((with_reducible refine gate_callee (f := 16) rfl ?_); refine goesL_ (some 15) rfl rfl Tryd.func16 (by kernel_rfl) rfl #[.slice Ao19 y160.length co19] rfl (by (try simp only [List.map_toArray, List.map_cons, List.map_nil]); first | done | rfl | (simp only [List.length_drop, List.length_take]; rfl)) ?_; (with_reducible refine (wire_Sum.calls _ _ y160 t163 _ ?side1 ?side2 ?side3 A6.out).mono ?_); (case side1 => repeat (first | exact (Kd.N_reads' HO162.out).2.2 | (with_reducible refine Kd.C_alloc ?_ _) | (with_reducible refine Kd.C_drewN ?_ _) | (with_reducible refine Kd.C_drew ?_))); (case side2 => exact (Kd.N_reads' HO162.out).2.1); (case side3 => first | exact HG.out | exact Half.below HG.out (by repeat (first | (with_reducible first | exact HB.out | apply below_alloc | apply pw_below_drewN | apply below_drew1) | exact HB.out))); rintro e w' ⟨rfl, ⟨nd, rfl⟩⟩; refine ⟨_, rfl, ?_⟩) | ((with_reducible refine gate_dst (N := 22) rfl ?_); (try (refine gate_guard (by rfl) ?_; dsimp only)); refine Kd.N_lit (Kd.slice 5 (Kd.int .u8)) _ 23 ?hg (N' := 22) ?hd (xs := ([[], []] : List (List Int))) (inner := [.slice none 0 0, .slice none 0 0]) (ok := (fun k_ => ((P1_ k_ ∨ P2_ k_) ∨ w.heap.size ≤ k_) ∧ some k_ ≠ (.slice Ao19 y160.length co19 : Value).ownBlock)) (okp := (fun k_ => ((P1_ k_ ∨ P2_ k_) ∨ w.heap.size ≤ k_) ∧ some k_ ≠ (.slice Ao19 y160.length co19 : Value).ownBlock)) ?hr ?hp (fun _ hk => hk) ((show ∀ k_, w17.heap.size ≤ k_ → (fun k_ => ((P1_ k_ ∨ P2_ k_) ∨ w.heap.size ≤ k_) ∧ some k_ ≠ (.slice Ao19 y160.length co19 : Value).ownBlock) k_ from fun k_ hk => ⟨(.inr (Nat.le_trans (below_size (by repeat (first | (with_reducible first | exact HB.out | apply below_alloc | apply pw_below_drewN | apply below_drew1) | exact HB.out))) hk)), Kd.fresh' (Kd.N_lt (by (with_reducible repeat (first | apply Kd.N_alloc | apply Kd.N_drewN | apply Kd.N_drew)); exact HO162.out)) k_ hk⟩) _ (Nat.le_refl _)) (Below.refl _ _) (Nat.le_refl _) (by simp) ?_; (case hd => rfl); (case hg => rfl); (case hr => first | (go_simp; done) | (go_simp; rfl)); (case hp => exact (Reps.one (show Kd.FK (Kd.slice 5 (Kd.int .u8)) _ _ [] [.slice none 0 0] from (Kd.FK_slice_mk (Nat.le_refl _) (Kd.F_nil _ _ _))) (Reps.one (show Kd.FK (Kd.slice 5 (Kd.int .u8)) _ _ [] [.slice none 0 0] from (Kd.FK_slice_mk (Nat.le_refl _) (Kd.F_nil _ _ _))) (Reps.none _ _)))); intro v166 w20 ho21 hb hg_ hnew_; clear hg_ hnew_; (first | rw [← Ny165.out] at ho21 | (simp only [Int.reduceToNat] at ho21; rw [← Ny165.out] at ho21)); have n0_ := Aside0.mk (Kd.V_elder' (by (with_reducible repeat (first | apply Kd.V_alloc | apply Kd.V_drewN | apply Kd.V_drew)); exact HO1.out) (Kd.N_base ho21) hb); have n1_ := Aside0.mk (Kd.V_elder' (by (with_reducible repeat (first | apply Kd.V_alloc | apply Kd.V_drewN | apply Kd.V_drew)); exact HO2.out) (Kd.N_base ho21) hb); have n2_ := Aside0.mk (Kd.N_elder' (by (with_reducible repeat (first | apply Kd.N_alloc | apply Kd.N_drewN | apply Kd.N_drew)); exact HO162.out) (Kd.N_base ho21) hb); have n3_ := Aside0.mk (Kd.N_lower ho21 (below_size (by repeat (first | (with_reducible first | exact HB.out | apply below_alloc | apply pw_below_drewN | apply below_drew1) | exact HB.out)))); have n4_ := Aside0.mk (below_step (by repeat (first | (with_reducible first | exact HB.out | apply below_alloc | apply pw_below_drewN | apply below_drew1) | exact HB.out)) hb); clear HO1; clear HO2; clear HO162; clear HB; have HO1 := n0_; have HO2 := n1_; have HO162 := n2_; have HO167 := n3_; have HB := n4_; clear n0_ n1_ n2_ n3_ n4_; clear hb ho21; obtain ⟨Ao22, co22, eo22⟩ := Kd.N_slice HO167.out; subst eo22) | (go_at_call 16; (with_reducible refine (wire_Sum.calls _ _ y165 t168 _ ?side1 ?side2 ?side3 A10.out).mono ?_); (case side1 => repeat (first | exact (Kd.N_reads' HO167.out).2.2 | (with_reducible refine Kd.C_alloc ?_ _) | (with_reducible refine Kd.C_drewN ?_ _) | (with_reducible refine Kd.C_drew ?_))); (case side2 => exact (Kd.N_reads' HO167.out).2.1); (case side3 => first | exact HG.out | exact Half.below HG.out (by repeat (first | (with_reducible first | exact HB.out | apply below_alloc | apply pw_below_drewN | apply below_drew1) | exact HB.out))); rintro e w' ⟨rfl, ⟨nd, rfl⟩⟩) | (go_at_call 16; refine calls_of_args (args' := #[.slice none ([] : List (List Int)).length 0]) (by rfl) ?_; (with_reducible refine (wire_Sum.calls none 0 ([] : List (List Int)) t164 _ ?side1 ?side2 ?side3 A8.out).mono ?_); (case side1 => exact Kd.C_nil _ _); (case side2 => exact Nat.le_refl _); (case side3 => first | exact HG.out | exact Half.below HG.out (by repeat (first | (with_reducible first | exact HB.out | apply below_alloc | apply pw_below_drewN | apply below_drew1) | exact HB.out))); rintro e w' ⟨rfl, ⟨nd, rfl⟩⟩))
        go_meet
        case rel => exact ⟨_, ((t168 != 0)), (by first | rfl | (simp; done) | (simp [*]; done)), H', ⟨by first | omega | exact Nat.le_refl _⟩, ⟨by (with_reducible repeat (first | apply Kd.V_alloc | apply Kd.V_drewN | apply Kd.V_drew)); exact Kd.V_mono HO1.out (fun _ hk => hk.1.1.1.1)⟩, ⟨by (with_reducible repeat (first | apply Kd.V_alloc | apply Kd.V_drewN | apply Kd.V_drew)); exact Kd.V_mono HO2.out (fun _ hk => hk.1.1.1.1)⟩, ⟨by repeat (first | (with_reducible first | exact HB.out | apply below_alloc | apply pw_below_drewN | apply below_drew1) | exact HB.out)⟩⟩
      · rw [if_neg c9] at H
        have c9b0 : (t164 == 0) = false := beq_eq_false_iff_ne.mpr c9
        have c9b1 : (t164 != 0) = true := bne_iff_ne.mpr c9
        have H' := Aside0.mk H
        clear H
        go_wp2_with (first | ((with_reducible refine gate_dst (N := 12) rfl ?_); (try (refine gate_guard (by rfl) ?_; dsimp only)); refine Kd.R_lit (Kd.int .u8) _ 5 ?hg (N := 12) ?hd (xs := ([49, 50, 51, 52] : List Int)) (inner := [.int .u8 49, .int .u8 50, .int .u8 51, .int .u8 52]) (ok := fun _ => True) (okp := fun _ => True) ?hr ?hp (fun _ hk => hk) trivial (Below.refl _ _) (Nat.le_refl _) (by simp) ?_; (case hd => rfl); (case hg => rfl); (case hr => first | (go_simp; done) | (go_simp; rfl)); (case hp => exact (Reps.one (show Kd.M (Kd.int .u8) _ _ _ 49 [.int .u8 49] from rfl) (Reps.one (show Kd.M (Kd.int .u8) _ _ _ 50 [.int .u8 50] from rfl) (Reps.one (show Kd.M (Kd.int .u8) _ _ _ 51 [.int .u8 51] from rfl) (Reps.one (show Kd.M (Kd.int .u8) _ _ _ 52 [.int .u8 52] from rfl) (Reps.none _ _)))))); intro v155 w23 ho24 hb hg_ hnew_; clear hg_ hnew_; (first | rw [← Ny154.out] at ho24 | (simp only [Int.reduceToNat] at ho24; rw [← Ny154.out] at ho24)); have n0_ := Aside0.mk (Kd.V_elder' (by (with_reducible repeat (first | apply Kd.V_alloc | apply Kd.V_drewN | apply Kd.V_drew)); exact HO1.out) (Kd.R_base ho24) hb); have n1_ := Aside0.mk (Kd.V_elder' (by (with_reducible repeat (first | apply Kd.V_alloc | apply Kd.V_drewN | apply Kd.V_drew)); exact HO2.out) (Kd.R_base ho24) hb); have n2_ := Aside0.mk (Kd.R_lower (Kd.R_newM (M := fun k_ => (w.heap.size ≤ k_)) ho24 (below_size (by repeat (first | (with_reducible first | exact HB.out | apply below_alloc | apply pw_below_drewN | apply below_drew1) | exact HB.out))) (fun k_ h_ => h_)) (below_size (by repeat (first | (with_reducible first | exact HB.out | apply below_alloc | apply pw_below_drewN | apply below_drew1) | exact HB.out)))); have n3_ := Aside0.mk (below_step (by repeat (first | (with_reducible first | exact HB.out | apply below_alloc | apply pw_below_drewN | apply below_drew1) | exact HB.out)) hb); clear HO1; clear HO2; clear HB; have HO1 := n0_; have HO2 := n1_; have HO156 := n2_; have HB := n3_; clear n0_ n1_ n2_ n3_; clear hb ho24) | ((with_reducible refine gate_dst (N := 13) rfl ?_); (try (refine gate_guard (by rfl) ?_; dsimp only)); refine Kd.R_lit (Kd.int .u8) _ 5 ?hg (N := 13) ?hd (xs := ([53, 54, 55, 56, 57] : List Int)) (inner := [.int .u8 53, .int .u8 54, .int .u8 55, .int .u8 56, .int .u8 57]) (ok := fun _ => True) (okp := fun _ => True) ?hr ?hp (fun _ hk => hk) trivial (Below.refl _ _) (Nat.le_refl _) (by simp) ?_; (case hd => rfl); (case hg => rfl); (case hr => first | (go_simp; done) | (go_simp; rfl)); (case hp => exact (Reps.one (show Kd.M (Kd.int .u8) _ _ _ 53 [.int .u8 53] from rfl) (Reps.one (show Kd.M (Kd.int .u8) _ _ _ 54 [.int .u8 54] from rfl) (Reps.one (show Kd.M (Kd.int .u8) _ _ _ 55 [.int .u8 55] from rfl) (Reps.one (show Kd.M (Kd.int .u8) _ _ _ 56 [.int .u8 56] from rfl) (Reps.one (show Kd.M (Kd.int .u8) _ _ _ 57 [.int .u8 57] from rfl) (Reps.none _ _))))))); intro v158 w25 ho26 hb hg_ hnew_; clear hg_ hnew_; (first | rw [← Ny157.out] at ho26 | (simp only [Int.reduceToNat] at ho26; rw [← Ny157.out] at ho26)); have n0_ := Aside0.mk (Kd.V_elder' (by (with_reducible repeat (first | apply Kd.V_alloc | apply Kd.V_drewN | apply Kd.V_drew)); exact HO1.out) (Kd.R_base ho26) hb); have n1_ := Aside0.mk (Kd.V_elder' (by (with_reducible repeat (first | apply Kd.V_alloc | apply Kd.V_drewN | apply Kd.V_drew)); exact HO2.out) (Kd.R_base ho26) hb); have n2_ := Aside0.mk (Kd.R_elder' (by (with_reducible repeat (first | apply Kd.R_alloc | apply Kd.R_drewN | apply Kd.R_drew)); exact HO156.out) (Kd.R_base ho26) hb); have n3_ := Aside0.mk (Kd.R_lower (Kd.R_new' (Kd.R_newM (M := fun k_ => (w.heap.size ≤ k_)) ho26 (below_size (by repeat (first | (with_reducible first | exact HB.out | apply below_alloc | apply pw_below_drewN | apply below_drew1) | exact HB.out))) (fun k_ h_ => h_)) (Kd.R_lt (by (with_reducible repeat (first | apply Kd.R_alloc | apply Kd.R_drewN | apply Kd.R_drew)); exact HO156.out))) (below_size (by repeat (first | (with_reducible first | exact HB.out | apply below_alloc | apply pw_below_drewN | apply below_drew1) | exact HB.out)))); have n4_ := Aside0.mk (below_step (by repeat (first | (with_reducible first | exact HB.out | apply below_alloc | apply pw_below_drewN | apply below_drew1) | exact HB.out)) hb); clear HO1; clear HO2; clear HO156; clear HB; have HO1 := n0_; have HO2 := n1_; have HO156 := n2_; have HO159 := n3_; have HB := n4_; clear n0_ n1_ n2_ n3_ n4_; clear hb ho26; obtain ⟨Ao27, co27, eo27⟩ := Kd.R_slice HO156.out; subst eo27; obtain ⟨Ao28, co28, eo28⟩ := Kd.R_slice HO159.out; subst eo28) | ((with_reducible refine gate_dst (N := 14) rfl ?_); (try (refine gate_guard (by rfl) ?_; dsimp only)); refine Kd.N_lit (Kd.slice 5 (Kd.int .u8)) _ 23 ?hg (N' := 14) ?hd (xs := ([y154, [], y157] : List (List Int))) (inner := [.slice Ao27 y154.length co27, .slice none 0 0, .slice Ao28 y157.length co28]) (ok := (fun k_ => ((P1_ k_ ∨ P2_ k_) ∨ w.heap.size ≤ k_))) (okp := (fun k_ => ((P1_ k_ ∨ P2_ k_) ∨ w.heap.size ≤ k_))) ?hr ?hp (fun _ hk => hk) ((show ∀ k_, w25.heap.size ≤ k_ → (fun k_ => ((P1_ k_ ∨ P2_ k_) ∨ w.heap.size ≤ k_)) k_ from fun k_ hk => (.inr (Nat.le_trans (below_size (by repeat (first | (with_reducible first | exact HB.out | apply below_alloc | apply pw_below_drewN | apply below_drew1) | exact HB.out))) hk))) _ (Nat.le_refl _)) (Below.refl _ _) (Nat.le_refl _) (by simp) ?_; (case hd => rfl); (case hg => rfl); (case hr => first | (go_simp; done) | (go_simp; rfl)); (case hp => exact (Reps.one (show Kd.FK (Kd.slice 5 (Kd.int .u8)) _ _ y154 [.slice Ao27 y154.length co27] from (Kd.FK_slice_mk (Kd.R_reads' (Kd.R_mono (ok' := (fun k_ => ((P1_ k_ ∨ P2_ k_) ∨ w.heap.size ≤ k_))) (HO156.out) (fun k_ hk => (.inr (hk.1.1))))).2.1 (Kd.R_F (Kd.R_mono (ok' := (fun k_ => ((P1_ k_ ∨ P2_ k_) ∨ w.heap.size ≤ k_))) (HO156.out) (fun k_ hk => (.inr (hk.1.1))))))) (Reps.one (show Kd.FK (Kd.slice 5 (Kd.int .u8)) _ _ [] [.slice none 0 0] from (Kd.FK_slice_mk (Nat.le_refl _) (Kd.F_nil _ _ _))) (Reps.one (show Kd.FK (Kd.slice 5 (Kd.int .u8)) _ _ y157 [.slice Ao28 y157.length co28] from (Kd.FK_slice_mk (Kd.R_reads' (Kd.R_mono (ok' := (fun k_ => ((P1_ k_ ∨ P2_ k_) ∨ w.heap.size ≤ k_))) (HO159.out) (fun k_ hk => (.inr (hk.1.1))))).2.1 (Kd.R_F (Kd.R_mono (ok' := (fun k_ => ((P1_ k_ ∨ P2_ k_) ∨ w.heap.size ≤ k_))) (HO159.out) (fun k_ hk => (.inr (hk.1.1))))))) (Reps.none _ _))))); intro v161 w29 ho30 hb hg_ hnew_; clear hg_ hnew_; (first | rw [← Ny160.out] at ho30 | (simp only [Int.reduceToNat] at ho30; rw [← Ny160.out] at ho30)); have n0_ := Aside0.mk (Kd.V_elder' (by (with_reducible repeat (first | apply Kd.V_alloc | apply Kd.V_drewN | apply Kd.V_drew)); exact HO1.out) (Kd.N_base ho30) hb); have n1_ := Aside0.mk (Kd.V_elder' (by (with_reducible repeat (first | apply Kd.V_alloc | apply Kd.V_drewN | apply Kd.V_drew)); exact HO2.out) (Kd.N_base ho30) hb); have n2_ := Aside0.mk (Kd.N_lower ho30 (below_size (by repeat (first | (with_reducible first | exact HB.out | apply below_alloc | apply pw_below_drewN | apply below_drew1) | exact HB.out)))); have n3_ := Aside0.mk (below_step (by repeat (first | (with_reducible first | exact HB.out | apply below_alloc | apply pw_below_drewN | apply below_drew1) | exact HB.out)) hb); clear HO1; clear HO2; clear HB; clear HO156; clear HO159; have HO1 := n0_; have HO2 := n1_; have HO162 := n2_; have HB := n3_; clear n0_ n1_ n2_ n3_; clear hb ho30; obtain ⟨Ao31, co31, eo31⟩ := Kd.N_slice HO162.out; subst eo31) | ((with_reducible refine gate_callee (f := 16) rfl ?_); refine goesL_ (some 15) rfl rfl Tryd.func16 (by kernel_rfl) rfl #[.slice Ao31 y160.length co31] rfl (by (try simp only [List.map_toArray, List.map_cons, List.map_nil]); first | done | rfl | (simp only [List.length_drop, List.length_take]; rfl)) ?_; (with_reducible refine (wire_Sum.calls _ _ y160 t163 _ ?side1 ?side2 ?side3 A6.out).mono ?_); (case side1 => repeat (first | exact (Kd.N_reads' HO162.out).2.2 | (with_reducible refine Kd.C_alloc ?_ _) | (with_reducible refine Kd.C_drewN ?_ _) | (with_reducible refine Kd.C_drew ?_))); (case side2 => exact (Kd.N_reads' HO162.out).2.1); (case side3 => first | exact HG.out | exact Half.below HG.out (by repeat (first | (with_reducible first | exact HB.out | apply below_alloc | apply pw_below_drewN | apply below_drew1) | exact HB.out))); rintro e w' ⟨rfl, ⟨nd, rfl⟩⟩; refine ⟨_, rfl, ?_⟩) | (go_at_call 16; refine calls_of_args (args' := #[.slice none ([] : List (List Int)).length 0]) (by rfl) ?_; (with_reducible refine (wire_Sum.calls none 0 ([] : List (List Int)) t164 _ ?side1 ?side2 ?side3 A8.out).mono ?_); (case side1 => exact Kd.C_nil _ _); (case side2 => exact Nat.le_refl _); (case side3 => first | exact HG.out | exact Half.below HG.out (by repeat (first | (with_reducible first | exact HB.out | apply below_alloc | apply pw_below_drewN | apply below_drew1) | exact HB.out))); rintro e w' ⟨rfl, ⟨nd, rfl⟩⟩))
        go_meet
        case rel => exact ⟨_, (true), (by first | rfl | (simp; done) | (simp [*]; done)), H', ⟨by first | omega | exact Nat.le_refl _⟩, ⟨by (with_reducible repeat (first | apply Kd.V_alloc | apply Kd.V_drewN | apply Kd.V_drew)); exact Kd.V_mono HO1.out (fun _ hk => hk.1.1.1)⟩, ⟨by (with_reducible repeat (first | apply Kd.V_alloc | apply Kd.V_drewN | apply Kd.V_drew)); exact Kd.V_mono HO2.out (fun _ hk => hk.1.1.1)⟩, ⟨by repeat (first | (with_reducible first | exact HB.out | apply below_alloc | apply pw_below_drewN | apply below_drew1) | exact HB.out)⟩⟩
    · rw [if_neg c7] at H
      have c7b0 : (t163 == 3421780262) = false := beq_eq_false_iff_ne.mpr c7
      have c7b1 : (t163 != 3421780262) = true := bne_iff_ne.mpr c7
      (first | rw [c7b0] | (simp only [i64_w, i32_w]; rw [c7b0]) | skip)
      have H' := Aside0.mk H
      clear H
      go_wp2_with (first | ((with_reducible refine gate_dst (N := 12) rfl ?_); (try (refine gate_guard (by rfl) ?_; dsimp only)); refine Kd.R_lit (Kd.int .u8) _ 5 ?hg (N := 12) ?hd (xs := ([49, 50, 51, 52] : List Int)) (inner := [.int .u8 49, .int .u8 50, .int .u8 51, .int .u8 52]) (ok := fun _ => True) (okp := fun _ => True) ?hr ?hp (fun _ hk => hk) trivial (Below.refl _ _) (Nat.le_refl _) (by simp) ?_; (case hd => rfl); (case hg => rfl); (case hr => first | (go_simp; done) | (go_simp; rfl)); (case hp => exact (Reps.one (show Kd.M (Kd.int .u8) _ _ _ 49 [.int .u8 49] from rfl) (Reps.one (show Kd.M (Kd.int .u8) _ _ _ 50 [.int .u8 50] from rfl) (Reps.one (show Kd.M (Kd.int .u8) _ _ _ 51 [.int .u8 51] from rfl) (Reps.one (show Kd.M (Kd.int .u8) _ _ _ 52 [.int .u8 52] from rfl) (Reps.none _ _)))))); intro v155 w32 ho33 hb hg_ hnew_; clear hg_ hnew_; (first | rw [← Ny154.out] at ho33 | (simp only [Int.reduceToNat] at ho33; rw [← Ny154.out] at ho33)); have n0_ := Aside0.mk (Kd.V_elder' (by (with_reducible repeat (first | apply Kd.V_alloc | apply Kd.V_drewN | apply Kd.V_drew)); exact HO1.out) (Kd.R_base ho33) hb); have n1_ := Aside0.mk (Kd.V_elder' (by (with_reducible repeat (first | apply Kd.V_alloc | apply Kd.V_drewN | apply Kd.V_drew)); exact HO2.out) (Kd.R_base ho33) hb); have n2_ := Aside0.mk (Kd.R_lower (Kd.R_newM (M := fun k_ => (w.heap.size ≤ k_)) ho33 (below_size (by repeat (first | (with_reducible first | exact HB.out | apply below_alloc | apply pw_below_drewN | apply below_drew1) | exact HB.out))) (fun k_ h_ => h_)) (below_size (by repeat (first | (with_reducible first | exact HB.out | apply below_alloc | apply pw_below_drewN | apply below_drew1) | exact HB.out)))); have n3_ := Aside0.mk (below_step (by repeat (first | (with_reducible first | exact HB.out | apply below_alloc | apply pw_below_drewN | apply below_drew1) | exact HB.out)) hb); clear HO1; clear HO2; clear HB; have HO1 := n0_; have HO2 := n1_; have HO156 := n2_; have HB := n3_; clear n0_ n1_ n2_ n3_; clear hb ho33) | ((with_reducible refine gate_dst (N := 13) rfl ?_); (try (refine gate_guard (by rfl) ?_; dsimp only)); refine Kd.R_lit (Kd.int .u8) _ 5 ?hg (N := 13) ?hd (xs := ([53, 54, 55, 56, 57] : List Int)) (inner := [.int .u8 53, .int .u8 54, .int .u8 55, .int .u8 56, .int .u8 57]) (ok := fun _ => True) (okp := fun _ => True) ?hr ?hp (fun _ hk => hk) trivial (Below.refl _ _) (Nat.le_refl _) (by simp) ?_; (case hd => rfl); (case hg => rfl); (case hr => first | (go_simp; done) | (go_simp; rfl)); (case hp => exact (Reps.one (show Kd.M (Kd.int .u8) _ _ _ 53 [.int .u8 53] from rfl) (Reps.one (show Kd.M (Kd.int .u8) _ _ _ 54 [.int .u8 54] from rfl) (Reps.one (show Kd.M (Kd.int .u8) _ _ _ 55 [.int .u8 55] from rfl) (Reps.one (show Kd.M (Kd.int .u8) _ _ _ 56 [.int .u8 56] from rfl) (Reps.one (show Kd.M (Kd.int .u8) _ _ _ 57 [.int .u8 57] from rfl) (Reps.none _ _))))))); intro v158 w34 ho35 hb hg_ hnew_; clear hg_ hnew_; (first | rw [← Ny157.out] at ho35 | (simp only [Int.reduceToNat] at ho35; rw [← Ny157.out] at ho35)); have n0_ := Aside0.mk (Kd.V_elder' (by (with_reducible repeat (first | apply Kd.V_alloc | apply Kd.V_drewN | apply Kd.V_drew)); exact HO1.out) (Kd.R_base ho35) hb); have n1_ := Aside0.mk (Kd.V_elder' (by (with_reducible repeat (first | apply Kd.V_alloc | apply Kd.V_drewN | apply Kd.V_drew)); exact HO2.out) (Kd.R_base ho35) hb); have n2_ := Aside0.mk (Kd.R_elder' (by (with_reducible repeat (first | apply Kd.R_alloc | apply Kd.R_drewN | apply Kd.R_drew)); exact HO156.out) (Kd.R_base ho35) hb); have n3_ := Aside0.mk (Kd.R_lower (Kd.R_new' (Kd.R_newM (M := fun k_ => (w.heap.size ≤ k_)) ho35 (below_size (by repeat (first | (with_reducible first | exact HB.out | apply below_alloc | apply pw_below_drewN | apply below_drew1) | exact HB.out))) (fun k_ h_ => h_)) (Kd.R_lt (by (with_reducible repeat (first | apply Kd.R_alloc | apply Kd.R_drewN | apply Kd.R_drew)); exact HO156.out))) (below_size (by repeat (first | (with_reducible first | exact HB.out | apply below_alloc | apply pw_below_drewN | apply below_drew1) | exact HB.out)))); have n4_ := Aside0.mk (below_step (by repeat (first | (with_reducible first | exact HB.out | apply below_alloc | apply pw_below_drewN | apply below_drew1) | exact HB.out)) hb); clear HO1; clear HO2; clear HO156; clear HB; have HO1 := n0_; have HO2 := n1_; have HO156 := n2_; have HO159 := n3_; have HB := n4_; clear n0_ n1_ n2_ n3_ n4_; clear hb ho35; obtain ⟨Ao36, co36, eo36⟩ := Kd.R_slice HO156.out; subst eo36; obtain ⟨Ao37, co37, eo37⟩ := Kd.R_slice HO159.out; subst eo37) | ((with_reducible refine gate_dst (N := 14) rfl ?_); (try (refine gate_guard (by rfl) ?_; dsimp only)); refine Kd.N_lit (Kd.slice 5 (Kd.int .u8)) _ 23 ?hg (N' := 14) ?hd (xs := ([y154, [], y157] : List (List Int))) (inner := [.slice Ao36 y154.length co36, .slice none 0 0, .slice Ao37 y157.length co37]) (ok := (fun k_ => ((P1_ k_ ∨ P2_ k_) ∨ w.heap.size ≤ k_))) (okp := (fun k_ => ((P1_ k_ ∨ P2_ k_) ∨ w.heap.size ≤ k_))) ?hr ?hp (fun _ hk => hk) ((show ∀ k_, w34.heap.size ≤ k_ → (fun k_ => ((P1_ k_ ∨ P2_ k_) ∨ w.heap.size ≤ k_)) k_ from fun k_ hk => (.inr (Nat.le_trans (below_size (by repeat (first | (with_reducible first | exact HB.out | apply below_alloc | apply pw_below_drewN | apply below_drew1) | exact HB.out))) hk))) _ (Nat.le_refl _)) (Below.refl _ _) (Nat.le_refl _) (by simp) ?_; (case hd => rfl); (case hg => rfl); (case hr => first | (go_simp; done) | (go_simp; rfl)); (case hp => exact (Reps.one (show Kd.FK (Kd.slice 5 (Kd.int .u8)) _ _ y154 [.slice Ao36 y154.length co36] from (Kd.FK_slice_mk (Kd.R_reads' (Kd.R_mono (ok' := (fun k_ => ((P1_ k_ ∨ P2_ k_) ∨ w.heap.size ≤ k_))) (HO156.out) (fun k_ hk => (.inr (hk.1.1))))).2.1 (Kd.R_F (Kd.R_mono (ok' := (fun k_ => ((P1_ k_ ∨ P2_ k_) ∨ w.heap.size ≤ k_))) (HO156.out) (fun k_ hk => (.inr (hk.1.1))))))) (Reps.one (show Kd.FK (Kd.slice 5 (Kd.int .u8)) _ _ [] [.slice none 0 0] from (Kd.FK_slice_mk (Nat.le_refl _) (Kd.F_nil _ _ _))) (Reps.one (show Kd.FK (Kd.slice 5 (Kd.int .u8)) _ _ y157 [.slice Ao37 y157.length co37] from (Kd.FK_slice_mk (Kd.R_reads' (Kd.R_mono (ok' := (fun k_ => ((P1_ k_ ∨ P2_ k_) ∨ w.heap.size ≤ k_))) (HO159.out) (fun k_ hk => (.inr (hk.1.1))))).2.1 (Kd.R_F (Kd.R_mono (ok' := (fun k_ => ((P1_ k_ ∨ P2_ k_) ∨ w.heap.size ≤ k_))) (HO159.out) (fun k_ hk => (.inr (hk.1.1))))))) (Reps.none _ _))))); intro v161 w38 ho39 hb hg_ hnew_; clear hg_ hnew_; (first | rw [← Ny160.out] at ho39 | (simp only [Int.reduceToNat] at ho39; rw [← Ny160.out] at ho39)); have n0_ := Aside0.mk (Kd.V_elder' (by (with_reducible repeat (first | apply Kd.V_alloc | apply Kd.V_drewN | apply Kd.V_drew)); exact HO1.out) (Kd.N_base ho39) hb); have n1_ := Aside0.mk (Kd.V_elder' (by (with_reducible repeat (first | apply Kd.V_alloc | apply Kd.V_drewN | apply Kd.V_drew)); exact HO2.out) (Kd.N_base ho39) hb); have n2_ := Aside0.mk (Kd.N_lower ho39 (below_size (by repeat (first | (with_reducible first | exact HB.out | apply below_alloc | apply pw_below_drewN | apply below_drew1) | exact HB.out)))); have n3_ := Aside0.mk (below_step (by repeat (first | (with_reducible first | exact HB.out | apply below_alloc | apply pw_below_drewN | apply below_drew1) | exact HB.out)) hb); clear HO1; clear HO2; clear HB; clear HO156; clear HO159; have HO1 := n0_; have HO2 := n1_; have HO162 := n2_; have HB := n3_; clear n0_ n1_ n2_ n3_; clear hb ho39; obtain ⟨Ao40, co40, eo40⟩ := Kd.N_slice HO162.out; subst eo40) | ((with_reducible refine gate_callee (f := 16) rfl ?_); refine goesL_ (some 15) rfl rfl Tryd.func16 (by kernel_rfl) rfl #[.slice Ao40 y160.length co40] rfl (by (try simp only [List.map_toArray, List.map_cons, List.map_nil]); first | done | rfl | (simp only [List.length_drop, List.length_take]; rfl)) ?_; (with_reducible refine (wire_Sum.calls _ _ y160 t163 _ ?side1 ?side2 ?side3 A6.out).mono ?_); (case side1 => repeat (first | exact (Kd.N_reads' HO162.out).2.2 | (with_reducible refine Kd.C_alloc ?_ _) | (with_reducible refine Kd.C_drewN ?_ _) | (with_reducible refine Kd.C_drew ?_))); (case side2 => exact (Kd.N_reads' HO162.out).2.1); (case side3 => first | exact HG.out | exact Half.below HG.out (by repeat (first | (with_reducible first | exact HB.out | apply below_alloc | apply pw_below_drewN | apply below_drew1) | exact HB.out))); rintro e w' ⟨rfl, ⟨nd, rfl⟩⟩; refine ⟨_, rfl, ?_⟩))
      go_meet
      case rel => exact ⟨_, (true), (by first | rfl | (simp; done) | (simp [*]; done)), H', ⟨by first | omega | exact Nat.le_refl _⟩, ⟨by (with_reducible repeat (first | apply Kd.V_alloc | apply Kd.V_drewN | apply Kd.V_drew)); exact Kd.V_mono HO1.out (fun _ hk => hk.1.1.1)⟩, ⟨by (with_reducible repeat (first | apply Kd.V_alloc | apply Kd.V_drewN | apply Kd.V_drew)); exact Kd.V_mono HO2.out (fun _ hk => hk.1.1.1)⟩, ⟨by repeat (first | (with_reducible first | exact HB.out | apply below_alloc | apply pw_below_drewN | apply below_drew1) | exact HB.out)⟩⟩
  case rest =>
    clear HC5
    try clear c1
    try clear c2
    try clear p2
    try clear c3
    try clear c7
    try clear c7b0
    try clear c7b1
    try clear c9
    try clear c9b0
    try clear c9b1
    try clear c16
    obtain ⟨kq, x25_4, rfl, HA, HJ4, HO_1, HO_2, HB⟩ := hcut
    cases kq with
    | zero => exact absurd HA.out (by simp [kilnlaw1_WireSums.j0])
    | succ kj4 =>
      have H := HA.out
      clear HA
      simp only [kilnlaw1_WireSums.j0] at H
      by_cases c41 : x25_4 = true
      · subst c41
        have H1 : (some false) = some r := by rw [if_pos rfl] at H; exact H
        clear H
        have H := H1
        clear H1
        obtain rfl := Option.some.inj H
        go_wp2
        go_ret
        exact ⟨by first | rfl | (simp [errW_none, errW_some] <;> rfl) | (simp [*, errW_none, errW_some] <;> rfl), by repeat (first | (with_reducible first | exact HB.out | apply below_alloc | apply pw_below_drewN | apply below_drew1) | exact HB.out)⟩
      · replace c41 := Bool.eq_false_iff.mpr c41
        subst c41
        have H1 : (kilnlaw1_WireSums.l0 kj4 l0 l1 l2 l3 (mn (mn (l1.length : Int) (l2.length : Int)) (l3.length : Int)) ([] : List Int) 0) = some r := by rw [if_neg (show ¬ (false = true) by decide)] at H; exact H
        clear H
        have H := H1
        clear H1
        obtain ⟨ji42, hji42⟩ : ∃ j_ : Int, (mn (l1.length : Int) (l2.length : Int)) = j_ := ⟨_, rfl⟩
        replace H : (kilnlaw1_WireSums.l0 kj4 l0 l1 l2 l3 (mn (ji42) (l3.length : Int)) ([] : List Int) 0) = some r := by first | (rw [hji42] at H; exact H) | (simp only [hji42] at H ⊢; exact H)
        have hji42_ : (if (l2.length : Int) < (l1.length : Int) then (l2.length : Int) else (l1.length : Int)) = ji42 := hji42
        have hji42n_ : (if l2.length < l1.length then (l2.length : Int) else (l1.length : Int)) = ji42 := by rw [← hji42_]; simp only [Int.ofNat_lt]
        obtain ⟨ji43, hji43⟩ : ∃ j_ : Int, (mn (ji42) (l3.length : Int)) = j_ := ⟨_, rfl⟩
        replace H : (kilnlaw1_WireSums.l0 kj4 l0 l1 l2 l3 ji43 ([] : List Int) 0) = some r := by first | (rw [hji43] at H; exact H) | (simp only [hji43] at H ⊢; exact H)
        have hji43_ : (if (l3.length : Int) < (ji42) then (l3.length : Int) else (ji42)) = ji43 := hji43
        have H' := Aside0.mk H
        clear H
        go_wp2
        go_loopg [10, 11] kj4 (fun kq v10 v11 w' => ∃ (x10_2 : List Int) (x11_2 : Int), v11 = .int .i64 x11_2 ∧ Aside0 (kilnlaw1_WireSums.l0 kq l0 l1 l2 l3 ji43 x10_2 x11_2 = some r) ∧ Aside0 (kq ≤ kj4) ∧ Aside0 (Kd.V (Kd.int .u8) 5 w' w.heap.size (fun k_ => ((P1_ k_ ∨ P2_ k_) ∨ w.heap.size ≤ k_) ∧ some k_ ≠ (v10 : Value).ownBlock) (.slice A1 l1.length c1) l1) ∧ Aside0 (Kd.V (Kd.int .u8) 5 w' w.heap.size (fun k_ => ((P1_ k_ ∨ P2_ k_) ∨ w.heap.size ≤ k_) ∧ some k_ ≠ (v10 : Value).ownBlock) (.slice A2 l2.length c2) l2) ∧ Aside0 (Kd.R (Kd.int .u8) 5 w' w.heap.size (fun k_ => (w.heap.size ≤ k_)) v10 x10_2) ∧ Aside0 (Below w.heap.size w w'))
        case atStart => exact ⟨(([] : List Int)), (0), (by first | rfl | (simp; done) | (simp [*]; done)), H', ⟨Nat.le_refl _⟩, ⟨by (with_reducible repeat (first | apply Kd.V_alloc | apply Kd.V_drewN | apply Kd.V_drew)); exact Kd.V_mono HO_1.out (fun _ hk => ⟨hk, (by simp [Value.ownBlock])⟩)⟩, ⟨by (with_reducible repeat (first | apply Kd.V_alloc | apply Kd.V_drewN | apply Kd.V_drew)); exact Kd.V_mono HO_2.out (fun _ hk => ⟨hk, (by simp [Value.ownBlock])⟩)⟩, ⟨by first | exact Kd.R_nil _ _ _ _ _ | exact Kd.N_nil _ _ _ _ _ | exact Kd.V_nil _ _ _ _ _ | exact Kd.Q_nil _ _ _ _ _ | exact Kd.S_nil _ _ _ _ _⟩, ⟨by repeat (first | (with_reducible first | exact HB.out | apply below_alloc | apply pw_below_drewN | apply below_drew1) | exact HB.out)⟩⟩
        case round =>
          clear H'
          try clear c1
          try clear c2
          try clear p2
          try clear c3
          try clear c4
          try clear c7
          try clear c7b0
          try clear c7b1
          try clear c9
          try clear c9b0
          try clear c9b1
          try clear c16
          try clear c41
          try clear p2
          obtain ⟨x10_2, x11_2, rfl, HA, HK2, HO_1, HO_2, HO_10, HB⟩ := hrel
          cases gk with
          | zero => exact absurd HA.out (by simp [kilnlaw1_WireSums.l0])
          | succ k2 =>
            have H := HA.out
            clear HA
            simp only [kilnlaw1_WireSums.l0] at H
            by_cases c44 : x11_2 < ji43
            · rw [if_pos c44] at H
              have c44b0 : decide (x11_2 < ji43) = true := decide_eq_true c44
              clear c44
              by_cases c45 : 0 ≤ x11_2
              · rw [if_pos c45] at H
                have c45b0 : decide (0 ≤ x11_2) = true := decide_eq_true c45
                clear c45
                by_cases c46 : x11_2 < (l1.length : Int)
                · rw [if_pos c46] at H
                  have c46b0 : decide (x11_2 < (l1.length : Int)) = true := decide_eq_true c46
                  clear c46
                  by_cases c47 : x11_2 < (l2.length : Int)
                  · rw [if_pos c47] at H
                    have c47b0 : decide (x11_2 < (l2.length : Int)) = true := decide_eq_true c47
                    clear c47
                    by_cases c48 : x11_2 < (l3.length : Int)
                    · rw [if_pos c48] at H
                      have c48b0 : decide (x11_2 < (l3.length : Int)) = true := decide_eq_true c48
                      clear c48
                      by_cases c49 : x10_2.length < 140737488355328
                      · rw [if_pos c49] at H
                        have LMc49 := Aside0.mk c49
                        clear c49
                        obtain ⟨y172, hy172⟩ : ∃ y_ : List Int, y_ = (x10_2 ++ [Go.bits .xor .u8 (Go.bits .xor .u8 (rd l1 x11_2) (rd l2 x11_2)) (rd l3 x11_2)]) := ⟨_, rfl⟩
                        replace H : (kilnlaw1_WireSums.l0 k2 l0 l1 l2 l3 ji43 y172 (wrap64 (x11_2 + 1))) = some r := by first | (rw [hy172]; with_reducible exact H) | (have H2_ := (Option.bind_some _ _).symm.trans H; rw [hy172]; with_reducible exact H2_) | (have H2_ := (Option.bind_some _ _).symm.trans H; with_reducible exact H2_) | with_reducible exact H | (rw [hy172]; exact H) | exact H
                        have Ny172 := Aside0.mk hy172
                        clear hy172
                        have H' := Aside0.mk H
                        clear H
                        try go_wp2
                        have n0_ := Aside0.mk (Kd.V_drew HO_1.out)
                        have n1_ := Aside0.mk (Kd.V_drew HO_2.out)
                        have n2_ := Aside0.mk (Kd.R_drew HO_10.out)
                        have n3_ := Aside0.mk (below_drew1 HB.out)
                        clear HO_1
                        clear HO_2
                        clear HO_10
                        clear HB
                        have HO_1 := n0_
                        have HO_2 := n1_
                        have HO_10 := n2_
                        have HB := n3_
                        clear n0_ n1_ n2_ n3_
                        have p169 : 0 ≤ (x11_2 : Int) := of_decide_eq_true (by first | (with_reducible assumption) | assumption)
                        have q169 : x11_2 < (l1.length : Int) := of_decide_eq_true (by first | (with_reducible assumption) | assumption)
                        obtain ⟨ad169, e169, hx169_0⟩ := Kd.at_int (Kd.V_reads' HO_1.out).2.2 x11_2 p169 q169
                        cases e169
                        replace p169 := eq_true p169
                        replace q169 := eq_true q169
                        have p170 : 0 ≤ (x11_2 : Int) := of_decide_eq_true (by first | (with_reducible assumption) | assumption)
                        have q170 : x11_2 < (l2.length : Int) := of_decide_eq_true (by first | (with_reducible assumption) | assumption)
                        obtain ⟨ad170, e170, hx170_0⟩ := Kd.at_int (Kd.V_reads' HO_2.out).2.2 x11_2 p170 q170
                        cases e170
                        replace p170 := eq_true p170
                        replace q170 := eq_true q170
                        have p171 : 0 ≤ (x11_2 : Int) := of_decide_eq_true (by first | (with_reducible assumption) | assumption)
                        have q171 : x11_2 < (l3.length : Int) := of_decide_eq_true (by first | (with_reducible assumption) | assumption)
                        obtain ⟨ad171, e171, hx171_0⟩ := Kd.at_int HR3.out x11_2 p171 q171
                        have hw171_0 := hx171_0
                        cases e171
                        replace hx171_0 := (HB.out.cell (World.block_lt_of_cell? w _ hx171_0)).trans hx171_0
                        replace p171 := eq_true p171
                        replace q171 := eq_true q171
                        refine start_ (n := 18) (S := fun w' => w'.cell? (ad169.add (x11_2).toNat) = some (.int .u8 (rd l1 x11_2)) ∧ w'.cell? (ad170.add (x11_2).toNat) = some (.int .u8 (rd l2 x11_2)) ∧ w'.cell? (ad171.add (x11_2).toNat) = some (.int .u8 (rd l3 x11_2))) (ds := [15, 16]) #[false, false, false, false, false, false, false, false, false, false, false, false, false, false, false, false, false, false] (by kernel_rfl) rfl rfl ⟨hx169_0, hx170_0, ((HB.out.cell (World.block_lt_of_cell? w _ hw171_0)).trans hw171_0)⟩ (fun hHeld => ?_); refine with_tabW kilnlaw1_WireSums.tab8 kilnlaw1_WireSums.bits8 (fun HT_ HW_ => ?_)
                        generalize wr.drew = w50 at HO_1 HO_2 HO_10 HB hx169_0 hx170_0 hx171_0 hHeld ⊢
                        refine pure_ (i := 0) (N := some 38) (v := ?_) (a' := ?_) #[true, false, false, false, false, false, false, false, false, false, false, false, false, false, false, false, false, false] rfl rfl (any_of HT_.out (by kernel_rfl)) (fun _ _ _ h => h) (Or.inl ⟨by rfl, ?_⟩) ?_ ?_
                        rotate_left
                        · intro w'
                          go_simp
                          with_reducible rfl
                        rotate_left
                        · simp only [Act.put, List.setIfInBounds_toArray, List.set_cons_zero, List.set_cons_succ, i64_w, i32_w]
                          rfl
                        refine pure_ (i := 1) (N := some 39) (v := ?_) (a' := ?_) #[true, true, false, false, false, false, false, false, false, false, false, false, false, false, false, false, false, false] rfl rfl (any_of HT_.out (by kernel_rfl)) (fun _ _ _ h => h) (Or.inl ⟨by rfl, ?_⟩) ?_ ?_
                        rotate_left
                        · intro w'
                          go_simp
                          with_reducible rfl
                        rotate_left
                        · simp only [Act.put, List.setIfInBounds_toArray, List.set_cons_zero, List.set_cons_succ, i64_w, i32_w]
                          rfl
                        refine pure_ (i := 2) (N := some 40) (v := ?_) (a' := ?_) #[true, true, true, false, false, false, false, false, false, false, false, false, false, false, false, false, false, false] rfl rfl (any_of HT_.out (by kernel_rfl)) (fun _ _ _ h => h) (Or.inl ⟨by rfl, ?_⟩) ?_ ?_
                        rotate_left
                        · intro w'
                          go_simp
                          with_reducible rfl
                        rotate_left
                        · simp only [Act.put, List.setIfInBounds_toArray, List.set_cons_zero, List.set_cons_succ, i64_w, i32_w]
                          rfl
                        refine pure_ (i := 3) (N := some 41) (v := ?_) (a' := ?_) #[true, true, true, true, false, false, false, false, false, false, false, false, false, false, false, false, false, false] rfl rfl (any_of HT_.out (by kernel_rfl)) (fun _ _ _ h => h) (Or.inl ⟨by rfl, ?_⟩) ?_ ?_
                        rotate_left
                        · intro w'
                          go_simp
                          with_reducible rfl
                        rotate_left
                        · simp only [Act.put, List.setIfInBounds_toArray, List.set_cons_zero, List.set_cons_succ, i64_w, i32_w]
                          rfl
                        refine pure_ (i := 5) (N := some 43) (v := ?_) (a' := ?_) #[true, true, true, true, false, true, false, false, false, false, false, false, false, false, false, false, false, false] rfl rfl (any_of HT_.out (by kernel_rfl)) (fun _ _ _ h => h) (Or.inl ⟨by rfl, ?_⟩) ?_ ?_
                        rotate_left
                        · intro w'
                          go_simp
                          with_reducible rfl
                        rotate_left
                        · simp only [Act.put, List.setIfInBounds_toArray, List.set_cons_zero, List.set_cons_succ, i64_w, i32_w]
                          rfl
                        refine pure_ (i := 6) (N := some 44) (v := ?_) (a' := ?_) #[true, true, true, true, false, true, true, false, false, false, false, false, false, false, false, false, false, false] rfl rfl (any_of HT_.out (by kernel_rfl)) (fun _ _ _ h => h) (Or.inl ⟨by rfl, ?_⟩) ?_ ?_
                        rotate_left
                        · intro w'
                          go_simp
                          with_reducible rfl
                        rotate_left
                        · simp only [Act.put, List.setIfInBounds_toArray, List.set_cons_zero, List.set_cons_succ, i64_w, i32_w]
                          rfl
                        refine pure_ (i := 7) (N := some 45) (v := ?_) (a' := ?_) #[true, true, true, true, false, true, true, true, false, false, false, false, false, false, false, false, false, false] rfl rfl (any_of HT_.out (by kernel_rfl)) (fun _ _ _ h => h) (Or.inl ⟨by rfl, ?_⟩) ?_ ?_
                        rotate_left
                        · intro w'
                          go_simp
                          with_reducible rfl
                        rotate_left
                        · simp only [Act.put, List.setIfInBounds_toArray, List.set_cons_zero, List.set_cons_succ, i64_w, i32_w]
                          rfl
                        refine pure_ (i := 10) (N := some 48) (v := ?_) (a' := ?_) #[true, true, true, true, false, true, true, true, false, false, true, false, false, false, false, false, false, false] rfl rfl (any_of HT_.out (by kernel_rfl)) (fun _ _ _ h => h) (Or.inl ⟨by rfl, ?_⟩) ?_ ?_
                        rotate_left
                        · intro w'
                          go_simp
                          with_reducible rfl
                        rotate_left
                        · simp only [Act.put, List.setIfInBounds_toArray, List.set_cons_zero, List.set_cons_succ, i64_w, i32_w]
                          rfl
                        refine pure_ (i := 11) (N := some 49) (v := ?_) (a' := ?_) #[true, true, true, true, false, true, true, true, false, false, true, true, false, false, false, false, false, false] rfl rfl (any_of HT_.out (by kernel_rfl)) (fun _ _ _ h => h) (Or.inl ⟨by rfl, ?_⟩) ?_ ?_
                        rotate_left
                        · intro w'
                          go_simp
                          with_reducible rfl
                        rotate_left
                        · simp only [Act.put, List.setIfInBounds_toArray, List.set_cons_zero, List.set_cons_succ, i64_w, i32_w]
                          rfl
                        refine pure_ (i := 12) (N := some 50) (v := ?_) (a' := ?_) #[true, true, true, true, false, true, true, true, false, false, true, true, true, false, false, false, false, false] rfl rfl (any_of HT_.out (by kernel_rfl)) (fun _ _ _ h => h) (Or.inl ⟨by rfl, ?_⟩) ?_ ?_
                        rotate_left
                        · intro w'
                          go_simp
                          with_reducible rfl
                        rotate_left
                        · simp only [Act.put, List.setIfInBounds_toArray, List.set_cons_zero, List.set_cons_succ, i64_w, i32_w]
                          rfl
                        refine take_ (i := 4) (N := some 42) (v := ?_) (a' := ?_) #[true, true, true, true, true, true, true, true, false, false, true, true, true, false, false, false, false, false] rfl rfl (take_ofW HT_.out HW_.out (by kernel_rfl)) (fun _ _ _ h => h) (Or.inl ⟨by rfl, ?_⟩) hHeld ?_ ?_
                        rotate_left
                        · rintro w' ⟨s0, s1, s2⟩
                          go_simp
                          with_reducible rfl
                        rotate_left
                        · simp only [Act.put, List.setIfInBounds_toArray, List.set_cons_zero, List.set_cons_succ, i64_w, i32_w]
                          rfl
                        refine take_ (i := 8) (N := some 46) (v := ?_) (a' := ?_) #[true, true, true, true, true, true, true, true, true, false, true, true, true, false, false, false, false, false] rfl rfl (take_ofW HT_.out HW_.out (by kernel_rfl)) (fun _ _ _ h => h) (Or.inl ⟨by rfl, ?_⟩) hHeld ?_ ?_
                        rotate_left
                        · rintro w' ⟨s0, s1, s2⟩
                          go_simp
                          with_reducible rfl
                        rotate_left
                        · simp only [Act.put, List.setIfInBounds_toArray, List.set_cons_zero, List.set_cons_succ, i64_w, i32_w]
                          rfl
                        refine pure_ (i := 9) (N := some 47) (v := ?_) (a' := ?_) #[true, true, true, true, true, true, true, true, true, true, true, true, true, false, false, false, false, false] rfl rfl (any_of HT_.out (by kernel_rfl)) (fun _ _ _ h => h) (Or.inl ⟨by rfl, ?_⟩) ?_ ?_
                        rotate_left
                        · intro w'
                          go_simp
                          with_reducible rfl
                        rotate_left
                        · simp only [Act.put, List.setIfInBounds_toArray, List.set_cons_zero, List.set_cons_succ, i64_w, i32_w]
                          rfl
                        refine take_ (i := 13) (N := some 51) (v := ?_) (a' := ?_) #[true, true, true, true, true, true, true, true, true, true, true, true, true, true, false, false, false, false] rfl rfl (take_ofW HT_.out HW_.out (by kernel_rfl)) (fun _ _ _ h => h) (Or.inl ⟨by rfl, ?_⟩) hHeld ?_ ?_
                        rotate_left
                        · rintro w' ⟨s0, s1, s2⟩
                          go_simp
                          with_reducible rfl
                        rotate_left
                        · simp only [Act.put, List.setIfInBounds_toArray, List.set_cons_zero, List.set_cons_succ, i64_w, i32_w]
                          rfl
                        refine pure_ (i := 14) (N := some 52) (v := ?_) (a' := ?_) #[true, true, true, true, true, true, true, true, true, true, true, true, true, true, true, false, false, false] rfl rfl (any_of HT_.out (by kernel_rfl)) (fun _ _ _ h => h) (Or.inl ⟨by rfl, ?_⟩) ?_ ?_
                        rotate_left
                        · intro w'
                          go_simp
                          with_reducible rfl
                        rotate_left
                        · simp only [Act.put, List.setIfInBounds_toArray, List.set_cons_zero, List.set_cons_succ, i64_w, i32_w]
                          rfl
                        refine last_ (i := 15) (N := some 53) #[true, true, true, true, true, true, true, true, true, true, true, true, true, true, true, true, false, false] rfl rfl (one_of HT_.out (by kernel_rfl)) (by decide) (fun K hK => ?_)
                        refine value_ (w1 := ?_) (v := ?_) (by rfl) rfl ?_ ?_
                        rotate_left 2
                        · go_simp
                          constructor
                          · rfl
                          · rfl
                        refine hK.out _ _ ?_
                        clear hK K
                        refine norm_ (a' := ?_) ?_ ?_
                        rotate_left
                        · show Act.put _ (some 53) _ = _
                          simp only [Act.put, List.setIfInBounds_toArray, List.set_cons_zero, List.set_cons_succ, i64_w, i32_w]
                          rfl
                        refine last_ (i := 16) (N := some 54) #[true, true, true, true, true, true, true, true, true, true, true, true, true, true, true, true, true, false] rfl rfl (one_of HT_.out (by kernel_rfl)) (by decide) (fun K hK => ?_)
                        refine Kd.R_append_step (Kd.int .u8) (w0 := w) w.heap.size (by rfl) (.tmp 38) (.tmp 53) 23 5 (.int .u8 0) 1 rfl Tryd.underlying23 info5 rfl (by decide) (by omega) u10 x10_2 (Go.bits .xor .u8 (Go.bits .xor .u8 (rd l1 x11_2) (rd l2 x11_2)) (rd l3 x11_2)) [.int .u8 (Go.bits .xor .u8 (Go.bits .xor .u8 (rd l1 x11_2) (rd l2 x11_2)) (rd l3 x11_2))] (fun k_ => (w.heap.size ≤ k_)) (fun _ => False) rfl rfl ?aP (fun _ hk => hk.elim) ?aF ?aO ?aB ?aS ?aL ?_
                        (case aP => exact rfl)
                        (case aB => exact (by repeat (first | (with_reducible first | exact HB.out | apply below_alloc | apply pw_below_drewN | apply below_drew1) | exact HB.out)))
                        (case aF => exact (fun k_ hk => (Nat.le_trans (below_size (by repeat (first | (with_reducible first | exact HB.out | apply below_alloc | apply pw_below_drewN | apply below_drew1) | exact HB.out))) hk)))
                        (case aO => exact (by (with_reducible repeat (first | apply Kd.R_alloc | apply Kd.R_drewN | apply Kd.R_drew)); exact HO_10.out))
                        (case aS => exact (below_size (by repeat (first | (with_reducible first | exact HB.out | apply below_alloc | apply pw_below_drewN | apply below_drew1) | exact HB.out))))
                        (case aL => have := LMc49.out; omega)
                        intro v173 w51 ho hb hg hat
                        rw [← Ny172.out] at ho
                        have n0_ := Aside0.mk (Kd.V_afterv (ok := (fun k_ => ((P1_ k_ ∨ P2_ k_) ∨ w.heap.size ≤ k_))) (by (with_reducible repeat (first | apply Kd.V_alloc | apply Kd.V_drewN | apply Kd.V_drew)); exact HO_1.out) hg hat)
                        have n1_ := Aside0.mk (Kd.V_afterv (ok := (fun k_ => ((P1_ k_ ∨ P2_ k_) ∨ w.heap.size ≤ k_))) (by (with_reducible repeat (first | apply Kd.V_alloc | apply Kd.V_drewN | apply Kd.V_drew)); exact HO_2.out) hg hat)
                        have n2_ := Aside0.mk (hb)
                        have n3_ := Aside0.mk (ho)
                        clear HO_1
                        clear HO_2
                        clear HB
                        clear HO_10
                        have HO_1 := n0_
                        have HO_2 := n1_
                        have HB := n2_
                        have HO174 := n3_
                        clear n0_ n1_ n2_ n3_
                        clear ho hb hg hat
                        refine hK.out _ _ ?_
                        clear hK K
                        refine norm_ (a' := ?_) ?_ ?_
                        rotate_left
                        · show Act.put _ (some 54) _ = _
                          simp only [Act.put, List.setIfInBounds_toArray, List.set_cons_zero, List.set_cons_succ, i64_w, i32_w]
                          rfl
                        refine pure_ (i := 17) (N := some 10) (v := ?_) (a' := ?_) #[true, true, true, true, true, true, true, true, true, true, true, true, true, true, true, true, true, true] rfl rfl (any_of HT_.out (by kernel_rfl)) (fun _ _ _ h => h) (Or.inl ⟨by rfl, ?_⟩) ?_ ?_
                        rotate_left
                        · intro w'
                          go_simp
                          with_reducible rfl
                        rotate_left
                        · simp only [Act.put, List.setIfInBounds_toArray, List.set_cons_zero, List.set_cons_succ, i64_w, i32_w]
                          rfl
                        refine done_ (done_of HT_.out (by kernel_rfl)) ?_
                        try go_wp2
                        go_roundg k2
                        case measure => have := HJ4.out; have := HK2.out; omega
                        case rel => exact ⟨(y172), (wrap64 (x11_2 + 1)), (by first | rfl | (simp; done) | (simp [*]; done)), H', ⟨by have := HJ4.out; have := HK2.out; omega⟩, ⟨by (with_reducible repeat (first | apply Kd.V_alloc | apply Kd.V_drewN | apply Kd.V_drew)); exact HO_1.out⟩, ⟨by (with_reducible repeat (first | apply Kd.V_alloc | apply Kd.V_drewN | apply Kd.V_drew)); exact HO_2.out⟩, ⟨by (with_reducible repeat (first | apply Kd.R_alloc | apply Kd.R_drewN | apply Kd.R_drew)); exact HO174.out⟩, ⟨by repeat (first | (with_reducible first | exact HB.out | apply below_alloc | apply pw_below_drewN | apply below_drew1) | exact HB.out)⟩⟩
                      · rw [if_neg c49] at H
                        exact absurd H (by simp)
                    · rw [if_neg c48] at H
                      exact absurd H (by simp)
                  · rw [if_neg c47] at H
                    exact absurd H (by simp)
                · rw [if_neg c46] at H
                  exact absurd H (by simp)
              · rw [if_neg c45] at H
                exact absurd H (by simp)
            · rw [if_neg c44] at H
              have c44b0 : decide (x11_2 < ji43) = false := decide_eq_false c44
              clear c44
              replace H := Option.bind_eq_some_iff.mp H
              obtain ⟨t175, A520, H⟩ := H
              replace H : (if 0 ≤ ji43 then (if ji43 ≤ (l1.length : Int) then ((V.sum1.f (l1.take (ji43 : Int).toNat)).bind fun t181 => (if ji43 ≤ (l2.length : Int) then ((V.sum1.f (l2.take (ji43 : Int).toNat)).bind fun t187 => (if ji43 ≤ (l3.length : Int) then ((V.sum1.f (l3.take (ji43 : Int).toNat)).bind fun t189 => (if t175 = (Go.bits .xor .u32 (Go.bits .xor .u32 t181 t187) t189) then ((kilnlaw1_started.f k2).bind fun t190 => (if t190 = true then ((wire_Sum.f l0).bind fun t191 => ((kilnlaw1_join.f k2 l0).bind fun t192 => ((wire_Sum.f (([t192] : List (List Int)))).bind fun t198 => (if t191 = t198 then ((wire_Sum.f (([l1, l2] : List (List Int)))).bind fun t202 => ((kilnlaw1_join.f k2 (([l1, l2] : List (List Int)))).bind fun t206 => ((wire_Sum.f (([t206] : List (List Int)))).bind fun t212 => (some (t202 == t212))))) else (some false))))) else (some false))) else (some false))) else (none))) else (none))) else (none)) else (none)) = some r := H
              have A52 := Aside0.mk A520
              clear A520
              by_cases c53 : 0 ≤ ji43
              · rw [if_pos c53] at H
                have c53b0 := eq_true c53
                have c53b1 : decide (0 ≤ ji43) = true := decide_eq_true c53
                clear c53
                by_cases c54 : ji43 ≤ (l1.length : Int)
                · rw [if_pos c54] at H
                  have c54b0 := eq_true c54
                  have c54b1 : decide (ji43 ≤ (l1.length : Int)) = true := decide_eq_true c54
                  clear c54
                  obtain ⟨y176, hy176⟩ : ∃ y_ : List Int, y_ = (l1.take (ji43 : Int).toNat) := ⟨_, rfl⟩
                  replace H : ((V.sum1.f y176).bind fun t181 => (if ji43 ≤ (l2.length : Int) then ((V.sum1.f (l2.take (ji43 : Int).toNat)).bind fun t187 => (if ji43 ≤ (l3.length : Int) then ((V.sum1.f (l3.take (ji43 : Int).toNat)).bind fun t189 => (if t175 = (Go.bits .xor .u32 (Go.bits .xor .u32 t181 t187) t189) then ((kilnlaw1_started.f k2).bind fun t190 => (if t190 = true then ((wire_Sum.f l0).bind fun t191 => ((kilnlaw1_join.f k2 l0).bind fun t192 => ((wire_Sum.f (([t192] : List (List Int)))).bind fun t198 => (if t191 = t198 then ((wire_Sum.f (([l1, l2] : List (List Int)))).bind fun t202 => ((kilnlaw1_join.f k2 (([l1, l2] : List (List Int)))).bind fun t206 => ((wire_Sum.f (([t206] : List (List Int)))).bind fun t212 => (some (t202 == t212))))) else (some false))))) else (some false))) else (some false))) else (none))) else (none))) = some r := by first | (rw [hy176]; with_reducible exact H) | (have H2_ := (Option.bind_some _ _).symm.trans H; rw [hy176]; with_reducible exact H2_) | (have H2_ := (Option.bind_some _ _).symm.trans H; with_reducible exact H2_) | with_reducible exact H | (rw [hy176]; exact H) | exact H
                  have Ny176 := Aside0.mk hy176
                  clear hy176
                  replace H := Option.bind_eq_some_iff.mp H
                  obtain ⟨t181, A550, H⟩ := H
                  replace H : (if ji43 ≤ (l2.length : Int) then ((V.sum1.f (l2.take (ji43 : Int).toNat)).bind fun t187 => (if ji43 ≤ (l3.length : Int) then ((V.sum1.f (l3.take (ji43 : Int).toNat)).bind fun t189 => (if t175 = (Go.bits .xor .u32 (Go.bits .xor .u32 t181 t187) t189) then ((kilnlaw1_started.f k2).bind fun t190 => (if t190 = true then ((wire_Sum.f l0).bind fun t191 => ((kilnlaw1_join.f k2 l0).bind fun t192 => ((wire_Sum.f (([t192] : List (List Int)))).bind fun t198 => (if t191 = t198 then ((wire_Sum.f (([l1, l2] : List (List Int)))).bind fun t202 => ((kilnlaw1_join.f k2 (([l1, l2] : List (List Int)))).bind fun t206 => ((wire_Sum.f (([t206] : List (List Int)))).bind fun t212 => (some (t202 == t212))))) else (some false))))) else (some false))) else (some false))) else (none))) else (none)) = some r := H
                  have A55 := Aside0.mk A550
                  clear A550
                  have c56b0 := eq_true (of_decide_eq_true (by first | (with_reducible assumption) | assumption) : 0 ≤ ji43)
                  by_cases c57 : ji43 ≤ (l2.length : Int)
                  · rw [if_pos c57] at H
                    have c57b0 := eq_true c57
                    have c57b1 : decide (ji43 ≤ (l2.length : Int)) = true := decide_eq_true c57
                    clear c57
                    obtain ⟨y182, hy182⟩ : ∃ y_ : List Int, y_ = (l2.take (ji43 : Int).toNat) := ⟨_, rfl⟩
                    replace H : ((V.sum1.f y182).bind fun t187 => (if ji43 ≤ (l3.length : Int) then ((V.sum1.f (l3.take (ji43 : Int).toNat)).bind fun t189 => (if t175 = (Go.bits .xor .u32 (Go.bits .xor .u32 t181 t187) t189) then ((kilnlaw1_started.f k2).bind fun t190 => (if t190 = true then ((wire_Sum.f l0).bind fun t191 => ((kilnlaw1_join.f k2 l0).bind fun t192 => ((wire_Sum.f (([t192] : List (List Int)))).bind fun t198 => (if t191 = t198 then ((wire_Sum.f (([l1, l2] : List (List Int)))).bind fun t202 => ((kilnlaw1_join.f k2 (([l1, l2] : List (List Int)))).bind fun t206 => ((wire_Sum.f (([t206] : List (List Int)))).bind fun t212 => (some (t202 == t212))))) else (some false))))) else (some false))) else (some false))) else (none))) = some r := by first | (rw [hy182]; with_reducible exact H) | (have H2_ := (Option.bind_some _ _).symm.trans H; rw [hy182]; with_reducible exact H2_) | (have H2_ := (Option.bind_some _ _).symm.trans H; with_reducible exact H2_) | with_reducible exact H | (rw [hy182]; exact H) | exact H
                    have Ny182 := Aside0.mk hy182
                    clear hy182
                    replace H := Option.bind_eq_some_iff.mp H
                    obtain ⟨t187, A580, H⟩ := H
                    replace H : (if ji43 ≤ (l3.length : Int) then ((V.sum1.f (l3.take (ji43 : Int).toNat)).bind fun t189 => (if t175 = (Go.bits .xor .u32 (Go.bits .xor .u32 t181 t187) t189) then ((kilnlaw1_started.f k2).bind fun t190 => (if t190 = true then ((wire_Sum.f l0).bind fun t191 => ((kilnlaw1_join.f k2 l0).bind fun t192 => ((wire_Sum.f (([t192] : List (List Int)))).bind fun t198 => (if t191 = t198 then ((wire_Sum.f (([l1, l2] : List (List Int)))).bind fun t202 => ((kilnlaw1_join.f k2 (([l1, l2] : List (List Int)))).bind fun t206 => ((wire_Sum.f (([t206] : List (List Int)))).bind fun t212 => (some (t202 == t212))))) else (some false))))) else (some false))) else (some false))) else (none)) = some r := H
                    have A58 := Aside0.mk A580
                    clear A580
                    have c59b0 := eq_true (of_decide_eq_true (by first | (with_reducible assumption) | assumption) : 0 ≤ ji43)
                    by_cases c60 : ji43 ≤ (l3.length : Int)
                    · rw [if_pos c60] at H
                      have c60b0 := eq_true c60
                      have c60b1 : decide (ji43 ≤ (l3.length : Int)) = true := decide_eq_true c60
                      clear c60
                      replace H := Option.bind_eq_some_iff.mp H
                      obtain ⟨t189, A610, H⟩ := H
                      replace H : (if t175 = (Go.bits .xor .u32 (Go.bits .xor .u32 t181 t187) t189) then ((kilnlaw1_started.f k2).bind fun t190 => (if t190 = true then ((wire_Sum.f l0).bind fun t191 => ((kilnlaw1_join.f k2 l0).bind fun t192 => ((wire_Sum.f (([t192] : List (List Int)))).bind fun t198 => (if t191 = t198 then ((wire_Sum.f (([l1, l2] : List (List Int)))).bind fun t202 => ((kilnlaw1_join.f k2 (([l1, l2] : List (List Int)))).bind fun t206 => ((wire_Sum.f (([t206] : List (List Int)))).bind fun t212 => (some (t202 == t212))))) else (some false))))) else (some false))) else (some false)) = some r := H
                      have A61 := Aside0.mk A610
                      clear A610
                      by_cases c62 : t175 = (Go.bits .xor .u32 (Go.bits .xor .u32 t181 t187) t189)
                      · rw [if_pos c62] at H
                        have c62b0 : (t175 == (Go.bits .xor .u32 (Go.bits .xor .u32 t181 t187) t189)) = true := beq_iff_eq.mpr c62
                        have c62b1 : (t175 != (Go.bits .xor .u32 (Go.bits .xor .u32 t181 t187) t189)) = false := bne_eq_false_iff_eq.mpr c62
                        clear c62
                        replace H := Option.bind_eq_some_iff.mp H
                        obtain ⟨t190, A630, H⟩ := H
                        replace H : (if t190 = true then ((wire_Sum.f l0).bind fun t191 => ((kilnlaw1_join.f k2 l0).bind fun t192 => ((wire_Sum.f (([t192] : List (List Int)))).bind fun t198 => (if t191 = t198 then ((wire_Sum.f (([l1, l2] : List (List Int)))).bind fun t202 => ((kilnlaw1_join.f k2 (([l1, l2] : List (List Int)))).bind fun t206 => ((wire_Sum.f (([t206] : List (List Int)))).bind fun t212 => (some (t202 == t212))))) else (some false))))) else (some false)) = some r := H
                        have A63 := Aside0.mk A630
                        clear A630
                        by_cases c64 : t190 = true
                        · subst c64
                          have H1 : ((wire_Sum.f l0).bind fun t191 => ((kilnlaw1_join.f k2 l0).bind fun t192 => ((wire_Sum.f (([t192] : List (List Int)))).bind fun t198 => (if t191 = t198 then ((wire_Sum.f (([l1, l2] : List (List Int)))).bind fun t202 => ((kilnlaw1_join.f k2 (([l1, l2] : List (List Int)))).bind fun t206 => ((wire_Sum.f (([t206] : List (List Int)))).bind fun t212 => (some (t202 == t212))))) else (some false))))) = some r := by rw [if_pos rfl] at H; exact H
                          clear H
                          have H := H1
                          clear H1
                          replace H := Option.bind_eq_some_iff.mp H
                          obtain ⟨t191, A650, H⟩ := H
                          replace H : ((kilnlaw1_join.f k2 l0).bind fun t192 => ((wire_Sum.f (([t192] : List (List Int)))).bind fun t198 => (if t191 = t198 then ((wire_Sum.f (([l1, l2] : List (List Int)))).bind fun t202 => ((kilnlaw1_join.f k2 (([l1, l2] : List (List Int)))).bind fun t206 => ((wire_Sum.f (([t206] : List (List Int)))).bind fun t212 => (some (t202 == t212))))) else (some false)))) = some r := H
                          have A65 := Aside0.mk A650
                          clear A650
                          replace H := Option.bind_eq_some_iff.mp H
                          obtain ⟨t192, A660, H⟩ := H
                          replace H : ((wire_Sum.f (([t192] : List (List Int)))).bind fun t198 => (if t191 = t198 then ((wire_Sum.f (([l1, l2] : List (List Int)))).bind fun t202 => ((kilnlaw1_join.f k2 (([l1, l2] : List (List Int)))).bind fun t206 => ((wire_Sum.f (([t206] : List (List Int)))).bind fun t212 => (some (t202 == t212))))) else (some false))) = some r := H
                          have A66 := Aside0.mk A660
                          clear A660
                          obtain ⟨y195, hy195⟩ : ∃ y_ : List (List Int), y_ = (([t192] : List (List Int))) := ⟨_, rfl⟩
                          replace H : ((wire_Sum.f y195).bind fun t198 => (if t191 = t198 then ((wire_Sum.f (([l1, l2] : List (List Int)))).bind fun t202 => ((kilnlaw1_join.f k2 (([l1, l2] : List (List Int)))).bind fun t206 => ((wire_Sum.f (([t206] : List (List Int)))).bind fun t212 => (some (t202 == t212))))) else (some false))) = some r := by first | (rw [hy195]; with_reducible exact H) | (have H2_ := (Option.bind_some _ _).symm.trans H; rw [hy195]; with_reducible exact H2_) | (have H2_ := (Option.bind_some _ _).symm.trans H; with_reducible exact H2_) | with_reducible exact H | (rw [hy195]; exact H) | exact H
                          have Ny195 := Aside0.mk hy195
                          clear hy195
                          replace H := Option.bind_eq_some_iff.mp H
                          obtain ⟨t198, A670, H⟩ := H
                          replace H : (if t191 = t198 then ((wire_Sum.f (([l1, l2] : List (List Int)))).bind fun t202 => ((kilnlaw1_join.f k2 (([l1, l2] : List (List Int)))).bind fun t206 => ((wire_Sum.f (([t206] : List (List Int)))).bind fun t212 => (some (t202 == t212))))) else (some false)) = some r := H
                          have A67 := Aside0.mk A670
                          clear A670
                          by_cases c68 : t191 = t198
                          · rw [if_pos c68] at H
                            have c68b0 : (t191 == t198) = true := beq_iff_eq.mpr c68
                            have c68b1 : (t191 != t198) = false := bne_eq_false_iff_eq.mpr c68
                            clear c68
                            obtain ⟨y199, hy199⟩ : ∃ y_ : List (List Int), y_ = (([l1, l2] : List (List Int))) := ⟨_, rfl⟩
                            replace H : ((wire_Sum.f y199).bind fun t202 => ((kilnlaw1_join.f k2 (([l1, l2] : List (List Int)))).bind fun t206 => ((wire_Sum.f (([t206] : List (List Int)))).bind fun t212 => (some (t202 == t212))))) = some r := by first | (rw [hy199]; with_reducible exact H) | (have H2_ := (Option.bind_some _ _).symm.trans H; rw [hy199]; with_reducible exact H2_) | (have H2_ := (Option.bind_some _ _).symm.trans H; with_reducible exact H2_) | with_reducible exact H | (rw [hy199]; exact H) | exact H
                            have Ny199 := Aside0.mk hy199
                            clear hy199
                            replace H := Option.bind_eq_some_iff.mp H
                            obtain ⟨t202, A690, H⟩ := H
                            replace H : ((kilnlaw1_join.f k2 (([l1, l2] : List (List Int)))).bind fun t206 => ((wire_Sum.f (([t206] : List (List Int)))).bind fun t212 => (some (t202 == t212)))) = some r := H
                            have A69 := Aside0.mk A690
                            clear A690
                            obtain ⟨y203, hy203⟩ : ∃ y_ : List (List Int), y_ = (([l1, l2] : List (List Int))) := ⟨_, rfl⟩
                            replace H : ((kilnlaw1_join.f k2 y203).bind fun t206 => ((wire_Sum.f (([t206] : List (List Int)))).bind fun t212 => (some (t202 == t212)))) = some r := by first | (rw [hy203]; with_reducible exact H) | (have H2_ := (Option.bind_some _ _).symm.trans H; rw [hy203]; with_reducible exact H2_) | (have H2_ := (Option.bind_some _ _).symm.trans H; with_reducible exact H2_) | with_reducible exact H | (rw [hy203]; exact H) | exact H
                            have Ny203 := Aside0.mk hy203
                            clear hy203
                            replace H := Option.bind_eq_some_iff.mp H
                            obtain ⟨t206, A700, H⟩ := H
                            replace H : ((wire_Sum.f (([t206] : List (List Int)))).bind fun t212 => (some (t202 == t212))) = some r := H
                            have A70 := Aside0.mk A700
                            clear A700
                            obtain ⟨y209, hy209⟩ : ∃ y_ : List (List Int), y_ = (([t206] : List (List Int))) := ⟨_, rfl⟩
                            replace H : ((wire_Sum.f y209).bind fun t212 => (some (t202 == t212))) = some r := by first | (rw [hy209]; with_reducible exact H) | (have H2_ := (Option.bind_some _ _).symm.trans H; rw [hy209]; with_reducible exact H2_) | (have H2_ := (Option.bind_some _ _).symm.trans H; with_reducible exact H2_) | with_reducible exact H | (rw [hy209]; exact H) | exact H
                            have Ny209 := Aside0.mk hy209
                            clear hy209
                            replace H := Option.bind_eq_some_iff.mp H
                            obtain ⟨t212, A710, H⟩ := H
                            replace H : (some (t202 == t212)) = some r := H
                            have A71 := Aside0.mk A710
                            clear A710
                            obtain rfl := Option.some.inj H
                            try go_wp2
                            have n0_ := Aside0.mk (Kd.V_drew HO_1.out)
                            have n1_ := Aside0.mk (Kd.V_drew HO_2.out)
                            have n2_ := Aside0.mk (Kd.R_drew HO_10.out)
                            have n3_ := Aside0.mk (below_drew1 HB.out)
                            clear HO_1
                            clear HO_2
                            clear HO_10
                            clear HB
                            have HO_1 := n0_
                            have HO_2 := n1_
                            have HO_10 := n2_
                            have HB := n3_
                            clear n0_ n1_ n2_ n3_
                            have q73 : (ji43 : Int) ≤ ((l1.length : Int) : Int) := of_decide_eq_true (by first | (with_reducible assumption) | assumption)
                            obtain ⟨i073, hi073, _, hsz73, _⟩ := info_parts info5
                            have hroom73 : l1.length ≤ c1 := (Kd.V_reads' HO_1.out).2.1
                            have hC73 : Kd.F (Kd.int .u8) _ _ A1 l1.length l1 := (Kd.V_at (base := w.heap.size) HO_1.out).2.2
                            have hcut73 := cut_to (P := Tryd.prog) 23 5 .i64 Tryd.underlying23 hi073 A1 l1.length c1 ji43 (of_decide_eq_true (by first | (with_reducible assumption) | assumption)) q73 hroom73
                            have hr73 := Kd.F_take (m := (ji43 : Int).toNat) hC73 (by omega)
                            have hy73 : y176.length = (ji43 : Int).toNat := (by rw [Ny176.out, List.length_take]; omega)
                            rw [← Ny176.out] at hr73
                            rw [← hy73] at hcut73
                            have HO180 := Aside0.mk (show Kd.V (Kd.int .u8) 5 _ w.heap.size _ (.slice A1 y176.length c1) y176 from Kd.V_mk (by omega) hr73)
                            have HC180 := Aside0.mk (show y176.length ≤ c1 from by omega)
                            clear hr73 hC73 hroom73 hi073 hsz73
                            have KY73 := Aside0.mk hy73
                            clear hy73
                            replace q73 := eq_true q73
                            have q74 : (ji43 : Int) ≤ ((l2.length : Int) : Int) := of_decide_eq_true (by first | (with_reducible assumption) | assumption)
                            obtain ⟨i074, hi074, _, hsz74, _⟩ := info_parts info5
                            have hroom74 : l2.length ≤ c2 := (Kd.V_reads' HO_2.out).2.1
                            have hC74 : Kd.F (Kd.int .u8) _ _ A2 l2.length l2 := (Kd.V_at (base := w.heap.size) HO_2.out).2.2
                            have hcut74 := cut_to (P := Tryd.prog) 23 5 .i64 Tryd.underlying23 hi074 A2 l2.length c2 ji43 (of_decide_eq_true (by first | (with_reducible assumption) | assumption)) q74 hroom74
                            have hr74 := Kd.F_take (m := (ji43 : Int).toNat) hC74 (by omega)
                            have hy74 : y182.length = (ji43 : Int).toNat := (by rw [Ny182.out, List.length_take]; omega)
                            rw [← Ny182.out] at hr74
                            rw [← hy74] at hcut74
                            have HO186 := Aside0.mk (show Kd.V (Kd.int .u8) 5 _ w.heap.size _ (.slice A2 y182.length c2) y182 from Kd.V_mk (by omega) hr74)
                            have HC186 := Aside0.mk (show y182.length ≤ c2 from by omega)
                            clear hr74 hC74 hroom74 hi074 hsz74
                            have KY74 := Aside0.mk hy74
                            clear hy74
                            replace q74 := eq_true q74
                            obtain ⟨i075, hi075, _, hsz75, _⟩ := info_parts info5
                            obtain ⟨hcut75, hA75, hC75⟩ := print_take_of (P := Tryd.prog) (Value.int .u8) 0 23 5 .i64 Tryd.underlying23 hi075 hsz75 A3 c3 l3 ji43 (of_decide_eq_true (by first | (with_reducible assumption) | assumption)) (of_decide_eq_true (by first | (with_reducible assumption) | assumption)) HC3.out
                            have HR188 := Aside0.mk (Kd.C_of_reads (h1 := fun _ => rfl) (hA75 _ (Kd.reads_of_C HR3.out)))
                            have HC188 := Aside0.mk hC75
                            clear hA75 hC75 hi075 hsz75
                            obtain ⟨Ao76, co76, eo76⟩ := Kd.R_slice HO_10.out
                            (first | subst eo76 | (injection eo76 with f1_ f2_ f3_; have f4_ := f1_.symm; have f5_ := f3_.symm; clear f1_ f2_ f3_; subst f4_; subst f5_))
                            refine start_ (n := 21) (S := fun w' => True) (ds := []) #[false, false, false, false, false, false, false, false, false, false, false, false, false, false, false, false, false, false, false, false, false] (by kernel_rfl) rfl rfl trivial (fun hHeld => ?_); refine with_tabW kilnlaw1_WireSums.tab9 kilnlaw1_WireSums.bits9 (fun HT_ HW_ => ?_)
                            generalize wr.drew = w72 at HO_1 HO_2 HO_10 HB HO180 HO186 HR188 hHeld ⊢
                            refine pure_ (i := 0) (N := some 55) (v := ?_) (a' := ?_) #[true, false, false, false, false, false, false, false, false, false, false, false, false, false, false, false, false, false, false, false, false] rfl rfl (any_of HT_.out (by kernel_rfl)) (fun _ _ _ h => h) (Or.inl ⟨by rfl, ?_⟩) ?_ ?_
                            rotate_left
                            · intro w'
                              go_simp
                              with_reducible rfl
                            rotate_left
                            · simp only [Act.put, List.setIfInBounds_toArray, List.set_cons_zero, List.set_cons_succ, i64_w, i32_w]
                              rfl
                            refine pure_ (i := 3) (N := some 58) (v := ?_) (a' := ?_) #[true, false, false, true, false, false, false, false, false, false, false, false, false, false, false, false, false, false, false, false, false] rfl rfl (any_of HT_.out (by kernel_rfl)) (fun _ _ _ h => h) (Or.inl ⟨by rfl, ?_⟩) ?_ ?_
                            rotate_left
                            · intro w'
                              go_simp
                              with_reducible rfl
                            rotate_left
                            · simp only [Act.put, List.setIfInBounds_toArray, List.set_cons_zero, List.set_cons_succ, i64_w, i32_w]
                              rfl
                            refine pure_ (i := 4) (N := some 59) (v := ?_) (a' := ?_) #[true, false, false, true, true, false, false, false, false, false, false, false, false, false, false, false, false, false, false, false, false] rfl rfl (any_of HT_.out (by kernel_rfl)) (fun _ _ _ h => h) (Or.inl ⟨by rfl, ?_⟩) ?_ ?_
                            rotate_left
                            · intro w'
                              go_simp
                              with_reducible rfl
                            rotate_left
                            · simp only [Act.put, List.setIfInBounds_toArray, List.set_cons_zero, List.set_cons_succ, i64_w, i32_w]
                              rfl
                            refine pure_ (i := 5) (N := some 60) (v := ?_) (a' := ?_) #[true, false, false, true, true, true, false, false, false, false, false, false, false, false, false, false, false, false, false, false, false] rfl rfl (any_of HT_.out (by kernel_rfl)) (fun _ _ _ h => h) (Or.inl ⟨by rfl, ?_⟩) ?_ ?_
                            rotate_left
                            · intro w'
                              go_simp
                              with_reducible rfl
                            rotate_left
                            · simp only [Act.put, List.setIfInBounds_toArray, List.set_cons_zero, List.set_cons_succ, i64_w, i32_w]
                              rfl
                            refine pure_ (i := 8) (N := some 63) (v := ?_) (a' := ?_) #[true, false, false, true, true, true, false, false, true, false, false, false, false, false, false, false, false, false, false, false, false] rfl rfl (any_of HT_.out (by kernel_rfl)) (fun _ _ _ h => h) (Or.inl ⟨by rfl, ?_⟩) ?_ ?_
                            rotate_left
                            · intro w'
                              go_simp
                              with_reducible rfl
                            rotate_left
                            · simp only [Act.put, List.setIfInBounds_toArray, List.set_cons_zero, List.set_cons_succ, i64_w, i32_w]
                              rfl
                            refine pure_ (i := 9) (N := some 64) (v := ?_) (a' := ?_) #[true, false, false, true, true, true, false, false, true, true, false, false, false, false, false, false, false, false, false, false, false] rfl rfl (any_of HT_.out (by kernel_rfl)) (fun _ _ _ h => h) (Or.inl ⟨by rfl, ?_⟩) ?_ ?_
                            rotate_left
                            · intro w'
                              go_simp
                              with_reducible rfl
                            rotate_left
                            · simp only [Act.put, List.setIfInBounds_toArray, List.set_cons_zero, List.set_cons_succ, i64_w, i32_w]
                              rfl
                            refine pure_ (i := 10) (N := some 65) (v := ?_) (a' := ?_) #[true, false, false, true, true, true, false, false, true, true, true, false, false, false, false, false, false, false, false, false, false] rfl rfl (any_of HT_.out (by kernel_rfl)) (fun _ _ _ h => h) (Or.inl ⟨by rfl, ?_⟩) ?_ ?_
                            rotate_left
                            · intro w'
                              go_simp
                              with_reducible rfl
                            rotate_left
                            · simp only [Act.put, List.setIfInBounds_toArray, List.set_cons_zero, List.set_cons_succ, i64_w, i32_w]
                              rfl
                            refine pure_ (i := 14) (N := some 69) (v := ?_) (a' := ?_) #[true, false, false, true, true, true, false, false, true, true, true, false, false, false, true, false, false, false, false, false, false] rfl rfl (any_of HT_.out (by kernel_rfl)) (fun _ _ _ h => h) (Or.inl ⟨by rfl, ?_⟩) ?_ ?_
                            rotate_left
                            · intro w'
                              go_simp
                              with_reducible rfl
                            rotate_left
                            · simp only [Act.put, List.setIfInBounds_toArray, List.set_cons_zero, List.set_cons_succ, i64_w, i32_w]
                              rfl
                            refine pure_ (i := 15) (N := some 70) (v := ?_) (a' := ?_) #[true, false, false, true, true, true, false, false, true, true, true, false, false, false, true, true, false, false, false, false, false] rfl rfl (any_of HT_.out (by kernel_rfl)) (fun _ _ _ h => h) (Or.inl ⟨by rfl, ?_⟩) ?_ ?_
                            rotate_left
                            · intro w'
                              go_simp
                              with_reducible rfl
                            rotate_left
                            · simp only [Act.put, List.setIfInBounds_toArray, List.set_cons_zero, List.set_cons_succ, i64_w, i32_w]
                              rfl
                            refine pure_ (i := 16) (N := some 71) (v := ?_) (a' := ?_) #[true, false, false, true, true, true, false, false, true, true, true, false, false, false, true, true, true, false, false, false, false] rfl rfl (any_of HT_.out (by kernel_rfl)) (fun _ _ _ h => h) (Or.inl ⟨by rfl, ?_⟩) ?_ ?_
                            rotate_left
                            · intro w'
                              go_simp
                              with_reducible rfl
                            rotate_left
                            · simp only [Act.put, List.setIfInBounds_toArray, List.set_cons_zero, List.set_cons_succ, i64_w, i32_w]
                              rfl
                            refine V.quad (l1 := x10_2) (l2 := y176) (l3 := y182) (l4 := (l3.take (ji43 : Int).toNat)) (s1 := t175) (s2 := t181) (s3 := t187) (s4 := t189) HT_.out HW_.out (by kernel_rfl) ⟨_, rfl, rfl, rfl, rfl⟩ ⟨_, rfl, rfl, rfl, rfl⟩ ⟨_, rfl, rfl, rfl, rfl⟩ ⟨_, rfl, rfl, rfl, rfl⟩ ⟨_, rfl, rfl, rfl, rfl⟩ ⟨_, rfl, rfl, rfl, rfl⟩ ⟨_, rfl, rfl, rfl, rfl⟩ ⟨_, rfl, rfl, rfl, rfl⟩ ⟨_, rfl, rfl, rfl, rfl⟩ ⟨_, rfl, rfl, rfl, rfl⟩ ⟨_, rfl, rfl, rfl, rfl⟩ (Nat.le_of_ble_eq_true rfl) (by first | rfl | (rw [show (x10_2).length = ji43.toNat from (by rw [List.length_take]; first | omega | (have h_ : (ji43 : Int) ≤ (l3.length : Int) := of_decide_eq_true (by first | (with_reducible assumption) | assumption); omega))]; rfl)) (by first | rfl | (rw [show (y176).length = ji43.toNat from (by rw [List.length_take]; first | omega | (have h_ : (ji43 : Int) ≤ (l3.length : Int) := of_decide_eq_true (by first | (with_reducible assumption) | assumption); omega))]; rfl)) (by first | rfl | (rw [show (y182).length = ji43.toNat from (by rw [List.length_take]; first | omega | (have h_ : (ji43 : Int) ≤ (l3.length : Int) := of_decide_eq_true (by first | (with_reducible assumption) | assumption); omega))]; rfl)) (by first | rfl | (rw [show ((l3.take (ji43 : Int).toNat)).length = ji43.toNat from (by rw [List.length_take]; first | omega | (have h_ : (ji43 : Int) ≤ (l3.length : Int) := of_decide_eq_true (by first | (with_reducible assumption) | assumption); omega))]; rfl)) (Kd.R_reads' HO_10.out).2.1 (by first | exact (Kd.R_reads' HO_10.out).2.2 | exact Kd.C_below ((Kd.R_reads' HO_10.out).2.2) HB.out) A52.out (Kd.V_reads' HO180.out).2.1 (by first | exact (Kd.V_reads' HO180.out).2.2 | exact Kd.C_below ((Kd.V_reads' HO180.out).2.2) HB.out) A55.out (Kd.V_reads' HO186.out).2.1 (by first | exact (Kd.V_reads' HO186.out).2.2 | exact Kd.C_below ((Kd.V_reads' HO186.out).2.2) HB.out) A58.out HC188.out (by first | exact (Kd.C_below HR188.out (by repeat (first | (with_reducible first | exact HB.out | apply below_alloc | apply pw_below_drewN | apply below_drew1) | exact HB.out))) | exact Kd.C_below ((Kd.C_below HR188.out (by repeat (first | (with_reducible first | exact HB.out | apply below_alloc | apply pw_below_drewN | apply below_drew1) | exact HB.out)))) HB.out) A61.out (by first | exact HG.out | exact Half.below HG.out HB.out) ?_
                            intro B1_ k1_ B2_ k2_ B3_ k3_ B4_ k4_ wq_ hbq_
                            (first | (have nq_ := Aside0.mk (Kd.V_below HO_1.out hbq_); clear HO_1; have HO_1 := nq_; clear nq_) | (have nq_ := Aside0.mk (Kd.R_below HO_1.out hbq_); clear HO_1; have HO_1 := nq_; clear nq_) | (have nq_ := Aside0.mk (Kd.C_below HO_1.out hbq_); clear HO_1; have HO_1 := nq_; clear nq_) | skip)
                            (first | (have nq_ := Aside0.mk (Kd.V_below HO_2.out hbq_); clear HO_2; have HO_2 := nq_; clear nq_) | (have nq_ := Aside0.mk (Kd.R_below HO_2.out hbq_); clear HO_2; have HO_2 := nq_; clear nq_) | (have nq_ := Aside0.mk (Kd.C_below HO_2.out hbq_); clear HO_2; have HO_2 := nq_; clear nq_) | skip)
                            (first | (have nq_ := Aside0.mk (Kd.V_below HO_10.out hbq_); clear HO_10; have HO_10 := nq_; clear nq_) | (have nq_ := Aside0.mk (Kd.R_below HO_10.out hbq_); clear HO_10; have HO_10 := nq_; clear nq_) | (have nq_ := Aside0.mk (Kd.C_below HO_10.out hbq_); clear HO_10; have HO_10 := nq_; clear nq_) | skip)
                            (first | (have nq_ := Aside0.mk (Kd.V_below HO180.out hbq_); clear HO180; have HO180 := nq_; clear nq_) | (have nq_ := Aside0.mk (Kd.R_below HO180.out hbq_); clear HO180; have HO180 := nq_; clear nq_) | (have nq_ := Aside0.mk (Kd.C_below HO180.out hbq_); clear HO180; have HO180 := nq_; clear nq_) | skip)
                            (first | (have nq_ := Aside0.mk (Kd.V_below HO186.out hbq_); clear HO186; have HO186 := nq_; clear nq_) | (have nq_ := Aside0.mk (Kd.R_below HO186.out hbq_); clear HO186; have HO186 := nq_; clear nq_) | (have nq_ := Aside0.mk (Kd.C_below HO186.out hbq_); clear HO186; have HO186 := nq_; clear nq_) | skip)
                            (first | (have nq_ := Aside0.mk (Kd.V_below HR188.out hbq_); clear HR188; have HR188 := nq_; clear nq_) | (have nq_ := Aside0.mk (Kd.R_below HR188.out hbq_); clear HR188; have HR188 := nq_; clear nq_) | (have nq_ := Aside0.mk (Kd.C_below HR188.out hbq_); clear HR188; have HR188 := nq_; clear nq_) | skip)
                            have nq_ := Aside0.mk (below_step HB.out hbq_)
                            clear HB
                            have HB := nq_
                            clear nq_ hbq_
                            refine V.norm2 (a' := ?_) ?_ ?_
                            rotate_left
                            · simp only [putAll, Act.put, List.setIfInBounds_toArray, List.set_cons_zero, List.set_cons_succ, i64_w, i32_w, c62b1]
                              rfl
                            try go_wp2_with (first | ((with_reducible refine gate_callee (f := 17) rfl ?_); refine goesL_ (some 76) rfl rfl Tryd.func17 (by kernel_rfl) rfl #[] rfl (by (try simp only [List.map_toArray, List.map_cons, List.map_nil]); first | done | rfl | (simp only [List.length_drop, List.length_take]; rfl)) ?_; (with_reducible refine (kilnlaw1_started.calls k2  true _ ?side1 A63.out).mono ?_); (case side1 => first | exact HG.out | exact Half.below HG.out (by repeat (first | (with_reducible first | exact HB.out | apply below_alloc | apply pw_below_drewN | apply below_drew1) | exact HB.out))); rintro e w77 ⟨rfl, hb⟩; refine ⟨_, rfl, ?_⟩; have n0_ := Aside0.mk (Kd.V_below (by (with_reducible repeat (first | apply Kd.V_alloc | apply Kd.V_drewN | apply Kd.V_drew)); exact HO_1.out) hb); have n1_ := Aside0.mk (Kd.V_below (by (with_reducible repeat (first | apply Kd.V_alloc | apply Kd.V_drewN | apply Kd.V_drew)); exact HO_2.out) hb); have n2_ := Aside0.mk (Kd.R_below (by (with_reducible repeat (first | apply Kd.R_alloc | apply Kd.R_drewN | apply Kd.R_drew)); exact HO_10.out) hb); have n3_ := Aside0.mk (Kd.V_below (by (with_reducible repeat (first | apply Kd.V_alloc | apply Kd.V_drewN | apply Kd.V_drew)); exact HO180.out) hb); have n4_ := Aside0.mk (Kd.V_below (by (with_reducible repeat (first | apply Kd.V_alloc | apply Kd.V_drewN | apply Kd.V_drew)); exact HO186.out) hb); have n5_ := Aside0.mk (below_step (by repeat (first | (with_reducible first | exact HB.out | apply below_alloc | apply pw_below_drewN | apply below_drew1) | exact HB.out)) hb); clear HO_1; clear HO_2; clear HO_10; clear HO180; clear HO186; clear HB; have HO_1 := n0_; have HO_2 := n1_; have HO_10 := n2_; have HO180 := n3_; have HO186 := n4_; have HB := n5_; clear n0_ n1_ n2_ n3_ n4_ n5_; (try clear hb); (try clear hb2); (try clear hk); (try clear hi)) | (go_at_call 16; (with_reducible refine (wire_Sum.calls _ _ l0 t191 _ ?side1 ?side2 ?side3 A65.out).mono ?_); (case side1 => repeat (first | exact (Kd.C_below HR0.out HB.out) | (with_reducible refine Kd.C_alloc ?_ _) | (with_reducible refine Kd.C_drewN ?_ _) | (with_reducible refine Kd.C_drew ?_))); (case side2 => exact HC0.out); (case side3 => first | exact HG.out | exact Half.below HG.out (by repeat (first | (with_reducible first | exact HB.out | apply below_alloc | apply pw_below_drewN | apply below_drew1) | exact HB.out))); rintro e w' ⟨rfl, ⟨nd, rfl⟩⟩) | (go_at_call 18; (with_reducible refine (kilnlaw1_join.calls k2 _ _ l0 t192 _ ?side1 ?side2 A66.out).mono ?_); (case side1 => repeat (first | exact (Kd.C_below HR0.out (by repeat (first | (with_reducible first | exact HB.out | apply below_alloc | apply pw_below_drewN | apply below_drew1) | exact HB.out))) | (with_reducible refine Kd.C_alloc ?_ _) | (with_reducible refine Kd.C_drewN ?_ _) | (with_reducible refine Kd.C_drew ?_))); (case side2 => exact HC0.out); rintro e w78 ⟨v193, rfl, ho0, hb⟩; have n0_ := Aside0.mk (Kd.V_elder' (by (with_reducible repeat (first | apply Kd.V_alloc | apply Kd.V_drewN | apply Kd.V_drew)); exact HO_1.out) (Kd.R_base ho0) hb); have n1_ := Aside0.mk (Kd.V_elder' (by (with_reducible repeat (first | apply Kd.V_alloc | apply Kd.V_drewN | apply Kd.V_drew)); exact HO_2.out) (Kd.R_base ho0) hb); have n2_ := Aside0.mk (Kd.R_elder' (by (with_reducible repeat (first | apply Kd.R_alloc | apply Kd.R_drewN | apply Kd.R_drew)); exact HO_10.out) (Kd.R_base ho0) hb); have n3_ := Aside0.mk (Kd.V_elder' (by (with_reducible repeat (first | apply Kd.V_alloc | apply Kd.V_drewN | apply Kd.V_drew)); exact HO180.out) (Kd.R_base ho0) hb); have n4_ := Aside0.mk (Kd.V_elder' (by (with_reducible repeat (first | apply Kd.V_alloc | apply Kd.V_drewN | apply Kd.V_drew)); exact HO186.out) (Kd.R_base ho0) hb); have n5_ := Aside0.mk (Kd.R_lower (Kd.R_new' (Kd.R_newM (M := fun k_ => (w.heap.size ≤ k_)) ho0 (below_size (by repeat (first | (with_reducible first | exact HB.out | apply below_alloc | apply pw_below_drewN | apply below_drew1) | exact HB.out))) (fun k_ h_ => h_)) (Kd.R_lt (by (with_reducible repeat (first | apply Kd.R_alloc | apply Kd.R_drewN | apply Kd.R_drew)); exact HO_10.out))) (below_size (by repeat (first | (with_reducible first | exact HB.out | apply below_alloc | apply pw_below_drewN | apply below_drew1) | exact HB.out)))); have n6_ := Aside0.mk (below_step (by repeat (first | (with_reducible first | exact HB.out | apply below_alloc | apply pw_below_drewN | apply below_drew1) | exact HB.out)) hb); clear HO_1; clear HO_2; clear HO_10; clear HO180; clear HO186; clear HB; have HO_1 := n0_; have HO_2 := n1_; have HO_10 := n2_; have HO180 := n3_; have HO186 := n4_; have HO194 := n5_; have HB := n6_; clear n0_ n1_ n2_ n3_ n4_ n5_ n6_; (try clear hb); (try clear hb2); (try clear hk); (try clear hi); (try clear ho0); obtain ⟨Ao79, co79, eo79⟩ := Kd.R_slice HO194.out; subst eo79) | ((with_reducible refine gate_dst (N := 82) rfl ?_); (try (refine gate_guard (by rfl) ?_; dsimp only)); refine Kd.N_lit (Kd.slice 5 (Kd.int .u8)) _ 23 ?hg (N' := 82) ?hd (xs := ([t192] : List (List Int))) (inner := [.slice Ao79 t192.length co79]) (ok := (fun k_ => ((P1_ k_ ∨ P2_ k_) ∨ w.heap.size ≤ k_) ∧ some k_ ≠ (.slice Ao76 x10_2.length co76 : Value).ownBlock)) (okp := (fun k_ => ((P1_ k_ ∨ P2_ k_) ∨ w.heap.size ≤ k_) ∧ some k_ ≠ (.slice Ao76 x10_2.length co76 : Value).ownBlock)) ?hr ?hp (fun _ hk => hk) ((show ∀ k_, w78.heap.size ≤ k_ → (fun k_ => ((P1_ k_ ∨ P2_ k_) ∨ w.heap.size ≤ k_) ∧ some k_ ≠ (.slice Ao76 x10_2.length co76 : Value).ownBlock) k_ from fun k_ hk => ⟨(.inr (Nat.le_trans (below_size (by repeat (first | (with_reducible first | exact HB.out | apply below_alloc | apply pw_below_drewN | apply below_drew1) | exact HB.out))) hk)), Kd.fresh' (Kd.R_lt (by (with_reducible repeat (first | apply Kd.R_alloc | apply Kd.R_drewN | apply Kd.R_drew)); exact HO_10.out)) k_ hk⟩) _ (Nat.le_refl _)) (Below.refl _ _) (Nat.le_refl _) (by simp) ?_; (case hd => rfl); (case hg => rfl); (case hr => first | (go_simp; done) | (go_simp; rfl)); (case hp => exact (Reps.one (show Kd.FK (Kd.slice 5 (Kd.int .u8)) _ _ t192 [.slice Ao79 t192.length co79] from (Kd.FK_slice_mk (Kd.R_reads' (Kd.R_mono (ok' := (fun k_ => ((P1_ k_ ∨ P2_ k_) ∨ w.heap.size ≤ k_) ∧ some k_ ≠ (.slice Ao76 x10_2.length co76 : Value).ownBlock)) (HO194.out) (fun k_ hk => ⟨(.inr (hk.1.1)), hk.2⟩))).2.1 (Kd.R_F (Kd.R_mono (ok' := (fun k_ => ((P1_ k_ ∨ P2_ k_) ∨ w.heap.size ≤ k_) ∧ some k_ ≠ (.slice Ao76 x10_2.length co76 : Value).ownBlock)) (HO194.out) (fun k_ hk => ⟨(.inr (hk.1.1)), hk.2⟩))))) (Reps.none _ _))); intro v196 w80 ho81 hb hg_ hnew_; clear hg_ hnew_; (first | rw [← Ny195.out] at ho81 | (simp only [Int.reduceToNat] at ho81; rw [← Ny195.out] at ho81)); have n0_ := Aside0.mk (Kd.V_elder' (by (with_reducible repeat (first | apply Kd.V_alloc | apply Kd.V_drewN | apply Kd.V_drew)); exact HO_1.out) (Kd.N_base ho81) hb); have n1_ := Aside0.mk (Kd.V_elder' (by (with_reducible repeat (first | apply Kd.V_alloc | apply Kd.V_drewN | apply Kd.V_drew)); exact HO_2.out) (Kd.N_base ho81) hb); have n2_ := Aside0.mk (Kd.R_below (by (with_reducible repeat (first | apply Kd.R_alloc | apply Kd.R_drewN | apply Kd.R_drew)); exact HO_10.out) hb); have n3_ := Aside0.mk (Kd.V_elder' (by (with_reducible repeat (first | apply Kd.V_alloc | apply Kd.V_drewN | apply Kd.V_drew)); exact HO180.out) (Kd.N_base ho81) hb); have n4_ := Aside0.mk (Kd.V_elder' (by (with_reducible repeat (first | apply Kd.V_alloc | apply Kd.V_drewN | apply Kd.V_drew)); exact HO186.out) (Kd.N_base ho81) hb); have n5_ := Aside0.mk (Kd.N_lower ho81 (below_size (by repeat (first | (with_reducible first | exact HB.out | apply below_alloc | apply pw_below_drewN | apply below_drew1) | exact HB.out)))); have n6_ := Aside0.mk (below_step (by repeat (first | (with_reducible first | exact HB.out | apply below_alloc | apply pw_below_drewN | apply below_drew1) | exact HB.out)) hb); clear HO_1; clear HO_2; clear HO_10; clear HO180; clear HO186; clear HB; clear HO194; have HO_1 := n0_; have HO_2 := n1_; have HO_10 := n2_; have HO180 := n3_; have HO186 := n4_; have HO197 := n5_; have HB := n6_; clear n0_ n1_ n2_ n3_ n4_ n5_ n6_; clear hb ho81; obtain ⟨Ao82, co82, eo82⟩ := Kd.N_slice HO197.out; subst eo82) | (go_at_call 16; (with_reducible refine (wire_Sum.calls _ _ y195 t198 _ ?side1 ?side2 ?side3 A67.out).mono ?_); (case side1 => repeat (first | exact (Kd.N_reads' HO197.out).2.2 | (with_reducible refine Kd.C_alloc ?_ _) | (with_reducible refine Kd.C_drewN ?_ _) | (with_reducible refine Kd.C_drew ?_))); (case side2 => exact (Kd.N_reads' HO197.out).2.1); (case side3 => first | exact HG.out | exact Half.below HG.out (by repeat (first | (with_reducible first | exact HB.out | apply below_alloc | apply pw_below_drewN | apply below_drew1) | exact HB.out))); rintro e w' ⟨rfl, ⟨nd, rfl⟩⟩) | ((with_reducible refine gate_dst (N := 89) rfl ?_); (try (refine gate_guard (by rfl) ?_; dsimp only)); refine Kd.N_lit (Kd.slice 5 (Kd.int .u8)) _ 23 ?hg (N' := 89) ?hd (xs := ([l1, l2] : List (List Int))) (inner := [.slice A1 l1.length c1, .slice A2 l2.length c2]) (ok := (fun k_ => ((P1_ k_ ∨ P2_ k_) ∨ w.heap.size ≤ k_) ∧ some k_ ≠ (.slice Ao76 x10_2.length co76 : Value).ownBlock ∧ some k_ ≠ (.slice Ao82 y195.length co82 : Value).ownBlock)) (okp := (fun k_ => ((P1_ k_ ∨ P2_ k_) ∨ w.heap.size ≤ k_) ∧ some k_ ≠ (.slice Ao76 x10_2.length co76 : Value).ownBlock ∧ some k_ ≠ (.slice Ao82 y195.length co82 : Value).ownBlock)) ?hr ?hp (fun _ hk => hk) ((show ∀ k_, w80.heap.size ≤ k_ → (fun k_ => ((P1_ k_ ∨ P2_ k_) ∨ w.heap.size ≤ k_) ∧ some k_ ≠ (.slice Ao76 x10_2.length co76 : Value).ownBlock ∧ some k_ ≠ (.slice Ao82 y195.length co82 : Value).ownBlock) k_ from fun k_ hk => ⟨(.inr (Nat.le_trans (below_size (by repeat (first | (with_reducible first | exact HB.out | apply below_alloc | apply pw_below_drewN | apply below_drew1) | exact HB.out))) hk)), Kd.fresh' (Kd.R_lt (by (with_reducible repeat (first | apply Kd.R_alloc | apply Kd.R_drewN | apply Kd.R_drew)); exact HO_10.out)) k_ hk, Kd.fresh' (Kd.N_lt (by (with_reducible repeat (first | apply Kd.N_alloc | apply Kd.N_drewN | apply Kd.N_drew)); exact HO197.out)) k_ hk⟩) _ (Nat.le_refl _)) (Below.refl _ _) (Nat.le_refl _) (by simp) ?_; (case hd => rfl); (case hg => rfl); (case hr => first | (go_simp; done) | (go_simp; rfl)); (case hp => exact (Reps.one (show Kd.FK (Kd.slice 5 (Kd.int .u8)) _ _ l1 [.slice A1 l1.length c1] from (Kd.FK_slice_mk (Kd.V_reads' (Kd.V_mono (ok' := (fun k_ => ((P1_ k_ ∨ P2_ k_) ∨ w.heap.size ≤ k_) ∧ some k_ ≠ (.slice Ao76 x10_2.length co76 : Value).ownBlock ∧ some k_ ≠ (.slice Ao82 y195.length co82 : Value).ownBlock)) (HO_1.out) (fun k_ hk => ⟨hk.1.1.1, ⟨hk.1.1.2, hk.2⟩⟩))).2.1 (Kd.V_F (Kd.V_mono (ok' := (fun k_ => ((P1_ k_ ∨ P2_ k_) ∨ w.heap.size ≤ k_) ∧ some k_ ≠ (.slice Ao76 x10_2.length co76 : Value).ownBlock ∧ some k_ ≠ (.slice Ao82 y195.length co82 : Value).ownBlock)) (Kd.V_drewN HO_1.out _) (fun k_ hk => ⟨hk.1.1.1, ⟨hk.1.1.2, hk.2⟩⟩))))) (Reps.one (show Kd.FK (Kd.slice 5 (Kd.int .u8)) _ _ l2 [.slice A2 l2.length c2] from (Kd.FK_slice_mk (Kd.V_reads' (Kd.V_mono (ok' := (fun k_ => ((P1_ k_ ∨ P2_ k_) ∨ w.heap.size ≤ k_) ∧ some k_ ≠ (.slice Ao76 x10_2.length co76 : Value).ownBlock ∧ some k_ ≠ (.slice Ao82 y195.length co82 : Value).ownBlock)) (HO_2.out) (fun k_ hk => ⟨hk.1.1.1, ⟨hk.1.1.2, hk.2⟩⟩))).2.1 (Kd.V_F (Kd.V_mono (ok' := (fun k_ => ((P1_ k_ ∨ P2_ k_) ∨ w.heap.size ≤ k_) ∧ some k_ ≠ (.slice Ao76 x10_2.length co76 : Value).ownBlock ∧ some k_ ≠ (.slice Ao82 y195.length co82 : Value).ownBlock)) (Kd.V_drewN HO_2.out _) (fun k_ hk => ⟨hk.1.1.1, ⟨hk.1.1.2, hk.2⟩⟩))))) (Reps.none _ _)))); intro v200 w83 ho84 hb hg_ hnew_; clear hg_ hnew_; (first | rw [← Ny199.out] at ho84 | (simp only [Int.reduceToNat] at ho84; rw [← Ny199.out] at ho84)); have n0_ := Aside0.mk (Kd.V_elder' (by (with_reducible repeat (first | apply Kd.V_alloc | apply Kd.V_drewN | apply Kd.V_drew)); exact HO_1.out) (Kd.N_base ho84) hb); have n1_ := Aside0.mk (Kd.V_elder' (by (with_reducible repeat (first | apply Kd.V_alloc | apply Kd.V_drewN | apply Kd.V_drew)); exact HO_2.out) (Kd.N_base ho84) hb); have n2_ := Aside0.mk (Kd.R_below (by (with_reducible repeat (first | apply Kd.R_alloc | apply Kd.R_drewN | apply Kd.R_drew)); exact HO_10.out) hb); have n3_ := Aside0.mk (Kd.V_elder' (by (with_reducible repeat (first | apply Kd.V_alloc | apply Kd.V_drewN | apply Kd.V_drew)); exact HO180.out) (Kd.N_base ho84) hb); have n4_ := Aside0.mk (Kd.V_elder' (by (with_reducible repeat (first | apply Kd.V_alloc | apply Kd.V_drewN | apply Kd.V_drew)); exact HO186.out) (Kd.N_base ho84) hb); have n5_ := Aside0.mk (Kd.N_elder' (by (with_reducible repeat (first | apply Kd.N_alloc | apply Kd.N_drewN | apply Kd.N_drew)); exact HO197.out) (Kd.N_base ho84) hb); have n6_ := Aside0.mk (Kd.N_lower ho84 (below_size (by repeat (first | (with_reducible first | exact HB.out | apply below_alloc | apply pw_below_drewN | apply below_drew1) | exact HB.out)))); have n7_ := Aside0.mk (below_step (by repeat (first | (with_reducible first | exact HB.out | apply below_alloc | apply pw_below_drewN | apply below_drew1) | exact HB.out)) hb); clear HO_1; clear HO_2; clear HO_10; clear HO180; clear HO186; clear HO197; clear HB; have HO_1 := n0_; have HO_2 := n1_; have HO_10 := n2_; have HO180 := n3_; have HO186 := n4_; have HO197 := n5_; have HO201 := n6_; have HB := n7_; clear n0_ n1_ n2_ n3_ n4_ n5_ n6_ n7_; clear hb ho84; obtain ⟨Ao85, co85, eo85⟩ := Kd.N_slice HO201.out; subst eo85) | (go_at_call 16; (with_reducible refine (wire_Sum.calls _ _ y199 t202 _ ?side1 ?side2 ?side3 A69.out).mono ?_); (case side1 => repeat (first | exact (Kd.N_reads' HO201.out).2.2 | (with_reducible refine Kd.C_alloc ?_ _) | (with_reducible refine Kd.C_drewN ?_ _) | (with_reducible refine Kd.C_drew ?_))); (case side2 => exact (Kd.N_reads' HO201.out).2.1); (case side3 => first | exact HG.out | exact Half.below HG.out (by repeat (first | (with_reducible first | exact HB.out | apply below_alloc | apply pw_below_drewN | apply below_drew1) | exact HB.out))); rintro e w' ⟨rfl, ⟨nd, rfl⟩⟩) | ((with_reducible refine gate_dst (N := 93) rfl ?_); (try (refine gate_guard (by rfl) ?_; dsimp only)); refine Kd.N_lit (Kd.slice 5 (Kd.int .u8)) _ 23 ?hg (N' := 93) ?hd (xs := ([l1, l2] : List (List Int))) (inner := [.slice A1 l1.length c1, .slice A2 l2.length c2]) (ok := (fun k_ => ((P1_ k_ ∨ P2_ k_) ∨ w.heap.size ≤ k_) ∧ some k_ ≠ (.slice Ao76 x10_2.length co76 : Value).ownBlock ∧ some k_ ≠ (.slice Ao82 y195.length co82 : Value).ownBlock ∧ some k_ ≠ (.slice Ao85 y199.length co85 : Value).ownBlock)) (okp := (fun k_ => ((P1_ k_ ∨ P2_ k_) ∨ w.heap.size ≤ k_) ∧ some k_ ≠ (.slice Ao76 x10_2.length co76 : Value).ownBlock ∧ some k_ ≠ (.slice Ao82 y195.length co82 : Value).ownBlock ∧ some k_ ≠ (.slice Ao85 y199.length co85 : Value).ownBlock)) ?hr ?hp (fun _ hk => hk) ((show ∀ k_, w83.heap.size ≤ k_ → (fun k_ => ((P1_ k_ ∨ P2_ k_) ∨ w.heap.size ≤ k_) ∧ some k_ ≠ (.slice Ao76 x10_2.length co76 : Value).ownBlock ∧ some k_ ≠ (.slice Ao82 y195.length co82 : Value).ownBlock ∧ some k_ ≠ (.slice Ao85 y199.length co85 : Value).ownBlock) k_ from fun k_ hk => ⟨(.inr (Nat.le_trans (below_size (by repeat (first | (with_reducible first | exact HB.out | apply below_alloc | apply pw_below_drewN | apply below_drew1) | exact HB.out))) hk)), Kd.fresh' (Kd.R_lt (by (with_reducible repeat (first | apply Kd.R_alloc | apply Kd.R_drewN | apply Kd.R_drew)); exact HO_10.out)) k_ hk, Kd.fresh' (Kd.N_lt (by (with_reducible repeat (first | apply Kd.N_alloc | apply Kd.N_drewN | apply Kd.N_drew)); exact HO197.out)) k_ hk, Kd.fresh' (Kd.N_lt (by (with_reducible repeat (first | apply Kd.N_alloc | apply Kd.N_drewN | apply Kd.N_drew)); exact HO201.out)) k_ hk⟩) _ (Nat.le_refl _)) (Below.refl _ _) (Nat.le_refl _) (by simp) ?_; (case hd => rfl); (case hg => rfl); (case hr => first | (go_simp; done) | (go_simp; rfl)); (case hp => exact (Reps.one (show Kd.FK (Kd.slice 5 (Kd.int .u8)) _ _ l1 [.slice A1 l1.length c1] from (Kd.FK_slice_mk (Kd.V_reads' (Kd.V_mono (ok' := (fun k_ => ((P1_ k_ ∨ P2_ k_) ∨ w.heap.size ≤ k_) ∧ some k_ ≠ (.slice Ao76 x10_2.length co76 : Value).ownBlock ∧ some k_ ≠ (.slice Ao82 y195.length co82 : Value).ownBlock ∧ some k_ ≠ (.slice Ao85 y199.length co85 : Value).ownBlock)) (HO_1.out) (fun k_ hk => ⟨hk.1.1.1.1, ⟨hk.1.1.1.2, ⟨hk.1.2, hk.2⟩⟩⟩))).2.1 (Kd.V_F (Kd.V_mono (ok' := (fun k_ => ((P1_ k_ ∨ P2_ k_) ∨ w.heap.size ≤ k_) ∧ some k_ ≠ (.slice Ao76 x10_2.length co76 : Value).ownBlock ∧ some k_ ≠ (.slice Ao82 y195.length co82 : Value).ownBlock ∧ some k_ ≠ (.slice Ao85 y199.length co85 : Value).ownBlock)) (Kd.V_drewN HO_1.out _) (fun k_ hk => ⟨hk.1.1.1.1, ⟨hk.1.1.1.2, ⟨hk.1.2, hk.2⟩⟩⟩))))) (Reps.one (show Kd.FK (Kd.slice 5 (Kd.int .u8)) _ _ l2 [.slice A2 l2.length c2] from (Kd.FK_slice_mk (Kd.V_reads' (Kd.V_mono (ok' := (fun k_ => ((P1_ k_ ∨ P2_ k_) ∨ w.heap.size ≤ k_) ∧ some k_ ≠ (.slice Ao76 x10_2.length co76 : Value).ownBlock ∧ some k_ ≠ (.slice Ao82 y195.length co82 : Value).ownBlock ∧ some k_ ≠ (.slice Ao85 y199.length co85 : Value).ownBlock)) (HO_2.out) (fun k_ hk => ⟨hk.1.1.1.1, ⟨hk.1.1.1.2, ⟨hk.1.2, hk.2⟩⟩⟩))).2.1 (Kd.V_F (Kd.V_mono (ok' := (fun k_ => ((P1_ k_ ∨ P2_ k_) ∨ w.heap.size ≤ k_) ∧ some k_ ≠ (.slice Ao76 x10_2.length co76 : Value).ownBlock ∧ some k_ ≠ (.slice Ao82 y195.length co82 : Value).ownBlock ∧ some k_ ≠ (.slice Ao85 y199.length co85 : Value).ownBlock)) (Kd.V_drewN HO_2.out _) (fun k_ hk => ⟨hk.1.1.1.1, ⟨hk.1.1.1.2, ⟨hk.1.2, hk.2⟩⟩⟩))))) (Reps.none _ _)))); intro v204 w86 ho87 hb hg_ hnew_; clear hg_ hnew_; (first | rw [← Ny203.out] at ho87 | (simp only [Int.reduceToNat] at ho87; rw [← Ny203.out] at ho87)); have n0_ := Aside0.mk (Kd.V_elder' (by (with_reducible repeat (first | apply Kd.V_alloc | apply Kd.V_drewN | apply Kd.V_drew)); exact HO_1.out) (Kd.N_base ho87) hb); have n1_ := Aside0.mk (Kd.V_elder' (by (with_reducible repeat (first | apply Kd.V_alloc | apply Kd.V_drewN | apply Kd.V_drew)); exact HO_2.out) (Kd.N_base ho87) hb); have n2_ := Aside0.mk (Kd.R_below (by (with_reducible repeat (first | apply Kd.R_alloc | apply Kd.R_drewN | apply Kd.R_drew)); exact HO_10.out) hb); have n3_ := Aside0.mk (Kd.V_elder' (by (with_reducible repeat (first | apply Kd.V_alloc | apply Kd.V_drewN | apply Kd.V_drew)); exact HO180.out) (Kd.N_base ho87) hb); have n4_ := Aside0.mk (Kd.V_elder' (by (with_reducible repeat (first | apply Kd.V_alloc | apply Kd.V_drewN | apply Kd.V_drew)); exact HO186.out) (Kd.N_base ho87) hb); have n5_ := Aside0.mk (Kd.N_elder' (by (with_reducible repeat (first | apply Kd.N_alloc | apply Kd.N_drewN | apply Kd.N_drew)); exact HO197.out) (Kd.N_base ho87) hb); have n6_ := Aside0.mk (Kd.N_elder' (by (with_reducible repeat (first | apply Kd.N_alloc | apply Kd.N_drewN | apply Kd.N_drew)); exact HO201.out) (Kd.N_base ho87) hb); have n7_ := Aside0.mk (Kd.N_lower ho87 (below_size (by repeat (first | (with_reducible first | exact HB.out | apply below_alloc | apply pw_below_drewN | apply below_drew1) | exact HB.out)))); have n8_ := Aside0.mk (below_step (by repeat (first | (with_reducible first | exact HB.out | apply below_alloc | apply pw_below_drewN | apply below_drew1) | exact HB.out)) hb); clear HO_1; clear HO_2; clear HO_10; clear HO180; clear HO186; clear HO197; clear HO201; clear HB; have HO_1 := n0_; have HO_2 := n1_; have HO_10 := n2_; have HO180 := n3_; have HO186 := n4_; have HO197 := n5_; have HO201 := n6_; have HO205 := n7_; have HB := n8_; clear n0_ n1_ n2_ n3_ n4_ n5_ n6_ n7_ n8_; clear hb ho87; obtain ⟨Ao88, co88, eo88⟩ := Kd.N_slice HO205.out; subst eo88) | (go_at_call 18; (with_reducible refine (kilnlaw1_join.calls k2 _ _ y203 t206 _ ?side1 ?side2 A70.out).mono ?_); (case side1 => repeat (first | exact (Kd.N_reads' HO205.out).2.2 | (with_reducible refine Kd.C_alloc ?_ _) | (with_reducible refine Kd.C_drewN ?_ _) | (with_reducible refine Kd.C_drew ?_))); (case side2 => exact (Kd.N_reads' HO205.out).2.1); rintro e w89 ⟨v207, rfl, ho0, hb⟩; have n0_ := Aside0.mk (Kd.V_elder' (by (with_reducible repeat (first | apply Kd.V_alloc | apply Kd.V_drewN | apply Kd.V_drew)); exact HO_1.out) (Kd.R_base ho0) hb); have n1_ := Aside0.mk (Kd.V_elder' (by (with_reducible repeat (first | apply Kd.V_alloc | apply Kd.V_drewN | apply Kd.V_drew)); exact HO_2.out) (Kd.R_base ho0) hb); have n2_ := Aside0.mk (Kd.R_elder' (by (with_reducible repeat (first | apply Kd.R_alloc | apply Kd.R_drewN | apply Kd.R_drew)); exact HO_10.out) (Kd.R_base ho0) hb); have n3_ := Aside0.mk (Kd.V_elder' (by (with_reducible repeat (first | apply Kd.V_alloc | apply Kd.V_drewN | apply Kd.V_drew)); exact HO180.out) (Kd.R_base ho0) hb); have n4_ := Aside0.mk (Kd.V_elder' (by (with_reducible repeat (first | apply Kd.V_alloc | apply Kd.V_drewN | apply Kd.V_drew)); exact HO186.out) (Kd.R_base ho0) hb); have n5_ := Aside0.mk (Kd.N_elder' (by (with_reducible repeat (first | apply Kd.N_alloc | apply Kd.N_drewN | apply Kd.N_drew)); exact HO197.out) (Kd.R_base ho0) hb); have n6_ := Aside0.mk (Kd.N_elder' (by (with_reducible repeat (first | apply Kd.N_alloc | apply Kd.N_drewN | apply Kd.N_drew)); exact HO201.out) (Kd.R_base ho0) hb); have n7_ := Aside0.mk (Kd.N_elder' (by (with_reducible repeat (first | apply Kd.N_alloc | apply Kd.N_drewN | apply Kd.N_drew)); exact HO205.out) (Kd.R_base ho0) hb); have n8_ := Aside0.mk (Kd.R_lower (Kd.R_new' (Kd.R_newM (M := fun k_ => (w.heap.size ≤ k_)) ho0 (below_size (by repeat (first | (with_reducible first | exact HB.out | apply below_alloc | apply pw_below_drewN | apply below_drew1) | exact HB.out))) (fun k_ h_ => h_)) (Kd.R_lt (by (with_reducible repeat (first | apply Kd.R_alloc | apply Kd.R_drewN | apply Kd.R_drew)); exact HO_10.out))) (below_size (by repeat (first | (with_reducible first | exact HB.out | apply below_alloc | apply pw_below_drewN | apply below_drew1) | exact HB.out)))); have n9_ := Aside0.mk (below_step (by repeat (first | (with_reducible first | exact HB.out | apply below_alloc | apply pw_below_drewN | apply below_drew1) | exact HB.out)) hb); clear HO_1; clear HO_2; clear HO_10; clear HO180; clear HO186; clear HO197; clear HO201; clear HO205; clear HB; have HO_1 := n0_; have HO_2 := n1_; have HO_10 := n2_; have HO180 := n3_; have HO186 := n4_; have HO197 := n5_; have HO201 := n6_; have HO205 := n7_; have HO208 := n8_; have HB := n9_; clear n0_ n1_ n2_ n3_ n4_ n5_ n6_ n7_ n8_ n9_; (try clear hb); (try clear hb2); (try clear hk); (try clear hi); (try clear ho0); obtain ⟨Ao90, co90, eo90⟩ := Kd.R_slice HO208.out; subst eo90) | ((with_reducible refine gate_dst (N := 95) rfl ?_); (try (refine gate_guard (by rfl) ?_; dsimp only)); refine Kd.N_lit (Kd.slice 5 (Kd.int .u8)) _ 23 ?hg (N' := 95) ?hd (xs := ([t206] : List (List Int))) (inner := [.slice Ao90 t206.length co90]) (ok := (fun k_ => ((P1_ k_ ∨ P2_ k_) ∨ w.heap.size ≤ k_) ∧ some k_ ≠ (.slice Ao76 x10_2.length co76 : Value).ownBlock ∧ some k_ ≠ (.slice Ao82 y195.length co82 : Value).ownBlock ∧ some k_ ≠ (.slice Ao85 y199.length co85 : Value).ownBlock ∧ some k_ ≠ (.slice Ao88 y203.length co88 : Value).ownBlock)) (okp := (fun k_ => ((P1_ k_ ∨ P2_ k_) ∨ w.heap.size ≤ k_) ∧ some k_ ≠ (.slice Ao76 x10_2.length co76 : Value).ownBlock ∧ some k_ ≠ (.slice Ao82 y195.length co82 : Value).ownBlock ∧ some k_ ≠ (.slice Ao85 y199.length co85 : Value).ownBlock ∧ some k_ ≠ (.slice Ao88 y203.length co88 : Value).ownBlock)) ?hr ?hp (fun _ hk => hk) ((show ∀ k_, w89.heap.size ≤ k_ → (fun k_ => ((P1_ k_ ∨ P2_ k_) ∨ w.heap.size ≤ k_) ∧ some k_ ≠ (.slice Ao76 x10_2.length co76 : Value).ownBlock ∧ some k_ ≠ (.slice Ao82 y195.length co82 : Value).ownBlock ∧ some k_ ≠ (.slice Ao85 y199.length co85 : Value).ownBlock ∧ some k_ ≠ (.slice Ao88 y203.length co88 : Value).ownBlock) k_ from fun k_ hk => ⟨(.inr (Nat.le_trans (below_size (by repeat (first | (with_reducible first | exact HB.out | apply below_alloc | apply pw_below_drewN | apply below_drew1) | exact HB.out))) hk)), Kd.fresh' (Kd.R_lt (by (with_reducible repeat (first | apply Kd.R_alloc | apply Kd.R_drewN | apply Kd.R_drew)); exact HO_10.out)) k_ hk, Kd.fresh' (Kd.N_lt (by (with_reducible repeat (first | apply Kd.N_alloc | apply Kd.N_drewN | apply Kd.N_drew)); exact HO197.out)) k_ hk, Kd.fresh' (Kd.N_lt (by (with_reducible repeat (first | apply Kd.N_alloc | apply Kd.N_drewN | apply Kd.N_drew)); exact HO201.out)) k_ hk, Kd.fresh' (Kd.N_lt (by (with_reducible repeat (first | apply Kd.N_alloc | apply Kd.N_drewN | apply Kd.N_drew)); exact HO205.out)) k_ hk⟩) _ (Nat.le_refl _)) (Below.refl _ _) (Nat.le_refl _) (by simp) ?_; (case hd => rfl); (case hg => rfl); (case hr => first | (go_simp; done) | (go_simp; rfl)); (case hp => exact (Reps.one (show Kd.FK (Kd.slice 5 (Kd.int .u8)) _ _ t206 [.slice Ao90 t206.length co90] from (Kd.FK_slice_mk (Kd.R_reads' (Kd.R_mono (ok' := (fun k_ => ((P1_ k_ ∨ P2_ k_) ∨ w.heap.size ≤ k_) ∧ some k_ ≠ (.slice Ao76 x10_2.length co76 : Value).ownBlock ∧ some k_ ≠ (.slice Ao82 y195.length co82 : Value).ownBlock ∧ some k_ ≠ (.slice Ao85 y199.length co85 : Value).ownBlock ∧ some k_ ≠ (.slice Ao88 y203.length co88 : Value).ownBlock)) (Kd.R_apart' (Kd.R_apart' (Kd.R_apart' (HO208.out) (Kd.N_typed HO197.out) (by decide)) (Kd.N_typed HO201.out) (by decide)) (Kd.N_typed HO205.out) (by decide)) (fun k_ hk => ⟨(.inr (hk.1.1.1.1.1)), ⟨hk.1.1.1.2, ⟨hk.1.1.2, ⟨hk.1.2, hk.2⟩⟩⟩⟩))).2.1 (Kd.R_F (Kd.R_mono (ok' := (fun k_ => ((P1_ k_ ∨ P2_ k_) ∨ w.heap.size ≤ k_) ∧ some k_ ≠ (.slice Ao76 x10_2.length co76 : Value).ownBlock ∧ some k_ ≠ (.slice Ao82 y195.length co82 : Value).ownBlock ∧ some k_ ≠ (.slice Ao85 y199.length co85 : Value).ownBlock ∧ some k_ ≠ (.slice Ao88 y203.length co88 : Value).ownBlock)) (Kd.R_apart' (Kd.R_apart' (Kd.R_apart' (HO208.out) (Kd.N_typed HO197.out) (by decide)) (Kd.N_typed HO201.out) (by decide)) (Kd.N_typed HO205.out) (by decide)) (fun k_ hk => ⟨(.inr (hk.1.1.1.1.1)), ⟨hk.1.1.1.2, ⟨hk.1.1.2, ⟨hk.1.2, hk.2⟩⟩⟩⟩))))) (Reps.none _ _))); intro v210 w91 ho92 hb hg_ hnew_; clear hg_ hnew_; (first | rw [← Ny209.out] at ho92 | (simp only [Int.reduceToNat] at ho92; rw [← Ny209.out] at ho92)); have n0_ := Aside0.mk (Kd.V_elder' (by (with_reducible repeat (first | apply Kd.V_alloc | apply Kd.V_drewN | apply Kd.V_drew)); exact HO_1.out) (Kd.N_base ho92) hb); have n1_ := Aside0.mk (Kd.V_elder' (by (with_reducible repeat (first | apply Kd.V_alloc | apply Kd.V_drewN | apply Kd.V_drew)); exact HO_2.out) (Kd.N_base ho92) hb); have n2_ := Aside0.mk (Kd.R_below (by (with_reducible repeat (first | apply Kd.R_alloc | apply Kd.R_drewN | apply Kd.R_drew)); exact HO_10.out) hb); have n3_ := Aside0.mk (Kd.V_elder' (by (with_reducible repeat (first | apply Kd.V_alloc | apply Kd.V_drewN | apply Kd.V_drew)); exact HO180.out) (Kd.N_base ho92) hb); have n4_ := Aside0.mk (Kd.V_elder' (by (with_reducible repeat (first | apply Kd.V_alloc | apply Kd.V_drewN | apply Kd.V_drew)); exact HO186.out) (Kd.N_base ho92) hb); have n5_ := Aside0.mk (Kd.N_elder' (by (with_reducible repeat (first | apply Kd.N_alloc | apply Kd.N_drewN | apply Kd.N_drew)); exact HO197.out) (Kd.N_base ho92) hb); have n6_ := Aside0.mk (Kd.N_elder' (by (with_reducible repeat (first | apply Kd.N_alloc | apply Kd.N_drewN | apply Kd.N_drew)); exact HO201.out) (Kd.N_base ho92) hb); have n7_ := Aside0.mk (Kd.N_elder' (by (with_reducible repeat (first | apply Kd.N_alloc | apply Kd.N_drewN | apply Kd.N_drew)); exact HO205.out) (Kd.N_base ho92) hb); have n8_ := Aside0.mk (Kd.N_lower ho92 (below_size (by repeat (first | (with_reducible first | exact HB.out | apply below_alloc | apply pw_below_drewN | apply below_drew1) | exact HB.out)))); have n9_ := Aside0.mk (below_step (by repeat (first | (with_reducible first | exact HB.out | apply below_alloc | apply pw_below_drewN | apply below_drew1) | exact HB.out)) hb); clear HO_1; clear HO_2; clear HO_10; clear HO180; clear HO186; clear HO197; clear HO201; clear HO205; clear HB; clear HO208; have HO_1 := n0_; have HO_2 := n1_; have HO_10 := n2_; have HO180 := n3_; have HO186 := n4_; have HO197 := n5_; have HO201 := n6_; have HO205 := n7_; have HO211 := n8_; have HB := n9_; clear n0_ n1_ n2_ n3_ n4_ n5_ n6_ n7_ n8_ n9_; clear hb ho92; obtain ⟨Ao93, co93, eo93⟩ := Kd.N_slice HO211.out; subst eo93) | (go_at_call 16; (with_reducible refine (wire_Sum.calls _ _ y209 t212 _ ?side1 ?side2 ?side3 A71.out).mono ?_); (case side1 => repeat (first | exact (Kd.N_reads' HO211.out).2.2 | (with_reducible refine Kd.C_alloc ?_ _) | (with_reducible refine Kd.C_drewN ?_ _) | (with_reducible refine Kd.C_drew ?_))); (case side2 => exact (Kd.N_reads' HO211.out).2.1); (case side3 => first | exact HG.out | exact Half.below HG.out (by repeat (first | (with_reducible first | exact HB.out | apply below_alloc | apply pw_below_drewN | apply below_drew1) | exact HB.out))); rintro e w' ⟨rfl, ⟨nd, rfl⟩⟩))
                            go_ret
                            exact ⟨by first | rfl | (simp [errW_none, errW_some] <;> rfl) | (simp only [← hji42, ← hji43]; first | rfl | (simp [errW_none, errW_some] <;> rfl)) | (simp [*, errW_none, errW_some] <;> rfl), by repeat (first | (with_reducible first | exact HB.out | apply below_alloc | apply pw_below_drewN | apply below_drew1) | exact HB.out)⟩
                          · rw [if_neg c68] at H
                            have c68b0 : (t191 == t198) = false := beq_eq_false_iff_ne.mpr c68
                            have c68b1 : (t191 != t198) = true := bne_iff_ne.mpr c68
                            obtain rfl := Option.some.inj H
                            try go_wp2
                            have n0_ := Aside0.mk (Kd.V_drew HO_1.out)
                            have n1_ := Aside0.mk (Kd.V_drew HO_2.out)
                            have n2_ := Aside0.mk (Kd.R_drew HO_10.out)
                            have n3_ := Aside0.mk (below_drew1 HB.out)
                            clear HO_1
                            clear HO_2
                            clear HO_10
                            clear HB
                            have HO_1 := n0_
                            have HO_2 := n1_
                            have HO_10 := n2_
                            have HB := n3_
                            clear n0_ n1_ n2_ n3_
                            have q95 : (ji43 : Int) ≤ ((l1.length : Int) : Int) := of_decide_eq_true (by first | (with_reducible assumption) | assumption)
                            obtain ⟨i095, hi095, _, hsz95, _⟩ := info_parts info5
                            have hroom95 : l1.length ≤ c1 := (Kd.V_reads' HO_1.out).2.1
                            have hC95 : Kd.F (Kd.int .u8) _ _ A1 l1.length l1 := (Kd.V_at (base := w.heap.size) HO_1.out).2.2
                            have hcut95 := cut_to (P := Tryd.prog) 23 5 .i64 Tryd.underlying23 hi095 A1 l1.length c1 ji43 (of_decide_eq_true (by first | (with_reducible assumption) | assumption)) q95 hroom95
                            have hr95 := Kd.F_take (m := (ji43 : Int).toNat) hC95 (by omega)
                            have hy95 : y176.length = (ji43 : Int).toNat := (by rw [Ny176.out, List.length_take]; omega)
                            rw [← Ny176.out] at hr95
                            rw [← hy95] at hcut95
                            have HO180 := Aside0.mk (show Kd.V (Kd.int .u8) 5 _ w.heap.size _ (.slice A1 y176.length c1) y176 from Kd.V_mk (by omega) hr95)
                            have HC180 := Aside0.mk (show y176.length ≤ c1 from by omega)
                            clear hr95 hC95 hroom95 hi095 hsz95
                            have KY95 := Aside0.mk hy95
                            clear hy95
                            replace q95 := eq_true q95
                            have q96 : (ji43 : Int) ≤ ((l2.length : Int) : Int) := of_decide_eq_true (by first | (with_reducible assumption) | assumption)
                            obtain ⟨i096, hi096, _, hsz96, _⟩ := info_parts info5
                            have hroom96 : l2.length ≤ c2 := (Kd.V_reads' HO_2.out).2.1
                            have hC96 : Kd.F (Kd.int .u8) _ _ A2 l2.length l2 := (Kd.V_at (base := w.heap.size) HO_2.out).2.2
                            have hcut96 := cut_to (P := Tryd.prog) 23 5 .i64 Tryd.underlying23 hi096 A2 l2.length c2 ji43 (of_decide_eq_true (by first | (with_reducible assumption) | assumption)) q96 hroom96
                            have hr96 := Kd.F_take (m := (ji43 : Int).toNat) hC96 (by omega)
                            have hy96 : y182.length = (ji43 : Int).toNat := (by rw [Ny182.out, List.length_take]; omega)
                            rw [← Ny182.out] at hr96
                            rw [← hy96] at hcut96
                            have HO186 := Aside0.mk (show Kd.V (Kd.int .u8) 5 _ w.heap.size _ (.slice A2 y182.length c2) y182 from Kd.V_mk (by omega) hr96)
                            have HC186 := Aside0.mk (show y182.length ≤ c2 from by omega)
                            clear hr96 hC96 hroom96 hi096 hsz96
                            have KY96 := Aside0.mk hy96
                            clear hy96
                            replace q96 := eq_true q96
                            obtain ⟨i097, hi097, _, hsz97, _⟩ := info_parts info5
                            obtain ⟨hcut97, hA97, hC97⟩ := print_take_of (P := Tryd.prog) (Value.int .u8) 0 23 5 .i64 Tryd.underlying23 hi097 hsz97 A3 c3 l3 ji43 (of_decide_eq_true (by first | (with_reducible assumption) | assumption)) (of_decide_eq_true (by first | (with_reducible assumption) | assumption)) HC3.out
                            have HR188 := Aside0.mk (Kd.C_of_reads (h1 := fun _ => rfl) (hA97 _ (Kd.reads_of_C HR3.out)))
                            have HC188 := Aside0.mk hC97
                            clear hA97 hC97 hi097 hsz97
                            obtain ⟨Ao98, co98, eo98⟩ := Kd.R_slice HO_10.out
                            (first | subst eo98 | (injection eo98 with f1_ f2_ f3_; have f4_ := f1_.symm; have f5_ := f3_.symm; clear f1_ f2_ f3_; subst f4_; subst f5_))
                            refine start_ (n := 21) (S := fun w' => True) (ds := []) #[false, false, false, false, false, false, false, false, false, false, false, false, false, false, false, false, false, false, false, false, false] (by kernel_rfl) rfl rfl trivial (fun hHeld => ?_); refine with_tabW kilnlaw1_WireSums.tab9 kilnlaw1_WireSums.bits9 (fun HT_ HW_ => ?_)
                            generalize wr.drew = w94 at HO_1 HO_2 HO_10 HB HO180 HO186 HR188 hHeld ⊢
                            refine pure_ (i := 0) (N := some 55) (v := ?_) (a' := ?_) #[true, false, false, false, false, false, false, false, false, false, false, false, false, false, false, false, false, false, false, false, false] rfl rfl (any_of HT_.out (by kernel_rfl)) (fun _ _ _ h => h) (Or.inl ⟨by rfl, ?_⟩) ?_ ?_
                            rotate_left
                            · intro w'
                              go_simp
                              with_reducible rfl
                            rotate_left
                            · simp only [Act.put, List.setIfInBounds_toArray, List.set_cons_zero, List.set_cons_succ, i64_w, i32_w]
                              rfl
                            refine pure_ (i := 3) (N := some 58) (v := ?_) (a' := ?_) #[true, false, false, true, false, false, false, false, false, false, false, false, false, false, false, false, false, false, false, false, false] rfl rfl (any_of HT_.out (by kernel_rfl)) (fun _ _ _ h => h) (Or.inl ⟨by rfl, ?_⟩) ?_ ?_
                            rotate_left
                            · intro w'
                              go_simp
                              with_reducible rfl
                            rotate_left
                            · simp only [Act.put, List.setIfInBounds_toArray, List.set_cons_zero, List.set_cons_succ, i64_w, i32_w]
                              rfl
                            refine pure_ (i := 4) (N := some 59) (v := ?_) (a' := ?_) #[true, false, false, true, true, false, false, false, false, false, false, false, false, false, false, false, false, false, false, false, false] rfl rfl (any_of HT_.out (by kernel_rfl)) (fun _ _ _ h => h) (Or.inl ⟨by rfl, ?_⟩) ?_ ?_
                            rotate_left
                            · intro w'
                              go_simp
                              with_reducible rfl
                            rotate_left
                            · simp only [Act.put, List.setIfInBounds_toArray, List.set_cons_zero, List.set_cons_succ, i64_w, i32_w]
                              rfl
                            refine pure_ (i := 5) (N := some 60) (v := ?_) (a' := ?_) #[true, false, false, true, true, true, false, false, false, false, false, false, false, false, false, false, false, false, false, false, false] rfl rfl (any_of HT_.out (by kernel_rfl)) (fun _ _ _ h => h) (Or.inl ⟨by rfl, ?_⟩) ?_ ?_
                            rotate_left
                            · intro w'
                              go_simp
                              with_reducible rfl
                            rotate_left
                            · simp only [Act.put, List.setIfInBounds_toArray, List.set_cons_zero, List.set_cons_succ, i64_w, i32_w]
                              rfl
                            refine pure_ (i := 8) (N := some 63) (v := ?_) (a' := ?_) #[true, false, false, true, true, true, false, false, true, false, false, false, false, false, false, false, false, false, false, false, false] rfl rfl (any_of HT_.out (by kernel_rfl)) (fun _ _ _ h => h) (Or.inl ⟨by rfl, ?_⟩) ?_ ?_
                            rotate_left
                            · intro w'
                              go_simp
                              with_reducible rfl
                            rotate_left
                            · simp only [Act.put, List.setIfInBounds_toArray, List.set_cons_zero, List.set_cons_succ, i64_w, i32_w]
                              rfl
                            refine pure_ (i := 9) (N := some 64) (v := ?_) (a' := ?_) #[true, false, false, true, true, true, false, false, true, true, false, false, false, false, false, false, false, false, false, false, false] rfl rfl (any_of HT_.out (by kernel_rfl)) (fun _ _ _ h => h) (Or.inl ⟨by rfl, ?_⟩) ?_ ?_
                            rotate_left
                            · intro w'
                              go_simp
                              with_reducible rfl
                            rotate_left
                            · simp only [Act.put, List.setIfInBounds_toArray, List.set_cons_zero, List.set_cons_succ, i64_w, i32_w]
                              rfl
                            refine pure_ (i := 10) (N := some 65) (v := ?_) (a' := ?_) #[true, false, false, true, true, true, false, false, true, true, true, false, false, false, false, false, false, false, false, false, false] rfl rfl (any_of HT_.out (by kernel_rfl)) (fun _ _ _ h => h) (Or.inl ⟨by rfl, ?_⟩) ?_ ?_
                            rotate_left
                            · intro w'
                              go_simp
                              with_reducible rfl
                            rotate_left
                            · simp only [Act.put, List.setIfInBounds_toArray, List.set_cons_zero, List.set_cons_succ, i64_w, i32_w]
                              rfl
                            refine pure_ (i := 14) (N := some 69) (v := ?_) (a' := ?_) #[true, false, false, true, true, true, false, false, true, true, true, false, false, false, true, false, false, false, false, false, false] rfl rfl (any_of HT_.out (by kernel_rfl)) (fun _ _ _ h => h) (Or.inl ⟨by rfl, ?_⟩) ?_ ?_
                            rotate_left
                            · intro w'
                              go_simp
                              with_reducible rfl
                            rotate_left
                            · simp only [Act.put, List.setIfInBounds_toArray, List.set_cons_zero, List.set_cons_succ, i64_w, i32_w]
                              rfl
                            refine pure_ (i := 15) (N := some 70) (v := ?_) (a' := ?_) #[true, false, false, true, true, true, false, false, true, true, true, false, false, false, true, true, false, false, false, false, false] rfl rfl (any_of HT_.out (by kernel_rfl)) (fun _ _ _ h => h) (Or.inl ⟨by rfl, ?_⟩) ?_ ?_
                            rotate_left
                            · intro w'
                              go_simp
                              with_reducible rfl
                            rotate_left
                            · simp only [Act.put, List.setIfInBounds_toArray, List.set_cons_zero, List.set_cons_succ, i64_w, i32_w]
                              rfl
                            refine pure_ (i := 16) (N := some 71) (v := ?_) (a' := ?_) #[true, false, false, true, true, true, false, false, true, true, true, false, false, false, true, true, true, false, false, false, false] rfl rfl (any_of HT_.out (by kernel_rfl)) (fun _ _ _ h => h) (Or.inl ⟨by rfl, ?_⟩) ?_ ?_
                            rotate_left
                            · intro w'
                              go_simp
                              with_reducible rfl
                            rotate_left
                            · simp only [Act.put, List.setIfInBounds_toArray, List.set_cons_zero, List.set_cons_succ, i64_w, i32_w]
                              rfl
                            refine V.quad (l1 := x10_2) (l2 := y176) (l3 := y182) (l4 := (l3.take (ji43 : Int).toNat)) (s1 := t175) (s2 := t181) (s3 := t187) (s4 := t189) HT_.out HW_.out (by kernel_rfl) ⟨_, rfl, rfl, rfl, rfl⟩ ⟨_, rfl, rfl, rfl, rfl⟩ ⟨_, rfl, rfl, rfl, rfl⟩ ⟨_, rfl, rfl, rfl, rfl⟩ ⟨_, rfl, rfl, rfl, rfl⟩ ⟨_, rfl, rfl, rfl, rfl⟩ ⟨_, rfl, rfl, rfl, rfl⟩ ⟨_, rfl, rfl, rfl, rfl⟩ ⟨_, rfl, rfl, rfl, rfl⟩ ⟨_, rfl, rfl, rfl, rfl⟩ ⟨_, rfl, rfl, rfl, rfl⟩ (Nat.le_of_ble_eq_true rfl) (by first | rfl | (rw [show (x10_2).length = ji43.toNat from (by rw [List.length_take]; first | omega | (have h_ : (ji43 : Int) ≤ (l3.length : Int) := of_decide_eq_true (by first | (with_reducible assumption) | assumption); omega))]; rfl)) (by first | rfl | (rw [show (y176).length = ji43.toNat from (by rw [List.length_take]; first | omega | (have h_ : (ji43 : Int) ≤ (l3.length : Int) := of_decide_eq_true (by first | (with_reducible assumption) | assumption); omega))]; rfl)) (by first | rfl | (rw [show (y182).length = ji43.toNat from (by rw [List.length_take]; first | omega | (have h_ : (ji43 : Int) ≤ (l3.length : Int) := of_decide_eq_true (by first | (with_reducible assumption) | assumption); omega))]; rfl)) (by first | rfl | (rw [show ((l3.take (ji43 : Int).toNat)).length = ji43.toNat from (by rw [List.length_take]; first | omega | (have h_ : (ji43 : Int) ≤ (l3.length : Int) := of_decide_eq_true (by first | (with_reducible assumption) | assumption); omega))]; rfl)) (Kd.R_reads' HO_10.out).2.1 (by first | exact (Kd.R_reads' HO_10.out).2.2 | exact Kd.C_below ((Kd.R_reads' HO_10.out).2.2) HB.out) A52.out (Kd.V_reads' HO180.out).2.1 (by first | exact (Kd.V_reads' HO180.out).2.2 | exact Kd.C_below ((Kd.V_reads' HO180.out).2.2) HB.out) A55.out (Kd.V_reads' HO186.out).2.1 (by first | exact (Kd.V_reads' HO186.out).2.2 | exact Kd.C_below ((Kd.V_reads' HO186.out).2.2) HB.out) A58.out HC188.out (by first | exact (Kd.C_below HR188.out (by repeat (first | (with_reducible first | exact HB.out | apply below_alloc | apply pw_below_drewN | apply below_drew1) | exact HB.out))) | exact Kd.C_below ((Kd.C_below HR188.out (by repeat (first | (with_reducible first | exact HB.out | apply below_alloc | apply pw_below_drewN | apply below_drew1) | exact HB.out)))) HB.out) A61.out (by first | exact HG.out | exact Half.below HG.out HB.out) ?_
                            intro B1_ k1_ B2_ k2_ B3_ k3_ B4_ k4_ wq_ hbq_
                            (first | (have nq_ := Aside0.mk (Kd.V_below HO_1.out hbq_); clear HO_1; have HO_1 := nq_; clear nq_) | (have nq_ := Aside0.mk (Kd.R_below HO_1.out hbq_); clear HO_1; have HO_1 := nq_; clear nq_) | (have nq_ := Aside0.mk (Kd.C_below HO_1.out hbq_); clear HO_1; have HO_1 := nq_; clear nq_) | skip)
                            (first | (have nq_ := Aside0.mk (Kd.V_below HO_2.out hbq_); clear HO_2; have HO_2 := nq_; clear nq_) | (have nq_ := Aside0.mk (Kd.R_below HO_2.out hbq_); clear HO_2; have HO_2 := nq_; clear nq_) | (have nq_ := Aside0.mk (Kd.C_below HO_2.out hbq_); clear HO_2; have HO_2 := nq_; clear nq_) | skip)
                            (first | (have nq_ := Aside0.mk (Kd.V_below HO_10.out hbq_); clear HO_10; have HO_10 := nq_; clear nq_) | (have nq_ := Aside0.mk (Kd.R_below HO_10.out hbq_); clear HO_10; have HO_10 := nq_; clear nq_) | (have nq_ := Aside0.mk (Kd.C_below HO_10.out hbq_); clear HO_10; have HO_10 := nq_; clear nq_) | skip)
                            (first | (have nq_ := Aside0.mk (Kd.V_below HO180.out hbq_); clear HO180; have HO180 := nq_; clear nq_) | (have nq_ := Aside0.mk (Kd.R_below HO180.out hbq_); clear HO180; have HO180 := nq_; clear nq_) | (have nq_ := Aside0.mk (Kd.C_below HO180.out hbq_); clear HO180; have HO180 := nq_; clear nq_) | skip)
                            (first | (have nq_ := Aside0.mk (Kd.V_below HO186.out hbq_); clear HO186; have HO186 := nq_; clear nq_) | (have nq_ := Aside0.mk (Kd.R_below HO186.out hbq_); clear HO186; have HO186 := nq_; clear nq_) | (have nq_ := Aside0.mk (Kd.C_below HO186.out hbq_); clear HO186; have HO186 := nq_; clear nq_) | skip)
                            (first | (have nq_ := Aside0.mk (Kd.V_below HR188.out hbq_); clear HR188; have HR188 := nq_; clear nq_) | (have nq_ := Aside0.mk (Kd.R_below HR188.out hbq_); clear HR188; have HR188 := nq_; clear nq_) | (have nq_ := Aside0.mk (Kd.C_below HR188.out hbq_); clear HR188; have HR188 := nq_; clear nq_) | skip)
                            have nq_ := Aside0.mk (below_step HB.out hbq_)
                            clear HB
                            have HB := nq_
                            clear nq_ hbq_
                            refine V.norm2 (a' := ?_) ?_ ?_
                            rotate_left
                            · simp only [putAll, Act.put, List.setIfInBounds_toArray, List.set_cons_zero, List.set_cons_succ, i64_w, i32_w, c62b1]
                              rfl
                            try go_wp2_with (first | ((with_reducible refine gate_callee (f := 17) rfl ?_); refine goesL_ (some 76) rfl rfl Tryd.func17 (by kernel_rfl) rfl #[] rfl (by (try simp only [List.map_toArray, List.map_cons, List.map_nil]); first | done | rfl | (simp only [List.length_drop, List.length_take]; rfl)) ?_; (with_reducible refine (kilnlaw1_started.calls k2  true _ ?side1 A63.out).mono ?_); (case side1 => first | exact HG.out | exact Half.below HG.out (by repeat (first | (with_reducible first | exact HB.out | apply below_alloc | apply pw_below_drewN | apply below_drew1) | exact HB.out))); rintro e w99 ⟨rfl, hb⟩; refine ⟨_, rfl, ?_⟩; have n0_ := Aside0.mk (Kd.V_below (by (with_reducible repeat (first | apply Kd.V_alloc | apply Kd.V_drewN | apply Kd.V_drew)); exact HO_1.out) hb); have n1_ := Aside0.mk (Kd.V_below (by (with_reducible repeat (first | apply Kd.V_alloc | apply Kd.V_drewN | apply Kd.V_drew)); exact HO_2.out) hb); have n2_ := Aside0.mk (Kd.R_below (by (with_reducible repeat (first | apply Kd.R_alloc | apply Kd.R_drewN | apply Kd.R_drew)); exact HO_10.out) hb); have n3_ := Aside0.mk (Kd.V_below (by (with_reducible repeat (first | apply Kd.V_alloc | apply Kd.V_drewN | apply Kd.V_drew)); exact HO180.out) hb); have n4_ := Aside0.mk (Kd.V_below (by (with_reducible repeat (first | apply Kd.V_alloc | apply Kd.V_drewN | apply Kd.V_drew)); exact HO186.out) hb); have n5_ := Aside0.mk (below_step (by repeat (first | (with_reducible first | exact HB.out | apply below_alloc | apply pw_below_drewN | apply below_drew1) | exact HB.out)) hb); clear HO_1; clear HO_2; clear HO_10; clear HO180; clear HO186; clear HB; have HO_1 := n0_; have HO_2 := n1_; have HO_10 := n2_; have HO180 := n3_; have HO186 := n4_; have HB := n5_; clear n0_ n1_ n2_ n3_ n4_ n5_; (try clear hb); (try clear hb2); (try clear hk); (try clear hi)) | (go_at_call 16; (with_reducible refine (wire_Sum.calls _ _ l0 t191 _ ?side1 ?side2 ?side3 A65.out).mono ?_); (case side1 => repeat (first | exact (Kd.C_below HR0.out HB.out) | (with_reducible refine Kd.C_alloc ?_ _) | (with_reducible refine Kd.C_drewN ?_ _) | (with_reducible refine Kd.C_drew ?_))); (case side2 => exact HC0.out); (case side3 => first | exact HG.out | exact Half.below HG.out (by repeat (first | (with_reducible first | exact HB.out | apply below_alloc | apply pw_below_drewN | apply below_drew1) | exact HB.out))); rintro e w' ⟨rfl, ⟨nd, rfl⟩⟩) | (go_at_call 18; (with_reducible refine (kilnlaw1_join.calls k2 _ _ l0 t192 _ ?side1 ?side2 A66.out).mono ?_); (case side1 => repeat (first | exact (Kd.C_below HR0.out (by repeat (first | (with_reducible first | exact HB.out | apply below_alloc | apply pw_below_drewN | apply below_drew1) | exact HB.out))) | (with_reducible refine Kd.C_alloc ?_ _) | (with_reducible refine Kd.C_drewN ?_ _) | (with_reducible refine Kd.C_drew ?_))); (case side2 => exact HC0.out); rintro e w100 ⟨v193, rfl, ho0, hb⟩; have n0_ := Aside0.mk (Kd.V_elder' (by (with_reducible repeat (first | apply Kd.V_alloc | apply Kd.V_drewN | apply Kd.V_drew)); exact HO_1.out) (Kd.R_base ho0) hb); have n1_ := Aside0.mk (Kd.V_elder' (by (with_reducible repeat (first | apply Kd.V_alloc | apply Kd.V_drewN | apply Kd.V_drew)); exact HO_2.out) (Kd.R_base ho0) hb); have n2_ := Aside0.mk (Kd.R_elder' (by (with_reducible repeat (first | apply Kd.R_alloc | apply Kd.R_drewN | apply Kd.R_drew)); exact HO_10.out) (Kd.R_base ho0) hb); have n3_ := Aside0.mk (Kd.V_elder' (by (with_reducible repeat (first | apply Kd.V_alloc | apply Kd.V_drewN | apply Kd.V_drew)); exact HO180.out) (Kd.R_base ho0) hb); have n4_ := Aside0.mk (Kd.V_elder' (by (with_reducible repeat (first | apply Kd.V_alloc | apply Kd.V_drewN | apply Kd.V_drew)); exact HO186.out) (Kd.R_base ho0) hb); have n5_ := Aside0.mk (Kd.R_lower (Kd.R_new' (Kd.R_newM (M := fun k_ => (w.heap.size ≤ k_)) ho0 (below_size (by repeat (first | (with_reducible first | exact HB.out | apply below_alloc | apply pw_below_drewN | apply below_drew1) | exact HB.out))) (fun k_ h_ => h_)) (Kd.R_lt (by (with_reducible repeat (first | apply Kd.R_alloc | apply Kd.R_drewN | apply Kd.R_drew)); exact HO_10.out))) (below_size (by repeat (first | (with_reducible first | exact HB.out | apply below_alloc | apply pw_below_drewN | apply below_drew1) | exact HB.out)))); have n6_ := Aside0.mk (below_step (by repeat (first | (with_reducible first | exact HB.out | apply below_alloc | apply pw_below_drewN | apply below_drew1) | exact HB.out)) hb); clear HO_1; clear HO_2; clear HO_10; clear HO180; clear HO186; clear HB; have HO_1 := n0_; have HO_2 := n1_; have HO_10 := n2_; have HO180 := n3_; have HO186 := n4_; have HO194 := n5_; have HB := n6_; clear n0_ n1_ n2_ n3_ n4_ n5_ n6_; (try clear hb); (try clear hb2); (try clear hk); (try clear hi); (try clear ho0); obtain ⟨Ao101, co101, eo101⟩ := Kd.R_slice HO194.out; subst eo101) | ((with_reducible refine gate_dst (N := 82) rfl ?_); (try (refine gate_guard (by rfl) ?_; dsimp only)); refine Kd.N_lit (Kd.slice 5 (Kd.int .u8)) _ 23 ?hg (N' := 82) ?hd (xs := ([t192] : List (List Int))) (inner := [.slice Ao101 t192.length co101]) (ok := (fun k_ => ((P1_ k_ ∨ P2_ k_) ∨ w.heap.size ≤ k_) ∧ some k_ ≠ (.slice Ao98 x10_2.length co98 : Value).ownBlock)) (okp := (fun k_ => ((P1_ k_ ∨ P2_ k_) ∨ w.heap.size ≤ k_) ∧ some k_ ≠ (.slice Ao98 x10_2.length co98 : Value).ownBlock)) ?hr ?hp (fun _ hk => hk) ((show ∀ k_, w100.heap.size ≤ k_ → (fun k_ => ((P1_ k_ ∨ P2_ k_) ∨ w.heap.size ≤ k_) ∧ some k_ ≠ (.slice Ao98 x10_2.length co98 : Value).ownBlock) k_ from fun k_ hk => ⟨(.inr (Nat.le_trans (below_size (by repeat (first | (with_reducible first | exact HB.out | apply below_alloc | apply pw_below_drewN | apply below_drew1) | exact HB.out))) hk)), Kd.fresh' (Kd.R_lt (by (with_reducible repeat (first | apply Kd.R_alloc | apply Kd.R_drewN | apply Kd.R_drew)); exact HO_10.out)) k_ hk⟩) _ (Nat.le_refl _)) (Below.refl _ _) (Nat.le_refl _) (by simp) ?_; (case hd => rfl); (case hg => rfl); (case hr => first | (go_simp; done) | (go_simp; rfl)); (case hp => exact (Reps.one (show Kd.FK (Kd.slice 5 (Kd.int .u8)) _ _ t192 [.slice Ao101 t192.length co101] from (Kd.FK_slice_mk (Kd.R_reads' (Kd.R_mono (ok' := (fun k_ => ((P1_ k_ ∨ P2_ k_) ∨ w.heap.size ≤ k_) ∧ some k_ ≠ (.slice Ao98 x10_2.length co98 : Value).ownBlock)) (HO194.out) (fun k_ hk => ⟨(.inr (hk.1.1)), hk.2⟩))).2.1 (Kd.R_F (Kd.R_mono (ok' := (fun k_ => ((P1_ k_ ∨ P2_ k_) ∨ w.heap.size ≤ k_) ∧ some k_ ≠ (.slice Ao98 x10_2.length co98 : Value).ownBlock)) (HO194.out) (fun k_ hk => ⟨(.inr (hk.1.1)), hk.2⟩))))) (Reps.none _ _))); intro v196 w102 ho103 hb hg_ hnew_; clear hg_ hnew_; (first | rw [← Ny195.out] at ho103 | (simp only [Int.reduceToNat] at ho103; rw [← Ny195.out] at ho103)); have n0_ := Aside0.mk (Kd.V_elder' (by (with_reducible repeat (first | apply Kd.V_alloc | apply Kd.V_drewN | apply Kd.V_drew)); exact HO_1.out) (Kd.N_base ho103) hb); have n1_ := Aside0.mk (Kd.V_elder' (by (with_reducible repeat (first | apply Kd.V_alloc | apply Kd.V_drewN | apply Kd.V_drew)); exact HO_2.out) (Kd.N_base ho103) hb); have n2_ := Aside0.mk (Kd.R_below (by (with_reducible repeat (first | apply Kd.R_alloc | apply Kd.R_drewN | apply Kd.R_drew)); exact HO_10.out) hb); have n3_ := Aside0.mk (Kd.V_elder' (by (with_reducible repeat (first | apply Kd.V_alloc | apply Kd.V_drewN | apply Kd.V_drew)); exact HO180.out) (Kd.N_base ho103) hb); have n4_ := Aside0.mk (Kd.V_elder' (by (with_reducible repeat (first | apply Kd.V_alloc | apply Kd.V_drewN | apply Kd.V_drew)); exact HO186.out) (Kd.N_base ho103) hb); have n5_ := Aside0.mk (Kd.N_lower ho103 (below_size (by repeat (first | (with_reducible first | exact HB.out | apply below_alloc | apply pw_below_drewN | apply below_drew1) | exact HB.out)))); have n6_ := Aside0.mk (below_step (by repeat (first | (with_reducible first | exact HB.out | apply below_alloc | apply pw_below_drewN | apply below_drew1) | exact HB.out)) hb); clear HO_1; clear HO_2; clear HO_10; clear HO180; clear HO186; clear HB; clear HO194; have HO_1 := n0_; have HO_2 := n1_; have HO_10 := n2_; have HO180 := n3_; have HO186 := n4_; have HO197 := n5_; have HB := n6_; clear n0_ n1_ n2_ n3_ n4_ n5_ n6_; clear hb ho103; obtain ⟨Ao104, co104, eo104⟩ := Kd.N_slice HO197.out; subst eo104) | (go_at_call 16; (with_reducible refine (wire_Sum.calls _ _ y195 t198 _ ?side1 ?side2 ?side3 A67.out).mono ?_); (case side1 => repeat (first | exact (Kd.N_reads' HO197.out).2.2 | (with_reducible refine Kd.C_alloc ?_ _) | (with_reducible refine Kd.C_drewN ?_ _) | (with_reducible refine Kd.C_drew ?_))); (case side2 => exact (Kd.N_reads' HO197.out).2.1); (case side3 => first | exact HG.out | exact Half.below HG.out (by repeat (first | (with_reducible first | exact HB.out | apply below_alloc | apply pw_below_drewN | apply below_drew1) | exact HB.out))); rintro e w' ⟨rfl, ⟨nd, rfl⟩⟩))
                            go_ret
                            exact ⟨by first | rfl | (simp [errW_none, errW_some] <;> rfl) | (simp only [← hji42, ← hji43]; first | rfl | (simp [errW_none, errW_some] <;> rfl)) | (simp [*, errW_none, errW_some] <;> rfl), by repeat (first | (with_reducible first | exact HB.out | apply below_alloc | apply pw_below_drewN | apply below_drew1) | exact HB.out)⟩
                        · replace c64 := Bool.eq_false_iff.mpr c64
                          subst c64
                          have H1 : (some false) = some r := by rw [if_neg (show ¬ (false = true) by decide)] at H; exact H
                          clear H
                          have H := H1
                          clear H1
                          obtain rfl := Option.some.inj H
                          try go_wp2
                          have n0_ := Aside0.mk (Kd.V_drew HO_1.out)
                          have n1_ := Aside0.mk (Kd.V_drew HO_2.out)
                          have n2_ := Aside0.mk (Kd.R_drew HO_10.out)
                          have n3_ := Aside0.mk (below_drew1 HB.out)
                          clear HO_1
                          clear HO_2
                          clear HO_10
                          clear HB
                          have HO_1 := n0_
                          have HO_2 := n1_
                          have HO_10 := n2_
                          have HB := n3_
                          clear n0_ n1_ n2_ n3_
                          have q106 : (ji43 : Int) ≤ ((l1.length : Int) : Int) := of_decide_eq_true (by first | (with_reducible assumption) | assumption)
                          obtain ⟨i0106, hi0106, _, hsz106, _⟩ := info_parts info5
                          have hroom106 : l1.length ≤ c1 := (Kd.V_reads' HO_1.out).2.1
                          have hC106 : Kd.F (Kd.int .u8) _ _ A1 l1.length l1 := (Kd.V_at (base := w.heap.size) HO_1.out).2.2
                          have hcut106 := cut_to (P := Tryd.prog) 23 5 .i64 Tryd.underlying23 hi0106 A1 l1.length c1 ji43 (of_decide_eq_true (by first | (with_reducible assumption) | assumption)) q106 hroom106
                          have hr106 := Kd.F_take (m := (ji43 : Int).toNat) hC106 (by omega)
                          have hy106 : y176.length = (ji43 : Int).toNat := (by rw [Ny176.out, List.length_take]; omega)
                          rw [← Ny176.out] at hr106
                          rw [← hy106] at hcut106
                          have HO180 := Aside0.mk (show Kd.V (Kd.int .u8) 5 _ w.heap.size _ (.slice A1 y176.length c1) y176 from Kd.V_mk (by omega) hr106)
                          have HC180 := Aside0.mk (show y176.length ≤ c1 from by omega)
                          clear hr106 hC106 hroom106 hi0106 hsz106
                          have KY106 := Aside0.mk hy106
                          clear hy106
                          replace q106 := eq_true q106
                          have q107 : (ji43 : Int) ≤ ((l2.length : Int) : Int) := of_decide_eq_true (by first | (with_reducible assumption) | assumption)
                          obtain ⟨i0107, hi0107, _, hsz107, _⟩ := info_parts info5
                          have hroom107 : l2.length ≤ c2 := (Kd.V_reads' HO_2.out).2.1
                          have hC107 : Kd.F (Kd.int .u8) _ _ A2 l2.length l2 := (Kd.V_at (base := w.heap.size) HO_2.out).2.2
                          have hcut107 := cut_to (P := Tryd.prog) 23 5 .i64 Tryd.underlying23 hi0107 A2 l2.length c2 ji43 (of_decide_eq_true (by first | (with_reducible assumption) | assumption)) q107 hroom107
                          have hr107 := Kd.F_take (m := (ji43 : Int).toNat) hC107 (by omega)
                          have hy107 : y182.length = (ji43 : Int).toNat := (by rw [Ny182.out, List.length_take]; omega)
                          rw [← Ny182.out] at hr107
                          rw [← hy107] at hcut107
                          have HO186 := Aside0.mk (show Kd.V (Kd.int .u8) 5 _ w.heap.size _ (.slice A2 y182.length c2) y182 from Kd.V_mk (by omega) hr107)
                          have HC186 := Aside0.mk (show y182.length ≤ c2 from by omega)
                          clear hr107 hC107 hroom107 hi0107 hsz107
                          have KY107 := Aside0.mk hy107
                          clear hy107
                          replace q107 := eq_true q107
                          obtain ⟨i0108, hi0108, _, hsz108, _⟩ := info_parts info5
                          obtain ⟨hcut108, hA108, hC108⟩ := print_take_of (P := Tryd.prog) (Value.int .u8) 0 23 5 .i64 Tryd.underlying23 hi0108 hsz108 A3 c3 l3 ji43 (of_decide_eq_true (by first | (with_reducible assumption) | assumption)) (of_decide_eq_true (by first | (with_reducible assumption) | assumption)) HC3.out
                          have HR188 := Aside0.mk (Kd.C_of_reads (h1 := fun _ => rfl) (hA108 _ (Kd.reads_of_C HR3.out)))
                          have HC188 := Aside0.mk hC108
                          clear hA108 hC108 hi0108 hsz108
                          obtain ⟨Ao109, co109, eo109⟩ := Kd.R_slice HO_10.out
                          (first | subst eo109 | (injection eo109 with f1_ f2_ f3_; have f4_ := f1_.symm; have f5_ := f3_.symm; clear f1_ f2_ f3_; subst f4_; subst f5_))
                          refine start_ (n := 21) (S := fun w' => True) (ds := []) #[false, false, false, false, false, false, false, false, false, false, false, false, false, false, false, false, false, false, false, false, false] (by kernel_rfl) rfl rfl trivial (fun hHeld => ?_); refine with_tabW kilnlaw1_WireSums.tab9 kilnlaw1_WireSums.bits9 (fun HT_ HW_ => ?_)
                          generalize wr.drew = w105 at HO_1 HO_2 HO_10 HB HO180 HO186 HR188 hHeld ⊢
                          refine pure_ (i := 0) (N := some 55) (v := ?_) (a' := ?_) #[true, false, false, false, false, false, false, false, false, false, false, false, false, false, false, false, false, false, false, false, false] rfl rfl (any_of HT_.out (by kernel_rfl)) (fun _ _ _ h => h) (Or.inl ⟨by rfl, ?_⟩) ?_ ?_
                          rotate_left
                          · intro w'
                            go_simp
                            with_reducible rfl
                          rotate_left
                          · simp only [Act.put, List.setIfInBounds_toArray, List.set_cons_zero, List.set_cons_succ, i64_w, i32_w]
                            rfl
                          refine pure_ (i := 3) (N := some 58) (v := ?_) (a' := ?_) #[true, false, false, true, false, false, false, false, false, false, false, false, false, false, false, false, false, false, false, false, false] rfl rfl (any_of HT_.out (by kernel_rfl)) (fun _ _ _ h => h) (Or.inl ⟨by rfl, ?_⟩) ?_ ?_
                          rotate_left
                          · intro w'
                            go_simp
                            with_reducible rfl
                          rotate_left
                          · simp only [Act.put, List.setIfInBounds_toArray, List.set_cons_zero, List.set_cons_succ, i64_w, i32_w]
                            rfl
                          refine pure_ (i := 4) (N := some 59) (v := ?_) (a' := ?_) #[true, false, false, true, true, false, false, false, false, false, false, false, false, false, false, false, false, false, false, false, false] rfl rfl (any_of HT_.out (by kernel_rfl)) (fun _ _ _ h => h) (Or.inl ⟨by rfl, ?_⟩) ?_ ?_
                          rotate_left
                          · intro w'
                            go_simp
                            with_reducible rfl
                          rotate_left
                          · simp only [Act.put, List.setIfInBounds_toArray, List.set_cons_zero, List.set_cons_succ, i64_w, i32_w]
                            rfl
                          refine pure_ (i := 5) (N := some 60) (v := ?_) (a' := ?_) #[true, false, false, true, true, true, false, false, false, false, false, false, false, false, false, false, false, false, false, false, false] rfl rfl (any_of HT_.out (by kernel_rfl)) (fun _ _ _ h => h) (Or.inl ⟨by rfl, ?_⟩) ?_ ?_
                          rotate_left
                          · intro w'
                            go_simp
                            with_reducible rfl
                          rotate_left
                          · simp only [Act.put, List.setIfInBounds_toArray, List.set_cons_zero, List.set_cons_succ, i64_w, i32_w]
                            rfl
                          refine pure_ (i := 8) (N := some 63) (v := ?_) (a' := ?_) #[true, false, false, true, true, true, false, false, true, false, false, false, false, false, false, false, false, false, false, false, false] rfl rfl (any_of HT_.out (by kernel_rfl)) (fun _ _ _ h => h) (Or.inl ⟨by rfl, ?_⟩) ?_ ?_
                          rotate_left
                          · intro w'
                            go_simp
                            with_reducible rfl
                          rotate_left
                          · simp only [Act.put, List.setIfInBounds_toArray, List.set_cons_zero, List.set_cons_succ, i64_w, i32_w]
                            rfl
                          refine pure_ (i := 9) (N := some 64) (v := ?_) (a' := ?_) #[true, false, false, true, true, true, false, false, true, true, false, false, false, false, false, false, false, false, false, false, false] rfl rfl (any_of HT_.out (by kernel_rfl)) (fun _ _ _ h => h) (Or.inl ⟨by rfl, ?_⟩) ?_ ?_
                          rotate_left
                          · intro w'
                            go_simp
                            with_reducible rfl
                          rotate_left
                          · simp only [Act.put, List.setIfInBounds_toArray, List.set_cons_zero, List.set_cons_succ, i64_w, i32_w]
                            rfl
                          refine pure_ (i := 10) (N := some 65) (v := ?_) (a' := ?_) #[true, false, false, true, true, true, false, false, true, true, true, false, false, false, false, false, false, false, false, false, false] rfl rfl (any_of HT_.out (by kernel_rfl)) (fun _ _ _ h => h) (Or.inl ⟨by rfl, ?_⟩) ?_ ?_
                          rotate_left
                          · intro w'
                            go_simp
                            with_reducible rfl
                          rotate_left
                          · simp only [Act.put, List.setIfInBounds_toArray, List.set_cons_zero, List.set_cons_succ, i64_w, i32_w]
                            rfl
                          refine pure_ (i := 14) (N := some 69) (v := ?_) (a' := ?_) #[true, false, false, true, true, true, false, false, true, true, true, false, false, false, true, false, false, false, false, false, false] rfl rfl (any_of HT_.out (by kernel_rfl)) (fun _ _ _ h => h) (Or.inl ⟨by rfl, ?_⟩) ?_ ?_
                          rotate_left
                          · intro w'
                            go_simp
                            with_reducible rfl
                          rotate_left
                          · simp only [Act.put, List.setIfInBounds_toArray, List.set_cons_zero, List.set_cons_succ, i64_w, i32_w]
                            rfl
                          refine pure_ (i := 15) (N := some 70) (v := ?_) (a' := ?_) #[true, false, false, true, true, true, false, false, true, true, true, false, false, false, true, true, false, false, false, false, false] rfl rfl (any_of HT_.out (by kernel_rfl)) (fun _ _ _ h => h) (Or.inl ⟨by rfl, ?_⟩) ?_ ?_
                          rotate_left
                          · intro w'
                            go_simp
                            with_reducible rfl
                          rotate_left
                          · simp only [Act.put, List.setIfInBounds_toArray, List.set_cons_zero, List.set_cons_succ, i64_w, i32_w]
                            rfl
                          refine pure_ (i := 16) (N := some 71) (v := ?_) (a' := ?_) #[true, false, false, true, true, true, false, false, true, true, true, false, false, false, true, true, true, false, false, false, false] rfl rfl (any_of HT_.out (by kernel_rfl)) (fun _ _ _ h => h) (Or.inl ⟨by rfl, ?_⟩) ?_ ?_
                          rotate_left
                          · intro w'
                            go_simp
                            with_reducible rfl
                          rotate_left
                          · simp only [Act.put, List.setIfInBounds_toArray, List.set_cons_zero, List.set_cons_succ, i64_w, i32_w]
                            rfl
                          refine V.quad (l1 := x10_2) (l2 := y176) (l3 := y182) (l4 := (l3.take (ji43 : Int).toNat)) (s1 := t175) (s2 := t181) (s3 := t187) (s4 := t189) HT_.out HW_.out (by kernel_rfl) ⟨_, rfl, rfl, rfl, rfl⟩ ⟨_, rfl, rfl, rfl, rfl⟩ ⟨_, rfl, rfl, rfl, rfl⟩ ⟨_, rfl, rfl, rfl, rfl⟩ ⟨_, rfl, rfl, rfl, rfl⟩ ⟨_, rfl, rfl, rfl, rfl⟩ ⟨_, rfl, rfl, rfl, rfl⟩ ⟨_, rfl, rfl, rfl, rfl⟩ ⟨_, rfl, rfl, rfl, rfl⟩ ⟨_, rfl, rfl, rfl, rfl⟩ ⟨_, rfl, rfl, rfl, rfl⟩ (Nat.le_of_ble_eq_true rfl) (by first | rfl | (rw [show (x10_2).length = ji43.toNat from (by rw [List.length_take]; first | omega | (have h_ : (ji43 : Int) ≤ (l3.length : Int) := of_decide_eq_true (by first | (with_reducible assumption) | assumption); omega))]; rfl)) (by first | rfl | (rw [show (y176).length = ji43.toNat from (by rw [List.length_take]; first | omega | (have h_ : (ji43 : Int) ≤ (l3.length : Int) := of_decide_eq_true (by first | (with_reducible assumption) | assumption); omega))]; rfl)) (by first | rfl | (rw [show (y182).length = ji43.toNat from (by rw [List.length_take]; first | omega | (have h_ : (ji43 : Int) ≤ (l3.length : Int) := of_decide_eq_true (by first | (with_reducible assumption) | assumption); omega))]; rfl)) (by first | rfl | (rw [show ((l3.take (ji43 : Int).toNat)).length = ji43.toNat from (by rw [List.length_take]; first | omega | (have h_ : (ji43 : Int) ≤ (l3.length : Int) := of_decide_eq_true (by first | (with_reducible assumption) | assumption); omega))]; rfl)) (Kd.R_reads' HO_10.out).2.1 (by first | exact (Kd.R_reads' HO_10.out).2.2 | exact Kd.C_below ((Kd.R_reads' HO_10.out).2.2) HB.out) A52.out (Kd.V_reads' HO180.out).2.1 (by first | exact (Kd.V_reads' HO180.out).2.2 | exact Kd.C_below ((Kd.V_reads' HO180.out).2.2) HB.out) A55.out (Kd.V_reads' HO186.out).2.1 (by first | exact (Kd.V_reads' HO186.out).2.2 | exact Kd.C_below ((Kd.V_reads' HO186.out).2.2) HB.out) A58.out HC188.out (by first | exact (Kd.C_below HR188.out (by repeat (first | (with_reducible first | exact HB.out | apply below_alloc | apply pw_below_drewN | apply below_drew1) | exact HB.out))) | exact Kd.C_below ((Kd.C_below HR188.out (by repeat (first | (with_reducible first | exact HB.out | apply below_alloc | apply pw_below_drewN | apply below_drew1) | exact HB.out)))) HB.out) A61.out (by first | exact HG.out | exact Half.below HG.out HB.out) ?_
                          intro B1_ k1_ B2_ k2_ B3_ k3_ B4_ k4_ wq_ hbq_
                          (first | (have nq_ := Aside0.mk (Kd.V_below HO_1.out hbq_); clear HO_1; have HO_1 := nq_; clear nq_) | (have nq_ := Aside0.mk (Kd.R_below HO_1.out hbq_); clear HO_1; have HO_1 := nq_; clear nq_) | (have nq_ := Aside0.mk (Kd.C_below HO_1.out hbq_); clear HO_1; have HO_1 := nq_; clear nq_) | skip)
                          (first | (have nq_ := Aside0.mk (Kd.V_below HO_2.out hbq_); clear HO_2; have HO_2 := nq_; clear nq_) | (have nq_ := Aside0.mk (Kd.R_below HO_2.out hbq_); clear HO_2; have HO_2 := nq_; clear nq_) | (have nq_ := Aside0.mk (Kd.C_below HO_2.out hbq_); clear HO_2; have HO_2 := nq_; clear nq_) | skip)
                          (first | (have nq_ := Aside0.mk (Kd.V_below HO_10.out hbq_); clear HO_10; have HO_10 := nq_; clear nq_) | (have nq_ := Aside0.mk (Kd.R_below HO_10.out hbq_); clear HO_10; have HO_10 := nq_; clear nq_) | (have nq_ := Aside0.mk (Kd.C_below HO_10.out hbq_); clear HO_10; have HO_10 := nq_; clear nq_) | skip)
                          (first | (have nq_ := Aside0.mk (Kd.V_below HO180.out hbq_); clear HO180; have HO180 := nq_; clear nq_) | (have nq_ := Aside0.mk (Kd.R_below HO180.out hbq_); clear HO180; have HO180 := nq_; clear nq_) | (have nq_ := Aside0.mk (Kd.C_below HO180.out hbq_); clear HO180; have HO180 := nq_; clear nq_) | skip)
                          (first | (have nq_ := Aside0.mk (Kd.V_below HO186.out hbq_); clear HO186; have HO186 := nq_; clear nq_) | (have nq_ := Aside0.mk (Kd.R_below HO186.out hbq_); clear HO186; have HO186 := nq_; clear nq_) | (have nq_ := Aside0.mk (Kd.C_below HO186.out hbq_); clear HO186; have HO186 := nq_; clear nq_) | skip)
                          (first | (have nq_ := Aside0.mk (Kd.V_below HR188.out hbq_); clear HR188; have HR188 := nq_; clear nq_) | (have nq_ := Aside0.mk (Kd.R_below HR188.out hbq_); clear HR188; have HR188 := nq_; clear nq_) | (have nq_ := Aside0.mk (Kd.C_below HR188.out hbq_); clear HR188; have HR188 := nq_; clear nq_) | skip)
                          have nq_ := Aside0.mk (below_step HB.out hbq_)
                          clear HB
                          have HB := nq_
                          clear nq_ hbq_
                          refine V.norm2 (a' := ?_) ?_ ?_
                          rotate_left
                          · simp only [putAll, Act.put, List.setIfInBounds_toArray, List.set_cons_zero, List.set_cons_succ, i64_w, i32_w, c62b1]
                            rfl
                          try go_wp2_with (first | ((with_reducible refine gate_callee (f := 17) rfl ?_); refine goesL_ (some 76) rfl rfl Tryd.func17 (by kernel_rfl) rfl #[] rfl (by (try simp only [List.map_toArray, List.map_cons, List.map_nil]); first | done | rfl | (simp only [List.length_drop, List.length_take]; rfl)) ?_; (with_reducible refine (kilnlaw1_started.calls k2  false _ ?side1 A63.out).mono ?_); (case side1 => first | exact HG.out | exact Half.below HG.out (by repeat (first | (with_reducible first | exact HB.out | apply below_alloc | apply pw_below_drewN | apply below_drew1) | exact HB.out))); rintro e w110 ⟨rfl, hb⟩; refine ⟨_, rfl, ?_⟩; have n0_ := Aside0.mk (Kd.V_below (by (with_reducible repeat (first | apply Kd.V_alloc | apply Kd.V_drewN | apply Kd.V_drew)); exact HO_1.out) hb); have n1_ := Aside0.mk (Kd.V_below (by (with_reducible repeat (first | apply Kd.V_alloc | apply Kd.V_drewN | apply Kd.V_drew)); exact HO_2.out) hb); have n2_ := Aside0.mk (Kd.R_below (by (with_reducible repeat (first | apply Kd.R_alloc | apply Kd.R_drewN | apply Kd.R_drew)); exact HO_10.out) hb); have n3_ := Aside0.mk (Kd.V_below (by (with_reducible repeat (first | apply Kd.V_alloc | apply Kd.V_drewN | apply Kd.V_drew)); exact HO180.out) hb); have n4_ := Aside0.mk (Kd.V_below (by (with_reducible repeat (first | apply Kd.V_alloc | apply Kd.V_drewN | apply Kd.V_drew)); exact HO186.out) hb); have n5_ := Aside0.mk (below_step (by repeat (first | (with_reducible first | exact HB.out | apply below_alloc | apply pw_below_drewN | apply below_drew1) | exact HB.out)) hb); clear HO_1; clear HO_2; clear HO_10; clear HO180; clear HO186; clear HB; have HO_1 := n0_; have HO_2 := n1_; have HO_10 := n2_; have HO180 := n3_; have HO186 := n4_; have HB := n5_; clear n0_ n1_ n2_ n3_ n4_ n5_; (try clear hb); (try clear hb2); (try clear hk); (try clear hi)))
                          go_ret
                          exact ⟨by first | rfl | (simp [errW_none, errW_some] <;> rfl) | (simp only [← hji42, ← hji43]; first | rfl | (simp [errW_none, errW_some] <;> rfl)) | (simp [*, errW_none, errW_some] <;> rfl), by repeat (first | (with_reducible first | exact HB.out | apply below_alloc | apply pw_below_drewN | apply below_drew1) | exact HB.out)⟩
                      · rw [if_neg c62] at H
                        have c62b0 : (t175 == (Go.bits .xor .u32 (Go.bits .xor .u32 t181 t187) t189)) = false := beq_eq_false_iff_ne.mpr c62
                        have c62b1 : (t175 != (Go.bits .xor .u32 (Go.bits .xor .u32 t181 t187) t189)) = true := bne_iff_ne.mpr c62
                        obtain rfl := Option.some.inj H
                        try go_wp2
                        have n0_ := Aside0.mk (Kd.V_drew HO_1.out)
                        have n1_ := Aside0.mk (Kd.V_drew HO_2.out)
                        have n2_ := Aside0.mk (Kd.R_drew HO_10.out)
                        have n3_ := Aside0.mk (below_drew1 HB.out)
                        clear HO_1
                        clear HO_2
                        clear HO_10
                        clear HB
                        have HO_1 := n0_
                        have HO_2 := n1_
                        have HO_10 := n2_
                        have HB := n3_
                        clear n0_ n1_ n2_ n3_
                        have q112 : (ji43 : Int) ≤ ((l1.length : Int) : Int) := of_decide_eq_true (by first | (with_reducible assumption) | assumption)
                        obtain ⟨i0112, hi0112, _, hsz112, _⟩ := info_parts info5
                        have hroom112 : l1.length ≤ c1 := (Kd.V_reads' HO_1.out).2.1
                        have hC112 : Kd.F (Kd.int .u8) _ _ A1 l1.length l1 := (Kd.V_at (base := w.heap.size) HO_1.out).2.2
                        have hcut112 := cut_to (P := Tryd.prog) 23 5 .i64 Tryd.underlying23 hi0112 A1 l1.length c1 ji43 (of_decide_eq_true (by first | (with_reducible assumption) | assumption)) q112 hroom112
                        have hr112 := Kd.F_take (m := (ji43 : Int).toNat) hC112 (by omega)
                        have hy112 : y176.length = (ji43 : Int).toNat := (by rw [Ny176.out, List.length_take]; omega)
                        rw [← Ny176.out] at hr112
                        rw [← hy112] at hcut112
                        have HO180 := Aside0.mk (show Kd.V (Kd.int .u8) 5 _ w.heap.size _ (.slice A1 y176.length c1) y176 from Kd.V_mk (by omega) hr112)
                        have HC180 := Aside0.mk (show y176.length ≤ c1 from by omega)
                        clear hr112 hC112 hroom112 hi0112 hsz112
                        have KY112 := Aside0.mk hy112
                        clear hy112
                        replace q112 := eq_true q112
                        have q113 : (ji43 : Int) ≤ ((l2.length : Int) : Int) := of_decide_eq_true (by first | (with_reducible assumption) | assumption)
                        obtain ⟨i0113, hi0113, _, hsz113, _⟩ := info_parts info5
                        have hroom113 : l2.length ≤ c2 := (Kd.V_reads' HO_2.out).2.1
                        have hC113 : Kd.F (Kd.int .u8) _ _ A2 l2.length l2 := (Kd.V_at (base := w.heap.size) HO_2.out).2.2
                        have hcut113 := cut_to (P := Tryd.prog) 23 5 .i64 Tryd.underlying23 hi0113 A2 l2.length c2 ji43 (of_decide_eq_true (by first | (with_reducible assumption) | assumption)) q113 hroom113
                        have hr113 := Kd.F_take (m := (ji43 : Int).toNat) hC113 (by omega)
                        have hy113 : y182.length = (ji43 : Int).toNat := (by rw [Ny182.out, List.length_take]; omega)
                        rw [← Ny182.out] at hr113
                        rw [← hy113] at hcut113
                        have HO186 := Aside0.mk (show Kd.V (Kd.int .u8) 5 _ w.heap.size _ (.slice A2 y182.length c2) y182 from Kd.V_mk (by omega) hr113)
                        have HC186 := Aside0.mk (show y182.length ≤ c2 from by omega)
                        clear hr113 hC113 hroom113 hi0113 hsz113
                        have KY113 := Aside0.mk hy113
                        clear hy113
                        replace q113 := eq_true q113
                        obtain ⟨i0114, hi0114, _, hsz114, _⟩ := info_parts info5
                        obtain ⟨hcut114, hA114, hC114⟩ := print_take_of (P := Tryd.prog) (Value.int .u8) 0 23 5 .i64 Tryd.underlying23 hi0114 hsz114 A3 c3 l3 ji43 (of_decide_eq_true (by first | (with_reducible assumption) | assumption)) (of_decide_eq_true (by first | (with_reducible assumption) | assumption)) HC3.out
                        have HR188 := Aside0.mk (Kd.C_of_reads (h1 := fun _ => rfl) (hA114 _ (Kd.reads_of_C HR3.out)))
                        have HC188 := Aside0.mk hC114
                        clear hA114 hC114 hi0114 hsz114
                        obtain ⟨Ao115, co115, eo115⟩ := Kd.R_slice HO_10.out
                        (first | subst eo115 | (injection eo115 with f1_ f2_ f3_; have f4_ := f1_.symm; have f5_ := f3_.symm; clear f1_ f2_ f3_; subst f4_; subst f5_))
                        refine start_ (n := 21) (S := fun w' => True) (ds := []) #[false, false, false, false, false, false, false, false, false, false, false, false, false, false, false, false, false, false, false, false, false] (by kernel_rfl) rfl rfl trivial (fun hHeld => ?_); refine with_tabW kilnlaw1_WireSums.tab9 kilnlaw1_WireSums.bits9 (fun HT_ HW_ => ?_)
                        generalize wr.drew = w111 at HO_1 HO_2 HO_10 HB HO180 HO186 HR188 hHeld ⊢
                        refine pure_ (i := 0) (N := some 55) (v := ?_) (a' := ?_) #[true, false, false, false, false, false, false, false, false, false, false, false, false, false, false, false, false, false, false, false, false] rfl rfl (any_of HT_.out (by kernel_rfl)) (fun _ _ _ h => h) (Or.inl ⟨by rfl, ?_⟩) ?_ ?_
                        rotate_left
                        · intro w'
                          go_simp
                          with_reducible rfl
                        rotate_left
                        · simp only [Act.put, List.setIfInBounds_toArray, List.set_cons_zero, List.set_cons_succ, i64_w, i32_w]
                          rfl
                        refine pure_ (i := 3) (N := some 58) (v := ?_) (a' := ?_) #[true, false, false, true, false, false, false, false, false, false, false, false, false, false, false, false, false, false, false, false, false] rfl rfl (any_of HT_.out (by kernel_rfl)) (fun _ _ _ h => h) (Or.inl ⟨by rfl, ?_⟩) ?_ ?_
                        rotate_left
                        · intro w'
                          go_simp
                          with_reducible rfl
                        rotate_left
                        · simp only [Act.put, List.setIfInBounds_toArray, List.set_cons_zero, List.set_cons_succ, i64_w, i32_w]
                          rfl
                        refine pure_ (i := 4) (N := some 59) (v := ?_) (a' := ?_) #[true, false, false, true, true, false, false, false, false, false, false, false, false, false, false, false, false, false, false, false, false] rfl rfl (any_of HT_.out (by kernel_rfl)) (fun _ _ _ h => h) (Or.inl ⟨by rfl, ?_⟩) ?_ ?_
                        rotate_left
                        · intro w'
                          go_simp
                          with_reducible rfl
                        rotate_left
                        · simp only [Act.put, List.setIfInBounds_toArray, List.set_cons_zero, List.set_cons_succ, i64_w, i32_w]
                          rfl
                        refine pure_ (i := 5) (N := some 60) (v := ?_) (a' := ?_) #[true, false, false, true, true, true, false, false, false, false, false, false, false, false, false, false, false, false, false, false, false] rfl rfl (any_of HT_.out (by kernel_rfl)) (fun _ _ _ h => h) (Or.inl ⟨by rfl, ?_⟩) ?_ ?_
                        rotate_left
                        · intro w'
                          go_simp
                          with_reducible rfl
                        rotate_left
                        · simp only [Act.put, List.setIfInBounds_toArray, List.set_cons_zero, List.set_cons_succ, i64_w, i32_w]
                          rfl
                        refine pure_ (i := 8) (N := some 63) (v := ?_) (a' := ?_) #[true, false, false, true, true, true, false, false, true, false, false, false, false, false, false, false, false, false, false, false, false] rfl rfl (any_of HT_.out (by kernel_rfl)) (fun _ _ _ h => h) (Or.inl ⟨by rfl, ?_⟩) ?_ ?_
                        rotate_left
                        · intro w'
                          go_simp
                          with_reducible rfl
                        rotate_left
                        · simp only [Act.put, List.setIfInBounds_toArray, List.set_cons_zero, List.set_cons_succ, i64_w, i32_w]
                          rfl
                        refine pure_ (i := 9) (N := some 64) (v := ?_) (a' := ?_) #[true, false, false, true, true, true, false, false, true, true, false, false, false, false, false, false, false, false, false, false, false] rfl rfl (any_of HT_.out (by kernel_rfl)) (fun _ _ _ h => h) (Or.inl ⟨by rfl, ?_⟩) ?_ ?_
                        rotate_left
                        · intro w'
                          go_simp
                          with_reducible rfl
                        rotate_left
                        · simp only [Act.put, List.setIfInBounds_toArray, List.set_cons_zero, List.set_cons_succ, i64_w, i32_w]
                          rfl
                        refine pure_ (i := 10) (N := some 65) (v := ?_) (a' := ?_) #[true, false, false, true, true, true, false, false, true, true, true, false, false, false, false, false, false, false, false, false, false] rfl rfl (any_of HT_.out (by kernel_rfl)) (fun _ _ _ h => h) (Or.inl ⟨by rfl, ?_⟩) ?_ ?_
                        rotate_left
                        · intro w'
                          go_simp
                          with_reducible rfl
                        rotate_left
                        · simp only [Act.put, List.setIfInBounds_toArray, List.set_cons_zero, List.set_cons_succ, i64_w, i32_w]
                          rfl
                        refine pure_ (i := 14) (N := some 69) (v := ?_) (a' := ?_) #[true, false, false, true, true, true, false, false, true, true, true, false, false, false, true, false, false, false, false, false, false] rfl rfl (any_of HT_.out (by kernel_rfl)) (fun _ _ _ h => h) (Or.inl ⟨by rfl, ?_⟩) ?_ ?_
                        rotate_left
                        · intro w'
                          go_simp
                          with_reducible rfl
                        rotate_left
                        · simp only [Act.put, List.setIfInBounds_toArray, List.set_cons_zero, List.set_cons_succ, i64_w, i32_w]
                          rfl
                        refine pure_ (i := 15) (N := some 70) (v := ?_) (a' := ?_) #[true, false, false, true, true, true, false, false, true, true, true, false, false, false, true, true, false, false, false, false, false] rfl rfl (any_of HT_.out (by kernel_rfl)) (fun _ _ _ h => h) (Or.inl ⟨by rfl, ?_⟩) ?_ ?_
                        rotate_left
                        · intro w'
                          go_simp
                          with_reducible rfl
                        rotate_left
                        · simp only [Act.put, List.setIfInBounds_toArray, List.set_cons_zero, List.set_cons_succ, i64_w, i32_w]
                          rfl
                        refine pure_ (i := 16) (N := some 71) (v := ?_) (a' := ?_) #[true, false, false, true, true, true, false, false, true, true, true, false, false, false, true, true, true, false, false, false, false] rfl rfl (any_of HT_.out (by kernel_rfl)) (fun _ _ _ h => h) (Or.inl ⟨by rfl, ?_⟩) ?_ ?_
                        rotate_left
                        · intro w'
                          go_simp
                          with_reducible rfl
                        rotate_left
                        · simp only [Act.put, List.setIfInBounds_toArray, List.set_cons_zero, List.set_cons_succ, i64_w, i32_w]
                          rfl
                        refine V.quad (l1 := x10_2) (l2 := y176) (l3 := y182) (l4 := (l3.take (ji43 : Int).toNat)) (s1 := t175) (s2 := t181) (s3 := t187) (s4 := t189) HT_.out HW_.out (by kernel_rfl) ⟨_, rfl, rfl, rfl, rfl⟩ ⟨_, rfl, rfl, rfl, rfl⟩ ⟨_, rfl, rfl, rfl, rfl⟩ ⟨_, rfl, rfl, rfl, rfl⟩ ⟨_, rfl, rfl, rfl, rfl⟩ ⟨_, rfl, rfl, rfl, rfl⟩ ⟨_, rfl, rfl, rfl, rfl⟩ ⟨_, rfl, rfl, rfl, rfl⟩ ⟨_, rfl, rfl, rfl, rfl⟩ ⟨_, rfl, rfl, rfl, rfl⟩ ⟨_, rfl, rfl, rfl, rfl⟩ (Nat.le_of_ble_eq_true rfl) (by first | rfl | (rw [show (x10_2).length = ji43.toNat from (by rw [List.length_take]; first | omega | (have h_ : (ji43 : Int) ≤ (l3.length : Int) := of_decide_eq_true (by first | (with_reducible assumption) | assumption); omega))]; rfl)) (by first | rfl | (rw [show (y176).length = ji43.toNat from (by rw [List.length_take]; first | omega | (have h_ : (ji43 : Int) ≤ (l3.length : Int) := of_decide_eq_true (by first | (with_reducible assumption) | assumption); omega))]; rfl)) (by first | rfl | (rw [show (y182).length = ji43.toNat from (by rw [List.length_take]; first | omega | (have h_ : (ji43 : Int) ≤ (l3.length : Int) := of_decide_eq_true (by first | (with_reducible assumption) | assumption); omega))]; rfl)) (by first | rfl | (rw [show ((l3.take (ji43 : Int).toNat)).length = ji43.toNat from (by rw [List.length_take]; first | omega | (have h_ : (ji43 : Int) ≤ (l3.length : Int) := of_decide_eq_true (by first | (with_reducible assumption) | assumption); omega))]; rfl)) (Kd.R_reads' HO_10.out).2.1 (by first | exact (Kd.R_reads' HO_10.out).2.2 | exact Kd.C_below ((Kd.R_reads' HO_10.out).2.2) HB.out) A52.out (Kd.V_reads' HO180.out).2.1 (by first | exact (Kd.V_reads' HO180.out).2.2 | exact Kd.C_below ((Kd.V_reads' HO180.out).2.2) HB.out) A55.out (Kd.V_reads' HO186.out).2.1 (by first | exact (Kd.V_reads' HO186.out).2.2 | exact Kd.C_below ((Kd.V_reads' HO186.out).2.2) HB.out) A58.out HC188.out (by first | exact (Kd.C_below HR188.out (by repeat (first | (with_reducible first | exact HB.out | apply below_alloc | apply pw_below_drewN | apply below_drew1) | exact HB.out))) | exact Kd.C_below ((Kd.C_below HR188.out (by repeat (first | (with_reducible first | exact HB.out | apply below_alloc | apply pw_below_drewN | apply below_drew1) | exact HB.out)))) HB.out) A61.out (by first | exact HG.out | exact Half.below HG.out HB.out) ?_
                        intro B1_ k1_ B2_ k2_ B3_ k3_ B4_ k4_ wq_ hbq_
                        (first | (have nq_ := Aside0.mk (Kd.V_below HO_1.out hbq_); clear HO_1; have HO_1 := nq_; clear nq_) | (have nq_ := Aside0.mk (Kd.R_below HO_1.out hbq_); clear HO_1; have HO_1 := nq_; clear nq_) | (have nq_ := Aside0.mk (Kd.C_below HO_1.out hbq_); clear HO_1; have HO_1 := nq_; clear nq_) | skip)
                        (first | (have nq_ := Aside0.mk (Kd.V_below HO_2.out hbq_); clear HO_2; have HO_2 := nq_; clear nq_) | (have nq_ := Aside0.mk (Kd.R_below HO_2.out hbq_); clear HO_2; have HO_2 := nq_; clear nq_) | (have nq_ := Aside0.mk (Kd.C_below HO_2.out hbq_); clear HO_2; have HO_2 := nq_; clear nq_) | skip)
                        (first | (have nq_ := Aside0.mk (Kd.V_below HO_10.out hbq_); clear HO_10; have HO_10 := nq_; clear nq_) | (have nq_ := Aside0.mk (Kd.R_below HO_10.out hbq_); clear HO_10; have HO_10 := nq_; clear nq_) | (have nq_ := Aside0.mk (Kd.C_below HO_10.out hbq_); clear HO_10; have HO_10 := nq_; clear nq_) | skip)
                        (first | (have nq_ := Aside0.mk (Kd.V_below HO180.out hbq_); clear HO180; have HO180 := nq_; clear nq_) | (have nq_ := Aside0.mk (Kd.R_below HO180.out hbq_); clear HO180; have HO180 := nq_; clear nq_) | (have nq_ := Aside0.mk (Kd.C_below HO180.out hbq_); clear HO180; have HO180 := nq_; clear nq_) | skip)
                        (first | (have nq_ := Aside0.mk (Kd.V_below HO186.out hbq_); clear HO186; have HO186 := nq_; clear nq_) | (have nq_ := Aside0.mk (Kd.R_below HO186.out hbq_); clear HO186; have HO186 := nq_; clear nq_) | (have nq_ := Aside0.mk (Kd.C_below HO186.out hbq_); clear HO186; have HO186 := nq_; clear nq_) | skip)
                        (first | (have nq_ := Aside0.mk (Kd.V_below HR188.out hbq_); clear HR188; have HR188 := nq_; clear nq_) | (have nq_ := Aside0.mk (Kd.R_below HR188.out hbq_); clear HR188; have HR188 := nq_; clear nq_) | (have nq_ := Aside0.mk (Kd.C_below HR188.out hbq_); clear HR188; have HR188 := nq_; clear nq_) | skip)
                        have nq_ := Aside0.mk (below_step HB.out hbq_)
                        clear HB
                        have HB := nq_
                        clear nq_ hbq_
                        refine V.norm2 (a' := ?_) ?_ ?_
                        rotate_left
                        · simp only [putAll, Act.put, List.setIfInBounds_toArray, List.set_cons_zero, List.set_cons_succ, i64_w, i32_w, c62b1]
                          rfl
                        try go_wp2
                        go_ret
                        exact ⟨by first | rfl | (simp [errW_none, errW_some] <;> rfl) | (simp only [← hji42, ← hji43]; first | rfl | (simp [errW_none, errW_some] <;> rfl)) | (simp [*, errW_none, errW_some] <;> rfl), by repeat (first | (with_reducible first | exact HB.out | apply below_alloc | apply pw_below_drewN | apply below_drew1) | exact HB.out)⟩
                    · rw [if_neg c60] at H
                      exact absurd H (by simp)
                  · rw [if_neg c57] at H
                    exact absurd H (by simp)
                · rw [if_neg c54] at H
                  exact absurd H (by simp)
              · rw [if_neg c53] at H
                exact absurd H (by simp)
end Go.Proofs.YthmnomdjpbfefaaDoor.U
