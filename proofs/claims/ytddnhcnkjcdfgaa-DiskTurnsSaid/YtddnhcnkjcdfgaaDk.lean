-- lasts
import Derived.Test.YtddnhcnkjcdfgaaDj
namespace Go.Proofs.Ytddnhcnkjcdfgaa.M
open Go.RowKit Go.Maps Go.Proofs.YtddnhcnkjcdfgaaW.PrintWords Go.Proofs.YtddnhcnkjcdfgaaW.PrintLast Go.Proofs.YtddnhcnkjcdfgaaW.PrintMore
open Go.Proofs.Ytddnhcnkjcdfgaa.P
attribute [local go_sem] max2_int min2_int max_two min_two max_three min_three max_four min_four
set_option linter.unusedVariables false
set_option linter.unusedSimpArgs false
def lasts_T10 : Bool × List (List Nat × List Nat) := (true, [([], []), ([], []), ([0, 1], [0, 1]), ([2], [2]), ([3], [3]), ([], []), ([], []), ([], []), ([5, 6, 7], [5, 6, 7]), ([8], [8]), ([4, 9], [4, 9])])
def lasts_B10 : List Nat := [0, 0, 3, 7, 15, 0, 0, 0, 224, 480, 1023]
theorem lasts_tab10 : rtab .any (opsOf Try.f19 10) = lasts_T10 := by kernel_rfl
theorem lasts_bits10 : waitsOk lasts_T10.2 lasts_B10 = true := by kernel_rfl
set_option maxHeartbeats 8000000 in
set_option maxRecDepth 100000 in
theorem lasts_in (g : Nat) (base : Nat) (F : Nat → Prop) (s : DS) (A2 : Option Addr) (c2 : Nat) (l2 : List (S30)) (a3 : Int) (w : World) (hd : DkAt w base g F s) (hs2 : Kd.V k30 30 w w.heap.size (fun k_ => ¬ F k_) (.slice A2 l2.length c2) l2) (h0 : 0 ≤ a3) (h1 : a3 < (l2.length : Int)) (hl : ∀ i, i < s.n → ∃ kl, kilnlaw3_last.f kl l2 (i : Int) (wrap64 (a3 + 1)) = some (s.L.getD i [])) :
    Calls Try.prog 19 #[.pointer (some ⟨g, 0, none⟩), .int .i64 (s.n : Int), .slice A2 l2.length c2, .int .i64 a3] w fun e w' => e = .returned (.bool true) ∧ Below w.heap.size w w' := by
  have hn2 := hd.n_le.1
  have hnm := hd.n_le.2
  have hIM := image_at g w base F s hd
  have HS := Aside0.mk hs2
  have HC2 := Aside0.mk (Kd.V_reads' hs2).2.1
  have hLn := hd.lasts.1
  clear hd hs2
  obtain ⟨L, hL⟩ : ∃ L, L = s.L := ⟨_, rfl⟩
  have hn' : s.n = L.length := by rw [hL]; exact hLn.symm
  rw [hn'] at hn2 hnm hIM hl ⊢
  rw [← hL] at hIM hl
  have HIM := Aside0.mk hIM
  have HL := Aside0.mk hl
  clear hIM hl hn' hL hLn
  go_enter Try.func19, Try.ntmps19
  have h0b : decide (0 ≤ a3) = true := decide_eq_true h0
  have h1b : decide (a3 < (l2.length : Int)) = true := decide_eq_true h1
  clear h0 h1
  go_wp2_with (go_at_call 26; (with_reducible refine HIM.out.mono ?_); rintro e w10 ⟨go10, c10, rfl, ho0, hb⟩; generalize (⟨go10, 0, none⟩ : Addr) = ad10 at ho0 ⊢; have HO10 := Aside0.mk ho0; have HB10 := Aside0.mk hb; clear ho0 hb)
  have HR2 := Aside0.mk (Kd.V_reads' (Kd.V_below HS.out HB10.out)).2.2
  go_loopg [11] L.length (fun kq v11 w' => ∃ (i : Nat), v11 = .int .i64 i ∧ Aside0 (i + kq = L.length) ∧ Aside0 (Kd.S (Kd.slice 5 (Kd.int .u8)) 28 w' w.heap.size (fun _ => True) (.slice (some ad10) L.length c10) L) ∧ Aside0 (Below w10.heap.size w10 w'))
  case atStart => exact ⟨0, rfl, ⟨Nat.zero_add _⟩, HO10, ⟨Below.refl _ _⟩⟩
  case round =>
    clear HO10
    obtain ⟨i, rfl, HI, HO_10, HB⟩ := hrel
    by_cases hi : i < L.length
    · have hib : decide (i < L.length) = true := decide_eq_true hi
      have hz1 : decide (0 ≤ (i : Int)) = true := decide_eq_true (by omega)
      have hz2 : decide ((i : Int) < (L.length : Int)) = true := decide_eq_true (by omega)
      obtain ⟨kl, A8⟩ := HL.out i hi
      obtain ⟨t121, hrd⟩ : ∃ t, L.getD i [] = t := ⟨_, rfl⟩
      rw [hrd] at A8
      have HIn := Aside0.mk hi
      clear hi
      have c9b0 : ((strOfNums t121).toList == (strOfNums t121).toList) = true := beq_iff_eq.mpr rfl
      have c9b1 : ((strOfNums t121).toList != (strOfNums t121).toList) = false := bne_eq_false_iff_eq.mpr rfl
      try go_wp2
      have n0_ := Aside0.mk (Kd.S_drew HO_10.out)
      have n1_ := Aside0.mk (below_drew1 HB.out)
      clear HO_10
      clear HB
      have HO_10 := n0_
      have HB := n1_
      clear n0_ n1_
      have p130 : 0 ≤ ((i : Int) : Int) := of_decide_eq_true (by first | (with_reducible assumption) | assumption)
      have q130 : (i : Int) < (L.length : Int) := of_decide_eq_true (by first | (with_reducible assumption) | assumption)
      obtain ⟨ad130, A130_0, c130_0, e130, hx130_0, hl130_0, hi130_0⟩ := at_L2 (Kd.S_reads' HO_10.out).2.2 (i : Int) p130 q130
      obtain rfl : ad10 = ad130 := by injection e130
      obtain ⟨ce130, hce130, hMe130, hcc130⟩ := Kd.S_get HO_10.out [] (i : Int) p130 (by first | exact q130 | exact of_decide_eq_true (by first | (with_reducible assumption) | assumption) | (have e_ := (Kd.S_reads' HO_10.out).1; omega))
      obtain ⟨ve130_0, rfl, ge130_0⟩ := hMe130
      have hv130_0 := hcc130 0 _ rfl
      rw [Nat.add_zero, show ((Kd.slice 5 (Kd.int .u8))).sz = 1 from rfl, Nat.mul_one] at hv130_0
      replace hv130_0 := Option.some.inj (hv130_0.symm.trans hx130_0)
      rw [hv130_0] at ge130_0
      have HL130_0 := Aside0.mk (show Kd.R (Kd.int .u8) 5 _ _ _ _ (rd_L2 L (i : Int)) from ge130_0)
      clear hv130_0 ge130_0
      clear hcc130 hce130
      have HR130_0 := Aside0.mk hi130_0
      have HC130_0 := Aside0.mk hl130_0
      clear hi130_0 hl130_0
      replace p130 := eq_true p130
      replace q130 := eq_true q130
      rw [Int.toNat_natCast] at hx130_0
      have hcv21 := Kd.C_string (P := Try.prog) (A := A130_0) (c := c130_0) Try.underlying28 Try.underlying5 Try.underlying9 HR130_0.out
      rw [show strOfNums (rd_L2 L (i : Int)) = strOfNums t121 from by rw [show rd_L2 L (i : Int) = t121 from hrd]] at hcv21
      refine start_ (n := 11) (S := fun w' => w'.cell? (ad10.add i) = some (.slice A130_0 (rd_L2 L (i : Int)).length c130_0) ∧ (convert 28 9 (.slice A130_0 (rd_L2 L (i : Int)).length c130_0)).run Try.prog w' = .ok (.string (strOfNums t121)) w') (ds := []) #[false, false, false, false, false, false, false, false, false, false, false] (by kernel_rfl) rfl rfl ⟨hx130_0, hcv21⟩ (fun hHeld => ?_); refine with_tabW lasts_tab10 lasts_bits10 (fun HT_ HW_ => ?_)
      clear hcv21
      generalize wr.drew = w20 at HO_10 HB HL130_0 HR130_0 hx130_0 hHeld ⊢
      refine pure_ (i := 0) (N := some 33) (v := ?_) (a' := ?_) #[true, false, false, false, false, false, false, false, false, false, false] rfl rfl (any_of HT_.out (by kernel_rfl)) (fun _ _ _ h => h) (Or.inl ⟨by rfl, ?_⟩) ?_ ?_
      rotate_left
      · intro w'
        go_simp
        with_reducible rfl
      rotate_left
      · simp only [Act.put, List.setIfInBounds_toArray, List.set_cons_zero, List.set_cons_succ, i64_w, i32_w]
        rfl
      refine pure_ (i := 1) (N := some 34) (v := ?_) (a' := ?_) #[true, true, false, false, false, false, false, false, false, false, false] rfl rfl (any_of HT_.out (by kernel_rfl)) (fun _ _ _ h => h) (Or.inl ⟨by rfl, ?_⟩) ?_ ?_
      rotate_left
      · intro w'
        go_simp
        with_reducible rfl
      rotate_left
      · simp only [Act.put, List.setIfInBounds_toArray, List.set_cons_zero, List.set_cons_succ, i64_w, i32_w]
        rfl
      refine pure_ (i := 2) (N := some 35) (v := ?_) (a' := ?_) #[true, true, true, false, false, false, false, false, false, false, false] rfl rfl (any_of HT_.out (by kernel_rfl)) (fun _ _ _ h => h) (Or.inl ⟨by rfl, ?_⟩) ?_ ?_
      rotate_left
      · intro w'
        go_simp
        with_reducible rfl
      rotate_left
      · simp only [Act.put, List.setIfInBounds_toArray, List.set_cons_zero, List.set_cons_succ, i64_w, i32_w]
        rfl
      refine pure_ (i := 5) (N := some 38) (v := ?_) (a' := ?_) #[true, true, true, false, false, true, false, false, false, false, false] rfl rfl (any_of HT_.out (by kernel_rfl)) (fun _ _ _ h => h) (Or.inl ⟨by rfl, ?_⟩) ?_ ?_
      rotate_left
      · intro w'
        go_simp
        with_reducible rfl
      rotate_left
      · simp only [Act.put, List.setIfInBounds_toArray, List.set_cons_zero, List.set_cons_succ, i64_w, i32_w]
        rfl
      refine pure_ (i := 6) (N := some 39) (v := ?_) (a' := ?_) #[true, true, true, false, false, true, true, false, false, false, false] rfl rfl (any_of HT_.out (by kernel_rfl)) (fun _ _ _ h => h) (Or.inl ⟨by rfl, ?_⟩) ?_ ?_
      rotate_left
      · intro w'
        go_simp
        with_reducible rfl
      rotate_left
      · simp only [Act.put, List.setIfInBounds_toArray, List.set_cons_zero, List.set_cons_succ, i64_w, i32_w]
        rfl
      refine pure_ (i := 7) (N := some 40) (v := ?_) (a' := ?_) #[true, true, true, false, false, true, true, true, false, false, false] rfl rfl (any_of HT_.out (by kernel_rfl)) (fun _ _ _ h => h) (Or.inl ⟨by rfl, ?_⟩) ?_ ?_
      rotate_left
      · intro w'
        go_simp
        with_reducible rfl
      rotate_left
      · simp only [Act.put, List.setIfInBounds_toArray, List.set_cons_zero, List.set_cons_succ, i64_w, i32_w]
        rfl
      refine take_ (i := 3) (N := some 36) (v := ?_) (a' := ?_) #[true, true, true, true, false, true, true, true, false, false, false] rfl rfl (take_ofW HT_.out HW_.out (by kernel_rfl)) (fun _ _ _ h => h) (Or.inl ⟨by rfl, ?_⟩) hHeld ?_ ?_
      rotate_left
      · rintro w' ⟨s0, s1⟩
        go_simp
        with_reducible rfl
      rotate_left
      · simp only [Act.put, List.setIfInBounds_toArray, List.set_cons_zero, List.set_cons_succ, i64_w, i32_w]
        rfl
      refine take_ (i := 4) (N := some 37) (v := ?_) (a' := ?_) #[true, true, true, true, true, true, true, true, false, false, false] rfl rfl (take_ofW HT_.out HW_.out (by kernel_rfl)) (fun _ _ _ h => h) (Or.inl ⟨by rfl, ?_⟩) hHeld ?_ ?_
      rotate_left
      · rintro w' ⟨s0, s1⟩
        go_simp
        with_reducible rfl
      rotate_left
      · simp only [Act.put, List.setIfInBounds_toArray, List.set_cons_zero, List.set_cons_succ, i64_w, i32_w]
        rfl
      refine one_ (i := 8) (N := some 41) #[true, true, true, true, true, true, true, true, true, false, false] rfl rfl (one_of HT_.out (by kernel_rfl)) (by decide) (fun K hK => ?_)
      refine goes_ Try.func42 (by kernel_rfl) rfl #[.slice A2 l2.length c2, .int .i64 (i : Int), .int .i64 (wrap64 (a3 + 1))] (by rfl) rfl rfl (by (try simp only [List.map_toArray, List.map_cons, List.map_nil]); first | done | rfl | (simp only [List.length_drop, List.length_take]; rfl)) ?_
      with_reducible refine (kilnlaw3_last.calls kl (fun k_ => k_ < w10.heap.size) _ _ l2 (i : Int) (wrap64 (a3 + 1)) t121 _ ?side1 A8).mono ?_
      (case side1 => exact Kd.V_mk HC2.out (Kd.F_below (Kd.C_F k30_heap HR2.out) (by repeat (first | (with_reducible first | exact HB.out | apply below_alloc | apply pw_below_drewN | apply below_drew1) | exact HB.out))))
      rintro e w22 ⟨v132, rfl, ho0, hb⟩
      obtain ⟨A9, c9, e9⟩ := Kd.V_slice ho0
      subst e9
      have HS0_ := (hb.cell (World.block_lt_of_cell? _ _ (hHeld.1))).trans (hHeld.1)
      refine ⟨_, rfl, ?_⟩
      have n0_ := Aside0.mk (Kd.S_below (by (with_reducible repeat (first | apply Kd.S_alloc | apply Kd.S_drewN | apply Kd.S_drew)); exact HO_10.out) hb)
      have n1_ := Aside0.mk (Kd.R_below (by (with_reducible repeat (first | apply Kd.R_alloc | apply Kd.R_drewN | apply Kd.R_drew)); exact HL130_0.out) hb)
      have n2_ := Aside0.mk (Kd.V_mono (ok' := fun _ => True) ho0 (fun _ _ => trivial))
      have n3_ := Aside0.mk (Kd.C_below (by repeat (first | (with_reducible exact HR130_0.out) | (with_reducible refine Kd.C_alloc ?_ _) | (with_reducible refine Kd.C_drewN ?_ _) | (with_reducible refine Kd.C_drew ?_) | exact HR130_0.out)) hb)
      have n4_ := Aside0.mk (below_step (by repeat (first | (with_reducible first | exact HB.out | apply below_alloc | apply pw_below_drewN | apply below_drew1) | exact HB.out)) hb)
      clear HO_10
      clear HL130_0
      clear HR130_0
      clear HB
      have HO_10 := n0_
      have HL130_0 := n1_
      have HO133 := n2_
      have HR130_0 := n3_
      have HB := n4_
      clear n0_ n1_ n2_ n3_ n4_
      (try clear hb)
      (try clear hb2)
      (try clear hk)
      (try clear hi)
      (try clear ho0)
      refine hK.out _ _ ⟨HS0_, (show _ from by have h_ := Kd.C_string (P := Try.prog) (A := A130_0) (c := c130_0) Try.underlying28 Try.underlying5 Try.underlying9 HR130_0.out; rw [show strOfNums (rd_L2 L (i : Int)) = strOfNums t121 from by rw [show rd_L2 L (i : Int) = t121 from hrd]] at h_; exact h_)⟩ (fun hHeld => ?_)
      clear hK K
      refine norm_ (a' := ?_) ?_ ?_
      rotate_left
      · show Act.put _ (some 41) _ = _
        simp only [Act.put, List.setIfInBounds_toArray, List.set_cons_zero, List.set_cons_succ, i64_w, i32_w]
        rfl
      refine one_ (i := 9) (N := some 42) #[true, true, true, true, true, true, true, true, true, true, false] rfl rfl (one_of HT_.out (by kernel_rfl)) (by decide) (fun K hK => ?_)
      have hcv23 := Kd.C_string (P := Try.prog) (A := A9) (c := c9) Try.underlying28 Try.underlying5 Try.underlying9 (Kd.V_reads' HO133.out).2.2
      refine value_ (w1 := ?_) (v := ?_) (by rfl) rfl ?_ ?_
      rotate_left 2
      · go_simp
        constructor
        · rfl
        · rfl
      clear hcv23
      refine hK.out _ _ hHeld (fun hHeld => ?_)
      clear hK K
      refine norm_ (a' := ?_) ?_ ?_
      rotate_left
      · show Act.put _ (some 42) _ = _
        simp only [Act.put, List.setIfInBounds_toArray, List.set_cons_zero, List.set_cons_succ, i64_w, i32_w]
        rfl
      refine pure_ (i := 10) (N := some 43) (v := ?_) (a' := ?_) #[true, true, true, true, true, true, true, true, true, true, true] rfl rfl (any_of HT_.out (by kernel_rfl)) (fun _ _ _ h => h) (Or.inl ⟨by rfl, ?_⟩) ?_ ?_
      rotate_left
      · intro w'
        go_simp
        with_reducible rfl
      rotate_left
      · simp only [Act.put, List.setIfInBounds_toArray, List.set_cons_zero, List.set_cons_succ, i64_w, i32_w]
        rfl
      refine done_ (done_of HT_.out (by kernel_rfl)) ?_
      try go_wp2
      go_roundg (gk - 1)
      case measure => have := HI.out; have := HIn.out; omega
      case rel => exact ⟨i + 1, (by have hi_ := HIn.out; first | rfl | (simp; done) | (rw [show wrap64 ((i : Int) + 1) = (i : Int) + 1 from by unfold wrap64; omega]; rfl)), ⟨by have := HI.out; have := HIn.out; omega⟩, HO_10, HB⟩
    · have hib : decide (i < L.length) = false := decide_eq_false hi
      go_wp2
      all_goals first | (exfalso; omega) | (go_ret; exact ⟨rfl, below_step HB10.out HB.out⟩)
set_option maxHeartbeats 8000000 in
set_option maxRecDepth 100000 in
theorem lasts_neg (g : Nat) (base : Nat) (F : Nat → Prop) (s : DS) (A2 : Option Addr) (c2 : Nat) (l2 : List (S30)) (a3 : Int) (w : World) (hd : DkAt w base g F s) (hs2 : Kd.V k30 30 w w.heap.size (fun k_ => ¬ F k_) (.slice A2 l2.length c2) l2) (h0 : ¬ 0 ≤ a3) (hl : ∀ i, i < s.n → ∃ kl, kilnlaw3_last.f kl l2 (i : Int) (0) = some (s.L.getD i [])) :
    Calls Try.prog 19 #[.pointer (some ⟨g, 0, none⟩), .int .i64 (s.n : Int), .slice A2 l2.length c2, .int .i64 a3] w fun e w' => e = .returned (.bool true) ∧ Below w.heap.size w w' := by
  have hn2 := hd.n_le.1
  have hnm := hd.n_le.2
  have hIM := image_at g w base F s hd
  have HS := Aside0.mk hs2
  have HC2 := Aside0.mk (Kd.V_reads' hs2).2.1
  have hLn := hd.lasts.1
  clear hd hs2
  obtain ⟨L, hL⟩ : ∃ L, L = s.L := ⟨_, rfl⟩
  have hn' : s.n = L.length := by rw [hL]; exact hLn.symm
  rw [hn'] at hn2 hnm hIM hl ⊢
  rw [← hL] at hIM hl
  have HIM := Aside0.mk hIM
  have HL := Aside0.mk hl
  clear hIM hl hn' hL hLn
  go_enter Try.func19, Try.ntmps19
  have h0b : decide (0 ≤ a3) = false := decide_eq_false h0
  clear h0
  go_wp2_with (go_at_call 26; (with_reducible refine HIM.out.mono ?_); rintro e w10 ⟨go10, c10, rfl, ho0, hb⟩; generalize (⟨go10, 0, none⟩ : Addr) = ad10 at ho0 ⊢; have HO10 := Aside0.mk ho0; have HB10 := Aside0.mk hb; clear ho0 hb)
  have HR2 := Aside0.mk (Kd.V_reads' (Kd.V_below HS.out HB10.out)).2.2
  go_loopg [11] L.length (fun kq v11 w' => ∃ (i : Nat), v11 = .int .i64 i ∧ Aside0 (i + kq = L.length) ∧ Aside0 (Kd.S (Kd.slice 5 (Kd.int .u8)) 28 w' w.heap.size (fun _ => True) (.slice (some ad10) L.length c10) L) ∧ Aside0 (Below w10.heap.size w10 w'))
  case atStart => exact ⟨0, rfl, ⟨Nat.zero_add _⟩, HO10, ⟨Below.refl _ _⟩⟩
  case round =>
    clear HO10
    obtain ⟨i, rfl, HI, HO_10, HB⟩ := hrel
    by_cases hi : i < L.length
    · have hib : decide (i < L.length) = true := decide_eq_true hi
      have hz1 : decide (0 ≤ (i : Int)) = true := decide_eq_true (by omega)
      have hz2 : decide ((i : Int) < (L.length : Int)) = true := decide_eq_true (by omega)
      obtain ⟨kl, A8⟩ := HL.out i hi
      obtain ⟨t121, hrd⟩ : ∃ t, L.getD i [] = t := ⟨_, rfl⟩
      rw [hrd] at A8
      have HIn := Aside0.mk hi
      clear hi
      have c9b0 : ((strOfNums t121).toList == (strOfNums t121).toList) = true := beq_iff_eq.mpr rfl
      have c9b1 : ((strOfNums t121).toList != (strOfNums t121).toList) = false := bne_eq_false_iff_eq.mpr rfl
      try go_wp2
      have n0_ := Aside0.mk (Kd.S_drew HO_10.out)
      have n1_ := Aside0.mk (below_drew1 HB.out)
      clear HO_10
      clear HB
      have HO_10 := n0_
      have HB := n1_
      clear n0_ n1_
      have p130 : 0 ≤ ((i : Int) : Int) := of_decide_eq_true (by first | (with_reducible assumption) | assumption)
      have q130 : (i : Int) < (L.length : Int) := of_decide_eq_true (by first | (with_reducible assumption) | assumption)
      obtain ⟨ad130, A130_0, c130_0, e130, hx130_0, hl130_0, hi130_0⟩ := at_L2 (Kd.S_reads' HO_10.out).2.2 (i : Int) p130 q130
      obtain rfl : ad10 = ad130 := by injection e130
      obtain ⟨ce130, hce130, hMe130, hcc130⟩ := Kd.S_get HO_10.out [] (i : Int) p130 (by first | exact q130 | exact of_decide_eq_true (by first | (with_reducible assumption) | assumption) | (have e_ := (Kd.S_reads' HO_10.out).1; omega))
      obtain ⟨ve130_0, rfl, ge130_0⟩ := hMe130
      have hv130_0 := hcc130 0 _ rfl
      rw [Nat.add_zero, show ((Kd.slice 5 (Kd.int .u8))).sz = 1 from rfl, Nat.mul_one] at hv130_0
      replace hv130_0 := Option.some.inj (hv130_0.symm.trans hx130_0)
      rw [hv130_0] at ge130_0
      have HL130_0 := Aside0.mk (show Kd.R (Kd.int .u8) 5 _ _ _ _ (rd_L2 L (i : Int)) from ge130_0)
      clear hv130_0 ge130_0
      clear hcc130 hce130
      have HR130_0 := Aside0.mk hi130_0
      have HC130_0 := Aside0.mk hl130_0
      clear hi130_0 hl130_0
      replace p130 := eq_true p130
      replace q130 := eq_true q130
      rw [Int.toNat_natCast] at hx130_0
      have hcv21 := Kd.C_string (P := Try.prog) (A := A130_0) (c := c130_0) Try.underlying28 Try.underlying5 Try.underlying9 HR130_0.out
      rw [show strOfNums (rd_L2 L (i : Int)) = strOfNums t121 from by rw [show rd_L2 L (i : Int) = t121 from hrd]] at hcv21
      refine start_ (n := 11) (S := fun w' => w'.cell? (ad10.add i) = some (.slice A130_0 (rd_L2 L (i : Int)).length c130_0) ∧ (convert 28 9 (.slice A130_0 (rd_L2 L (i : Int)).length c130_0)).run Try.prog w' = .ok (.string (strOfNums t121)) w') (ds := []) #[false, false, false, false, false, false, false, false, false, false, false] (by kernel_rfl) rfl rfl ⟨hx130_0, hcv21⟩ (fun hHeld => ?_); refine with_tabW lasts_tab10 lasts_bits10 (fun HT_ HW_ => ?_)
      clear hcv21
      generalize wr.drew = w20 at HO_10 HB HL130_0 HR130_0 hx130_0 hHeld ⊢
      refine pure_ (i := 0) (N := some 33) (v := ?_) (a' := ?_) #[true, false, false, false, false, false, false, false, false, false, false] rfl rfl (any_of HT_.out (by kernel_rfl)) (fun _ _ _ h => h) (Or.inl ⟨by rfl, ?_⟩) ?_ ?_
      rotate_left
      · intro w'
        go_simp
        with_reducible rfl
      rotate_left
      · simp only [Act.put, List.setIfInBounds_toArray, List.set_cons_zero, List.set_cons_succ, i64_w, i32_w]
        rfl
      refine pure_ (i := 1) (N := some 34) (v := ?_) (a' := ?_) #[true, true, false, false, false, false, false, false, false, false, false] rfl rfl (any_of HT_.out (by kernel_rfl)) (fun _ _ _ h => h) (Or.inl ⟨by rfl, ?_⟩) ?_ ?_
      rotate_left
      · intro w'
        go_simp
        with_reducible rfl
      rotate_left
      · simp only [Act.put, List.setIfInBounds_toArray, List.set_cons_zero, List.set_cons_succ, i64_w, i32_w]
        rfl
      refine pure_ (i := 2) (N := some 35) (v := ?_) (a' := ?_) #[true, true, true, false, false, false, false, false, false, false, false] rfl rfl (any_of HT_.out (by kernel_rfl)) (fun _ _ _ h => h) (Or.inl ⟨by rfl, ?_⟩) ?_ ?_
      rotate_left
      · intro w'
        go_simp
        with_reducible rfl
      rotate_left
      · simp only [Act.put, List.setIfInBounds_toArray, List.set_cons_zero, List.set_cons_succ, i64_w, i32_w]
        rfl
      refine pure_ (i := 5) (N := some 38) (v := ?_) (a' := ?_) #[true, true, true, false, false, true, false, false, false, false, false] rfl rfl (any_of HT_.out (by kernel_rfl)) (fun _ _ _ h => h) (Or.inl ⟨by rfl, ?_⟩) ?_ ?_
      rotate_left
      · intro w'
        go_simp
        with_reducible rfl
      rotate_left
      · simp only [Act.put, List.setIfInBounds_toArray, List.set_cons_zero, List.set_cons_succ, i64_w, i32_w]
        rfl
      refine pure_ (i := 6) (N := some 39) (v := ?_) (a' := ?_) #[true, true, true, false, false, true, true, false, false, false, false] rfl rfl (any_of HT_.out (by kernel_rfl)) (fun _ _ _ h => h) (Or.inl ⟨by rfl, ?_⟩) ?_ ?_
      rotate_left
      · intro w'
        go_simp
        with_reducible rfl
      rotate_left
      · simp only [Act.put, List.setIfInBounds_toArray, List.set_cons_zero, List.set_cons_succ, i64_w, i32_w]
        rfl
      refine pure_ (i := 7) (N := some 40) (v := ?_) (a' := ?_) #[true, true, true, false, false, true, true, true, false, false, false] rfl rfl (any_of HT_.out (by kernel_rfl)) (fun _ _ _ h => h) (Or.inl ⟨by rfl, ?_⟩) ?_ ?_
      rotate_left
      · intro w'
        go_simp
        with_reducible rfl
      rotate_left
      · simp only [Act.put, List.setIfInBounds_toArray, List.set_cons_zero, List.set_cons_succ, i64_w, i32_w]
        rfl
      refine take_ (i := 3) (N := some 36) (v := ?_) (a' := ?_) #[true, true, true, true, false, true, true, true, false, false, false] rfl rfl (take_ofW HT_.out HW_.out (by kernel_rfl)) (fun _ _ _ h => h) (Or.inl ⟨by rfl, ?_⟩) hHeld ?_ ?_
      rotate_left
      · rintro w' ⟨s0, s1⟩
        go_simp
        with_reducible rfl
      rotate_left
      · simp only [Act.put, List.setIfInBounds_toArray, List.set_cons_zero, List.set_cons_succ, i64_w, i32_w]
        rfl
      refine take_ (i := 4) (N := some 37) (v := ?_) (a' := ?_) #[true, true, true, true, true, true, true, true, false, false, false] rfl rfl (take_ofW HT_.out HW_.out (by kernel_rfl)) (fun _ _ _ h => h) (Or.inl ⟨by rfl, ?_⟩) hHeld ?_ ?_
      rotate_left
      · rintro w' ⟨s0, s1⟩
        go_simp
        with_reducible rfl
      rotate_left
      · simp only [Act.put, List.setIfInBounds_toArray, List.set_cons_zero, List.set_cons_succ, i64_w, i32_w]
        rfl
      refine one_ (i := 8) (N := some 41) #[true, true, true, true, true, true, true, true, true, false, false] rfl rfl (one_of HT_.out (by kernel_rfl)) (by decide) (fun K hK => ?_)
      refine goes_ Try.func42 (by kernel_rfl) rfl #[.slice A2 l2.length c2, .int .i64 (i : Int), .int .i64 (0)] (by rfl) rfl rfl (by (try simp only [List.map_toArray, List.map_cons, List.map_nil]); first | done | rfl | (simp only [List.length_drop, List.length_take]; rfl)) ?_
      with_reducible refine (kilnlaw3_last.calls kl (fun k_ => k_ < w10.heap.size) _ _ l2 (i : Int) (0) t121 _ ?side1 A8).mono ?_
      (case side1 => exact Kd.V_mk HC2.out (Kd.F_below (Kd.C_F k30_heap HR2.out) (by repeat (first | (with_reducible first | exact HB.out | apply below_alloc | apply pw_below_drewN | apply below_drew1) | exact HB.out))))
      rintro e w22 ⟨v132, rfl, ho0, hb⟩
      obtain ⟨A9, c9, e9⟩ := Kd.V_slice ho0
      subst e9
      have HS0_ := (hb.cell (World.block_lt_of_cell? _ _ (hHeld.1))).trans (hHeld.1)
      refine ⟨_, rfl, ?_⟩
      have n0_ := Aside0.mk (Kd.S_below (by (with_reducible repeat (first | apply Kd.S_alloc | apply Kd.S_drewN | apply Kd.S_drew)); exact HO_10.out) hb)
      have n1_ := Aside0.mk (Kd.R_below (by (with_reducible repeat (first | apply Kd.R_alloc | apply Kd.R_drewN | apply Kd.R_drew)); exact HL130_0.out) hb)
      have n2_ := Aside0.mk (Kd.V_mono (ok' := fun _ => True) ho0 (fun _ _ => trivial))
      have n3_ := Aside0.mk (Kd.C_below (by repeat (first | (with_reducible exact HR130_0.out) | (with_reducible refine Kd.C_alloc ?_ _) | (with_reducible refine Kd.C_drewN ?_ _) | (with_reducible refine Kd.C_drew ?_) | exact HR130_0.out)) hb)
      have n4_ := Aside0.mk (below_step (by repeat (first | (with_reducible first | exact HB.out | apply below_alloc | apply pw_below_drewN | apply below_drew1) | exact HB.out)) hb)
      clear HO_10
      clear HL130_0
      clear HR130_0
      clear HB
      have HO_10 := n0_
      have HL130_0 := n1_
      have HO133 := n2_
      have HR130_0 := n3_
      have HB := n4_
      clear n0_ n1_ n2_ n3_ n4_
      (try clear hb)
      (try clear hb2)
      (try clear hk)
      (try clear hi)
      (try clear ho0)
      refine hK.out _ _ ⟨HS0_, (show _ from by have h_ := Kd.C_string (P := Try.prog) (A := A130_0) (c := c130_0) Try.underlying28 Try.underlying5 Try.underlying9 HR130_0.out; rw [show strOfNums (rd_L2 L (i : Int)) = strOfNums t121 from by rw [show rd_L2 L (i : Int) = t121 from hrd]] at h_; exact h_)⟩ (fun hHeld => ?_)
      clear hK K
      refine norm_ (a' := ?_) ?_ ?_
      rotate_left
      · show Act.put _ (some 41) _ = _
        simp only [Act.put, List.setIfInBounds_toArray, List.set_cons_zero, List.set_cons_succ, i64_w, i32_w]
        rfl
      refine one_ (i := 9) (N := some 42) #[true, true, true, true, true, true, true, true, true, true, false] rfl rfl (one_of HT_.out (by kernel_rfl)) (by decide) (fun K hK => ?_)
      have hcv23 := Kd.C_string (P := Try.prog) (A := A9) (c := c9) Try.underlying28 Try.underlying5 Try.underlying9 (Kd.V_reads' HO133.out).2.2
      refine value_ (w1 := ?_) (v := ?_) (by rfl) rfl ?_ ?_
      rotate_left 2
      · go_simp
        constructor
        · rfl
        · rfl
      clear hcv23
      refine hK.out _ _ hHeld (fun hHeld => ?_)
      clear hK K
      refine norm_ (a' := ?_) ?_ ?_
      rotate_left
      · show Act.put _ (some 42) _ = _
        simp only [Act.put, List.setIfInBounds_toArray, List.set_cons_zero, List.set_cons_succ, i64_w, i32_w]
        rfl
      refine pure_ (i := 10) (N := some 43) (v := ?_) (a' := ?_) #[true, true, true, true, true, true, true, true, true, true, true] rfl rfl (any_of HT_.out (by kernel_rfl)) (fun _ _ _ h => h) (Or.inl ⟨by rfl, ?_⟩) ?_ ?_
      rotate_left
      · intro w'
        go_simp
        with_reducible rfl
      rotate_left
      · simp only [Act.put, List.setIfInBounds_toArray, List.set_cons_zero, List.set_cons_succ, i64_w, i32_w]
        rfl
      refine done_ (done_of HT_.out (by kernel_rfl)) ?_
      try go_wp2
      go_roundg (gk - 1)
      case measure => have := HI.out; have := HIn.out; omega
      case rel => exact ⟨i + 1, (by have hi_ := HIn.out; first | rfl | (simp; done) | (rw [show wrap64 ((i : Int) + 1) = (i : Int) + 1 from by unfold wrap64; omega]; rfl)), ⟨by have := HI.out; have := HIn.out; omega⟩, HO_10, HB⟩
    · have hib : decide (i < L.length) = false := decide_eq_false hi
      go_wp2
      all_goals first | (exfalso; omega) | (go_ret; exact ⟨rfl, below_step HB10.out HB.out⟩)
set_option maxHeartbeats 8000000 in
set_option maxRecDepth 100000 in
theorem lasts_past (g : Nat) (base : Nat) (F : Nat → Prop) (s : DS) (A2 : Option Addr) (c2 : Nat) (l2 : List (S30)) (a3 : Int) (w : World) (hd : DkAt w base g F s) (hs2 : Kd.V k30 30 w w.heap.size (fun k_ => ¬ F k_) (.slice A2 l2.length c2) l2) (h0 : 0 ≤ a3) (h1 : ¬ a3 < (l2.length : Int)) (hl : ∀ i, i < s.n → ∃ kl, kilnlaw3_last.f kl l2 (i : Int) (0) = some (s.L.getD i [])) :
    Calls Try.prog 19 #[.pointer (some ⟨g, 0, none⟩), .int .i64 (s.n : Int), .slice A2 l2.length c2, .int .i64 a3] w fun e w' => e = .returned (.bool true) ∧ Below w.heap.size w w' := by
  have hn2 := hd.n_le.1
  have hnm := hd.n_le.2
  have hIM := image_at g w base F s hd
  have HS := Aside0.mk hs2
  have HC2 := Aside0.mk (Kd.V_reads' hs2).2.1
  have hLn := hd.lasts.1
  clear hd hs2
  obtain ⟨L, hL⟩ : ∃ L, L = s.L := ⟨_, rfl⟩
  have hn' : s.n = L.length := by rw [hL]; exact hLn.symm
  rw [hn'] at hn2 hnm hIM hl ⊢
  rw [← hL] at hIM hl
  have HIM := Aside0.mk hIM
  have HL := Aside0.mk hl
  clear hIM hl hn' hL hLn
  go_enter Try.func19, Try.ntmps19
  have h0b : decide (0 ≤ a3) = true := decide_eq_true h0
  have h1b : decide (a3 < (l2.length : Int)) = false := decide_eq_false h1
  clear h0 h1
  go_wp2_with (go_at_call 26; (with_reducible refine HIM.out.mono ?_); rintro e w10 ⟨go10, c10, rfl, ho0, hb⟩; generalize (⟨go10, 0, none⟩ : Addr) = ad10 at ho0 ⊢; have HO10 := Aside0.mk ho0; have HB10 := Aside0.mk hb; clear ho0 hb)
  have HR2 := Aside0.mk (Kd.V_reads' (Kd.V_below HS.out HB10.out)).2.2
  go_loopg [11] L.length (fun kq v11 w' => ∃ (i : Nat), v11 = .int .i64 i ∧ Aside0 (i + kq = L.length) ∧ Aside0 (Kd.S (Kd.slice 5 (Kd.int .u8)) 28 w' w.heap.size (fun _ => True) (.slice (some ad10) L.length c10) L) ∧ Aside0 (Below w10.heap.size w10 w'))
  case atStart => exact ⟨0, rfl, ⟨Nat.zero_add _⟩, HO10, ⟨Below.refl _ _⟩⟩
  case round =>
    clear HO10
    obtain ⟨i, rfl, HI, HO_10, HB⟩ := hrel
    by_cases hi : i < L.length
    · have hib : decide (i < L.length) = true := decide_eq_true hi
      have hz1 : decide (0 ≤ (i : Int)) = true := decide_eq_true (by omega)
      have hz2 : decide ((i : Int) < (L.length : Int)) = true := decide_eq_true (by omega)
      obtain ⟨kl, A8⟩ := HL.out i hi
      obtain ⟨t121, hrd⟩ : ∃ t, L.getD i [] = t := ⟨_, rfl⟩
      rw [hrd] at A8
      have HIn := Aside0.mk hi
      clear hi
      have c9b0 : ((strOfNums t121).toList == (strOfNums t121).toList) = true := beq_iff_eq.mpr rfl
      have c9b1 : ((strOfNums t121).toList != (strOfNums t121).toList) = false := bne_eq_false_iff_eq.mpr rfl
      try go_wp2
      have n0_ := Aside0.mk (Kd.S_drew HO_10.out)
      have n1_ := Aside0.mk (below_drew1 HB.out)
      clear HO_10
      clear HB
      have HO_10 := n0_
      have HB := n1_
      clear n0_ n1_
      have p130 : 0 ≤ ((i : Int) : Int) := of_decide_eq_true (by first | (with_reducible assumption) | assumption)
      have q130 : (i : Int) < (L.length : Int) := of_decide_eq_true (by first | (with_reducible assumption) | assumption)
      obtain ⟨ad130, A130_0, c130_0, e130, hx130_0, hl130_0, hi130_0⟩ := at_L2 (Kd.S_reads' HO_10.out).2.2 (i : Int) p130 q130
      obtain rfl : ad10 = ad130 := by injection e130
      obtain ⟨ce130, hce130, hMe130, hcc130⟩ := Kd.S_get HO_10.out [] (i : Int) p130 (by first | exact q130 | exact of_decide_eq_true (by first | (with_reducible assumption) | assumption) | (have e_ := (Kd.S_reads' HO_10.out).1; omega))
      obtain ⟨ve130_0, rfl, ge130_0⟩ := hMe130
      have hv130_0 := hcc130 0 _ rfl
      rw [Nat.add_zero, show ((Kd.slice 5 (Kd.int .u8))).sz = 1 from rfl, Nat.mul_one] at hv130_0
      replace hv130_0 := Option.some.inj (hv130_0.symm.trans hx130_0)
      rw [hv130_0] at ge130_0
      have HL130_0 := Aside0.mk (show Kd.R (Kd.int .u8) 5 _ _ _ _ (rd_L2 L (i : Int)) from ge130_0)
      clear hv130_0 ge130_0
      clear hcc130 hce130
      have HR130_0 := Aside0.mk hi130_0
      have HC130_0 := Aside0.mk hl130_0
      clear hi130_0 hl130_0
      replace p130 := eq_true p130
      replace q130 := eq_true q130
      rw [Int.toNat_natCast] at hx130_0
      have hcv21 := Kd.C_string (P := Try.prog) (A := A130_0) (c := c130_0) Try.underlying28 Try.underlying5 Try.underlying9 HR130_0.out
      rw [show strOfNums (rd_L2 L (i : Int)) = strOfNums t121 from by rw [show rd_L2 L (i : Int) = t121 from hrd]] at hcv21
      refine start_ (n := 11) (S := fun w' => w'.cell? (ad10.add i) = some (.slice A130_0 (rd_L2 L (i : Int)).length c130_0) ∧ (convert 28 9 (.slice A130_0 (rd_L2 L (i : Int)).length c130_0)).run Try.prog w' = .ok (.string (strOfNums t121)) w') (ds := []) #[false, false, false, false, false, false, false, false, false, false, false] (by kernel_rfl) rfl rfl ⟨hx130_0, hcv21⟩ (fun hHeld => ?_); refine with_tabW lasts_tab10 lasts_bits10 (fun HT_ HW_ => ?_)
      clear hcv21
      generalize wr.drew = w20 at HO_10 HB HL130_0 HR130_0 hx130_0 hHeld ⊢
      refine pure_ (i := 0) (N := some 33) (v := ?_) (a' := ?_) #[true, false, false, false, false, false, false, false, false, false, false] rfl rfl (any_of HT_.out (by kernel_rfl)) (fun _ _ _ h => h) (Or.inl ⟨by rfl, ?_⟩) ?_ ?_
      rotate_left
      · intro w'
        go_simp
        with_reducible rfl
      rotate_left
      · simp only [Act.put, List.setIfInBounds_toArray, List.set_cons_zero, List.set_cons_succ, i64_w, i32_w]
        rfl
      refine pure_ (i := 1) (N := some 34) (v := ?_) (a' := ?_) #[true, true, false, false, false, false, false, false, false, false, false] rfl rfl (any_of HT_.out (by kernel_rfl)) (fun _ _ _ h => h) (Or.inl ⟨by rfl, ?_⟩) ?_ ?_
      rotate_left
      · intro w'
        go_simp
        with_reducible rfl
      rotate_left
      · simp only [Act.put, List.setIfInBounds_toArray, List.set_cons_zero, List.set_cons_succ, i64_w, i32_w]
        rfl
      refine pure_ (i := 2) (N := some 35) (v := ?_) (a' := ?_) #[true, true, true, false, false, false, false, false, false, false, false] rfl rfl (any_of HT_.out (by kernel_rfl)) (fun _ _ _ h => h) (Or.inl ⟨by rfl, ?_⟩) ?_ ?_
      rotate_left
      · intro w'
        go_simp
        with_reducible rfl
      rotate_left
      · simp only [Act.put, List.setIfInBounds_toArray, List.set_cons_zero, List.set_cons_succ, i64_w, i32_w]
        rfl
      refine pure_ (i := 5) (N := some 38) (v := ?_) (a' := ?_) #[true, true, true, false, false, true, false, false, false, false, false] rfl rfl (any_of HT_.out (by kernel_rfl)) (fun _ _ _ h => h) (Or.inl ⟨by rfl, ?_⟩) ?_ ?_
      rotate_left
      · intro w'
        go_simp
        with_reducible rfl
      rotate_left
      · simp only [Act.put, List.setIfInBounds_toArray, List.set_cons_zero, List.set_cons_succ, i64_w, i32_w]
        rfl
      refine pure_ (i := 6) (N := some 39) (v := ?_) (a' := ?_) #[true, true, true, false, false, true, true, false, false, false, false] rfl rfl (any_of HT_.out (by kernel_rfl)) (fun _ _ _ h => h) (Or.inl ⟨by rfl, ?_⟩) ?_ ?_
      rotate_left
      · intro w'
        go_simp
        with_reducible rfl
      rotate_left
      · simp only [Act.put, List.setIfInBounds_toArray, List.set_cons_zero, List.set_cons_succ, i64_w, i32_w]
        rfl
      refine pure_ (i := 7) (N := some 40) (v := ?_) (a' := ?_) #[true, true, true, false, false, true, true, true, false, false, false] rfl rfl (any_of HT_.out (by kernel_rfl)) (fun _ _ _ h => h) (Or.inl ⟨by rfl, ?_⟩) ?_ ?_
      rotate_left
      · intro w'
        go_simp
        with_reducible rfl
      rotate_left
      · simp only [Act.put, List.setIfInBounds_toArray, List.set_cons_zero, List.set_cons_succ, i64_w, i32_w]
        rfl
      refine take_ (i := 3) (N := some 36) (v := ?_) (a' := ?_) #[true, true, true, true, false, true, true, true, false, false, false] rfl rfl (take_ofW HT_.out HW_.out (by kernel_rfl)) (fun _ _ _ h => h) (Or.inl ⟨by rfl, ?_⟩) hHeld ?_ ?_
      rotate_left
      · rintro w' ⟨s0, s1⟩
        go_simp
        with_reducible rfl
      rotate_left
      · simp only [Act.put, List.setIfInBounds_toArray, List.set_cons_zero, List.set_cons_succ, i64_w, i32_w]
        rfl
      refine take_ (i := 4) (N := some 37) (v := ?_) (a' := ?_) #[true, true, true, true, true, true, true, true, false, false, false] rfl rfl (take_ofW HT_.out HW_.out (by kernel_rfl)) (fun _ _ _ h => h) (Or.inl ⟨by rfl, ?_⟩) hHeld ?_ ?_
      rotate_left
      · rintro w' ⟨s0, s1⟩
        go_simp
        with_reducible rfl
      rotate_left
      · simp only [Act.put, List.setIfInBounds_toArray, List.set_cons_zero, List.set_cons_succ, i64_w, i32_w]
        rfl
      refine one_ (i := 8) (N := some 41) #[true, true, true, true, true, true, true, true, true, false, false] rfl rfl (one_of HT_.out (by kernel_rfl)) (by decide) (fun K hK => ?_)
      refine goes_ Try.func42 (by kernel_rfl) rfl #[.slice A2 l2.length c2, .int .i64 (i : Int), .int .i64 (0)] (by rfl) rfl rfl (by (try simp only [List.map_toArray, List.map_cons, List.map_nil]); first | done | rfl | (simp only [List.length_drop, List.length_take]; rfl)) ?_
      with_reducible refine (kilnlaw3_last.calls kl (fun k_ => k_ < w10.heap.size) _ _ l2 (i : Int) (0) t121 _ ?side1 A8).mono ?_
      (case side1 => exact Kd.V_mk HC2.out (Kd.F_below (Kd.C_F k30_heap HR2.out) (by repeat (first | (with_reducible first | exact HB.out | apply below_alloc | apply pw_below_drewN | apply below_drew1) | exact HB.out))))
      rintro e w22 ⟨v132, rfl, ho0, hb⟩
      obtain ⟨A9, c9, e9⟩ := Kd.V_slice ho0
      subst e9
      have HS0_ := (hb.cell (World.block_lt_of_cell? _ _ (hHeld.1))).trans (hHeld.1)
      refine ⟨_, rfl, ?_⟩
      have n0_ := Aside0.mk (Kd.S_below (by (with_reducible repeat (first | apply Kd.S_alloc | apply Kd.S_drewN | apply Kd.S_drew)); exact HO_10.out) hb)
      have n1_ := Aside0.mk (Kd.R_below (by (with_reducible repeat (first | apply Kd.R_alloc | apply Kd.R_drewN | apply Kd.R_drew)); exact HL130_0.out) hb)
      have n2_ := Aside0.mk (Kd.V_mono (ok' := fun _ => True) ho0 (fun _ _ => trivial))
      have n3_ := Aside0.mk (Kd.C_below (by repeat (first | (with_reducible exact HR130_0.out) | (with_reducible refine Kd.C_alloc ?_ _) | (with_reducible refine Kd.C_drewN ?_ _) | (with_reducible refine Kd.C_drew ?_) | exact HR130_0.out)) hb)
      have n4_ := Aside0.mk (below_step (by repeat (first | (with_reducible first | exact HB.out | apply below_alloc | apply pw_below_drewN | apply below_drew1) | exact HB.out)) hb)
      clear HO_10
      clear HL130_0
      clear HR130_0
      clear HB
      have HO_10 := n0_
      have HL130_0 := n1_
      have HO133 := n2_
      have HR130_0 := n3_
      have HB := n4_
      clear n0_ n1_ n2_ n3_ n4_
      (try clear hb)
      (try clear hb2)
      (try clear hk)
      (try clear hi)
      (try clear ho0)
      refine hK.out _ _ ⟨HS0_, (show _ from by have h_ := Kd.C_string (P := Try.prog) (A := A130_0) (c := c130_0) Try.underlying28 Try.underlying5 Try.underlying9 HR130_0.out; rw [show strOfNums (rd_L2 L (i : Int)) = strOfNums t121 from by rw [show rd_L2 L (i : Int) = t121 from hrd]] at h_; exact h_)⟩ (fun hHeld => ?_)
      clear hK K
      refine norm_ (a' := ?_) ?_ ?_
      rotate_left
      · show Act.put _ (some 41) _ = _
        simp only [Act.put, List.setIfInBounds_toArray, List.set_cons_zero, List.set_cons_succ, i64_w, i32_w]
        rfl
      refine one_ (i := 9) (N := some 42) #[true, true, true, true, true, true, true, true, true, true, false] rfl rfl (one_of HT_.out (by kernel_rfl)) (by decide) (fun K hK => ?_)
      have hcv23 := Kd.C_string (P := Try.prog) (A := A9) (c := c9) Try.underlying28 Try.underlying5 Try.underlying9 (Kd.V_reads' HO133.out).2.2
      refine value_ (w1 := ?_) (v := ?_) (by rfl) rfl ?_ ?_
      rotate_left 2
      · go_simp
        constructor
        · rfl
        · rfl
      clear hcv23
      refine hK.out _ _ hHeld (fun hHeld => ?_)
      clear hK K
      refine norm_ (a' := ?_) ?_ ?_
      rotate_left
      · show Act.put _ (some 42) _ = _
        simp only [Act.put, List.setIfInBounds_toArray, List.set_cons_zero, List.set_cons_succ, i64_w, i32_w]
        rfl
      refine pure_ (i := 10) (N := some 43) (v := ?_) (a' := ?_) #[true, true, true, true, true, true, true, true, true, true, true] rfl rfl (any_of HT_.out (by kernel_rfl)) (fun _ _ _ h => h) (Or.inl ⟨by rfl, ?_⟩) ?_ ?_
      rotate_left
      · intro w'
        go_simp
        with_reducible rfl
      rotate_left
      · simp only [Act.put, List.setIfInBounds_toArray, List.set_cons_zero, List.set_cons_succ, i64_w, i32_w]
        rfl
      refine done_ (done_of HT_.out (by kernel_rfl)) ?_
      try go_wp2
      go_roundg (gk - 1)
      case measure => have := HI.out; have := HIn.out; omega
      case rel => exact ⟨i + 1, (by have hi_ := HIn.out; first | rfl | (simp; done) | (rw [show wrap64 ((i : Int) + 1) = (i : Int) + 1 from by unfold wrap64; omega]; rfl)), ⟨by have := HI.out; have := HIn.out; omega⟩, HO_10, HB⟩
    · have hib : decide (i < L.length) = false := decide_eq_false hi
      go_wp2
      all_goals first | (exfalso; omega) | (go_ret; exact ⟨rfl, below_step HB10.out HB.out⟩)
end Go.Proofs.Ytddnhcnkjcdfgaa.M
