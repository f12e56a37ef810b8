-- wrappers at DkAt, and the law's helpers (after the printed walks)
import Derived.Test.YtddnhcnkjcdfgaaDi
import Derived.Test.YtddnhcnkjcdfgaaPx1
namespace Go.Proofs.Ytddnhcnkjcdfgaa.M
open Go.RowKit Go.Maps Go.Proofs.YtddnhcnkjcdfgaaW.PrintWords Go.Proofs.YtddnhcnkjcdfgaaW.PrintLast Go.Proofs.YtddnhcnkjcdfgaaW.PrintMore
open Go.Proofs.Ytddnhcnkjcdfgaa.P
attribute [local go_sem] max2_int min2_int max_two min_two max_three min_three max_four min_four
set_option linter.unusedVariables false
set_option linter.unusedSimpArgs false
/-- Reads are counted. -/
def DS.withR (s : DS) (r : Int) : DS := ⟨s.n, s.L, s.W, s.c, r, s.wr, s.fl⟩
theorem DS.cur_withR (s : DS) (r : Int) : (s.withR r).cur = s.cur := rfl
theorem DkAt.base_le {w : World} {base g : Nat} {F : Nat → Prop} {s : DS} (h : DkAt w base g F s) (x : Nat) (hx : F x) : base ≤ x := (h.foot x hx).1
theorem read_at (g i : Nat) (w : World) (base : Nat) (F : Nat → Prop) (s : DS) (h : DkAt w base g F s) (hi : i < s.n) :
    Calls Try.prog 25 #[.pointer (some ⟨g, 0, none⟩), .int .i64 (i : Int)] w fun e w' => ∃ v, e = .returned (.tuple #[v, .int .i64 0]) ∧ Kd.R (Kd.int .u8) 5 w' w.heap.size (fun _ => True) v (s.cur i) ∧ DkAt w' base g F s.reads ∧ Chg F w w' := by
  obtain ⟨lb, cp, mb, f, k, D, h1, h2⟩ := h
  refine (read_in g i w base lb cp mb k f D s h1 hi).mono ?_
  rintro e w' ⟨v, he, hr, hd, hc⟩
  exact ⟨v, he, hr, ⟨lb, cp, mb, f, k, D, hd, h2⟩, hc.mono (fun x hx => (h2 x).2 (.inl hx))⟩
theorem write_at (g i : Nat) (A : Option Addr) (c : Nat) (b : List Int) (w : World) (base : Nat) (F : Nat → Prop) (s : DS) (h : DkAt w base g F s) (hi : i < s.n) (hC : (Kd.int .u8).C w A 512 b) (hne : ∀ ad, A = some ad → ¬ F ad.block) (hc : s.c < 1073741824) :
    Calls Try.prog 16 #[.pointer (some ⟨g, 0, none⟩), .int .i64 (i : Int), .slice A 512 c] w fun e w' => e = .returned (.int .i64 0) ∧ ∃ F', DkAt w' base g F' (s.put i b) ∧ (∀ b, F' b → F b ∨ w.heap.size ≤ b) ∧ Chg F w w' := by
  obtain ⟨lb, cp, mb, f, k, D, h1, h2⟩ := h
  refine (write_in g i A c b w base lb cp mb k f D s h1 hi hC (fun ad e hf => hne ad e ((h2 _).2 hf)) hc).mono ?_
  rintro e w' ⟨he, F', hd, hF, hch⟩
  exact ⟨he, F', hd, fun b hb => (hF b hb).imp (fun h => (h2 b).2 h) id, hch.mono (fun x hx => (h2 x).2 hx)⟩
theorem flush_at (g : Nat) (w : World) (base : Nat) (F : Nat → Prop) (s : DS) (h : DkAt w base g F s) :
    Calls Try.prog 17 #[.pointer (some ⟨g, 0, none⟩)] w fun e w' => (∃ v, e = .returned v) ∧ ∃ F', DkAt w' base g F' s.flush ∧ (∀ b, F' b → F b) ∧ Chg F w w' := by
  obtain ⟨lb, cp, mb, f, k, D, h1, h2⟩ := h
  refine (flush_in g w base lb cp mb k f D s h1).mono ?_
  rintro e w' ⟨he, hd, hch⟩
  refine ⟨he, _, ⟨lb, cp, mb, _, 0, _, hd, fun b => Iff.rfl⟩, ?_, hch.mono (fun x hx => (h2 x).2 (by rcases hx with h | h | h; exact .inl h; exact .inr (.inl h); exact .inr (.inr (.inl h))))⟩
  rintro b (h | h | h | ⟨i, hi, h⟩)
  · exact (h2 b).2 (.inl h)
  · exact (h2 b).2 (.inr (.inl h))
  · exact (h2 b).2 (.inr (.inr (.inl h)))
  · cases h
theorem image_at (g : Nat) (w : World) (base : Nat) (F : Nat → Prop) (s : DS) (h : DkAt w base g F s) :
    Calls Try.prog 26 #[.pointer (some ⟨g, 0, none⟩)] w fun e w' => ∃ go c, e = .returned (.slice (some ⟨go, 0, none⟩) s.n c) ∧ Kd.S KB 28 w' w.heap.size (fun _ => True) (.slice (some ⟨go, 0, none⟩) s.n c) s.L ∧ Below w.heap.size w w' := by
  obtain ⟨lb, cp, mb, f, k, D, h1, h2⟩ := h
  exact image_in g w base lb cp mb k f D s h1
/-! ### tells -/
def tells_T5 : Bool × List (List Nat × List Nat) := (true, [([], []), ([0], [0]), ([1], [1]), ([2], [2]), ([3, 2], [2, 3]), ([2], [2]), ([2], [2]), ([2], [2]), ([5, 6, 7, 2, 2], [2, 5, 6, 7]), ([8, 2], [2, 8]), ([4, 9, 2], [2, 4, 9]), ([2, 10], [2, 10])])
def tells_B5 : List Nat := [0, 1, 3, 7, 15, 7, 7, 7, 231, 487, 1023, 2047]
theorem tells_tab5 : rtab .any (opsOf Try.f18 5) = tells_T5 := by kernel_rfl
theorem tells_bits5 : waitsOk tells_T5.2 tells_B5 = true := by kernel_rfl
set_option maxHeartbeats 8000000 in
set_option maxRecDepth 100000 in
theorem tells_calls (g : Nat) (base : Nat) (F : Nat → Prop) (s : DS) (A2 : Option Addr) (c2 : Nat) (l2 : List (S30)) (a3 : Int) (w : World) (hd : DkAt w base g F s) (hs2 : Kd.V k30 30 w w.heap.size (fun k_ => ¬ F k_) (.slice A2 l2.length c2) l2) (hl : ∀ i, i < s.n → ∃ kl, kilnlaw3_last.f kl l2 (i : Int) a3 = some (s.cur i)) :
    Calls Try.prog 18 #[.pointer (some ⟨g, 0, none⟩), .int .i64 (s.n : Int), .slice A2 l2.length c2, .int .i64 a3] w fun e w' => e = .returned (.bool true) ∧ ∃ r', DkAt w' base g F (s.withR r') ∧ Chg F w w' := by
  have hn2 := hd.n_le.1
  have hnm := hd.n_le.2
  have HD0 := Aside0.mk hd
  have HS := Aside0.mk hs2
  have HL := Aside0.mk hl
  have HC2 := Aside0.mk (Kd.V_reads' hs2).2.1
  clear hd hs2 hl
  obtain ⟨n, hn⟩ : ∃ n, n = s.n := ⟨_, rfl⟩
  rw [← hn] at hn2 hnm ⊢
  have HN := Aside0.mk hn
  clear hn
  go_enter Try.func18, Try.ntmps18
  go_wp2
  go_loopg [9] n (fun kq v9 w' => ∃ (i : Nat), v9 = .int .i64 i ∧ Aside0 (i + kq = n) ∧ ∃ r', Aside0 (DkAt w' base g F (s.withR r')) ∧ Aside0 (Chg F w w'))
  case atStart => exact ⟨0, rfl, ⟨Nat.zero_add _⟩, s.r, HD0, ⟨Chg.refl _ _⟩⟩
  case round =>
    try clear c2
    obtain ⟨i, rfl, HI, r', HD, HX⟩ := hrel
    by_cases hi : i < n
    · have hib : decide (i < n) = true := decide_eq_true hi
      obtain ⟨kl, A8⟩ := HL.out i (HN.out ▸ hi)
      have HRD := Aside0.mk (read_at g i _ base F _ HD.out (show i < s.n from HN.out ▸ hi))
      have HIn := Aside0.mk hi
      clear hi
      go_wp2_with (go_at_call 25; (with_reducible refine HRD.out.mono ?_); rintro e w10 ⟨v122, rfl, hr, hd, hc⟩; have HO123 := Aside0.mk hr; have HDn := Aside0.mk hd; have HXn := Aside0.mk (HX.out.trans hc (fun _ h => .inl h)); clear hr hd hc HD HX)
      have HB := Aside0.mk (Below.refl w10.heap.size w10)
      have hrx : (s.withR r').cur i = s.cur i := rfl
      rw [hrx] at HO123
      clear hrx
      generalize s.cur i = t121 at HO123 A8
      have c9b0 : ((strOfNums t121).toList == (strOfNums t121).toList) = true := beq_iff_eq.mpr rfl
      have c9b1 : ((strOfNums t121).toList != (strOfNums t121).toList) = false := bne_eq_false_iff_eq.mpr rfl
      have HR2 := Aside0.mk (Kd.V_reads' (Kd.V_step HS.out (fun k hk hlt => HXn.out.block k hlt hk))).2.2
      have n0_ := Aside0.mk (Kd.R_drew HO123.out)
      have n1_ := Aside0.mk (below_drew1 HB.out)
      clear HO123
      clear HB
      have HO123 := n0_
      have HB := n1_
      clear n0_ n1_
      refine start_ (n := 12) (S := fun w' => (convert 28 9 v122).run Try.prog w' = .ok (.string (strOfNums t121)) w') (ds := []) #[false, false, false, false, false, false, false, false, false, false, false, false] (by kernel_rfl) rfl rfl (own_string (P := Try.prog) Try.underlying28 Try.underlying5 Try.underlying9 (Kd.own_of_R HO123.out)) (fun hHeld => ?_); refine with_tabW tells_tab5 tells_bits5 (fun HT_ HW_ => ?_)
      generalize w10.drew = w11 at HO123 HB hHeld ⊢
      refine pure_ (i := 0) (N := some 23) (v := ?_) (a' := ?_) #[true, false, false, false, false, false, false, false, false, false, false, false] rfl rfl (any_of HT_.out (by kernel_rfl)) (fun _ _ _ h => h) (Or.inl ⟨by rfl, ?_⟩) ?_ ?_
      rotate_left
      · intro w'
        go_simp
        with_reducible rfl
      rotate_left
      · simp only [Act.put, List.setIfInBounds_toArray, List.set_cons_zero, List.set_cons_succ, i64_w, i32_w]
        rfl
      refine pure_ (i := 1) (N := some 24) (v := ?_) (a' := ?_) #[true, true, false, false, false, false, false, false, false, false, false, false] rfl rfl (any_of HT_.out (by kernel_rfl)) (fun _ _ _ h => h) (Or.inl ⟨by rfl, ?_⟩) ?_ ?_
      rotate_left
      · intro w'
        go_simp
        with_reducible rfl
      rotate_left
      · simp only [Act.put, List.setIfInBounds_toArray, List.set_cons_zero, List.set_cons_succ, i64_w, i32_w]
        rfl
      refine pure_ (i := 2) (N := some 25) (v := ?_) (a' := ?_) #[true, true, true, false, false, false, false, false, false, false, false, false] rfl rfl (any_of HT_.out (by kernel_rfl)) (fun _ _ _ h => h) (Or.inl ⟨by rfl, ?_⟩) ?_ ?_
      rotate_left
      · intro w'
        go_simp
        with_reducible rfl
      rotate_left
      · simp only [Act.put, List.setIfInBounds_toArray, List.set_cons_zero, List.set_cons_succ, i64_w, i32_w]
        rfl
      refine pure_ (i := 3) (N := some 26) (v := ?_) (a' := ?_) #[true, true, true, true, false, false, false, false, false, false, false, false] rfl rfl (any_of HT_.out (by kernel_rfl)) (fun _ _ _ h => h) (Or.inl ⟨by rfl, ?_⟩) ?_ ?_
      rotate_left
      · intro w'
        go_simp
        with_reducible rfl
      rotate_left
      · simp only [Act.put, List.setIfInBounds_toArray, List.set_cons_zero, List.set_cons_succ, i64_w, i32_w]
        rfl
      refine take_ (i := 4) (N := some 27) (v := ?_) (a' := ?_) #[true, true, true, true, true, false, false, false, false, false, false, false] rfl rfl (take_ofW HT_.out HW_.out (by kernel_rfl)) (fun _ _ _ h => h) (Or.inl ⟨by rfl, ?_⟩) hHeld ?_ ?_
      rotate_left
      · intro w' s0
        go_simp
        with_reducible rfl
      rotate_left
      · simp only [Act.put, List.setIfInBounds_toArray, List.set_cons_zero, List.set_cons_succ, i64_w, i32_w]
        rfl
      refine pure_ (i := 5) (N := some 28) (v := ?_) (a' := ?_) #[true, true, true, true, true, true, false, false, false, false, false, false] rfl rfl (any_of HT_.out (by kernel_rfl)) (fun _ _ _ h => h) (Or.inl ⟨by rfl, ?_⟩) ?_ ?_
      rotate_left
      · intro w'
        go_simp
        with_reducible rfl
      rotate_left
      · simp only [Act.put, List.setIfInBounds_toArray, List.set_cons_zero, List.set_cons_succ, i64_w, i32_w]
        rfl
      refine pure_ (i := 6) (N := some 29) (v := ?_) (a' := ?_) #[true, true, true, true, true, true, true, false, false, false, false, false] rfl rfl (any_of HT_.out (by kernel_rfl)) (fun _ _ _ h => h) (Or.inl ⟨by rfl, ?_⟩) ?_ ?_
      rotate_left
      · intro w'
        go_simp
        with_reducible rfl
      rotate_left
      · simp only [Act.put, List.setIfInBounds_toArray, List.set_cons_zero, List.set_cons_succ, i64_w, i32_w]
        rfl
      refine pure_ (i := 7) (N := some 30) (v := ?_) (a' := ?_) #[true, true, true, true, true, true, true, true, false, false, false, false] rfl rfl (any_of HT_.out (by kernel_rfl)) (fun _ _ _ h => h) (Or.inl ⟨by rfl, ?_⟩) ?_ ?_
      rotate_left
      · intro w'
        go_simp
        with_reducible rfl
      rotate_left
      · simp only [Act.put, List.setIfInBounds_toArray, List.set_cons_zero, List.set_cons_succ, i64_w, i32_w]
        rfl
      refine one_ (i := 8) (N := some 31) #[true, true, true, true, true, true, true, true, true, false, false, false] rfl rfl (one_of HT_.out (by kernel_rfl)) (by decide) (fun K hK => ?_)
      refine goes_ Try.func42 (by kernel_rfl) rfl #[.slice A2 l2.length c2, .int .i64 (i : Int), .int .i64 a3] (by rfl) rfl rfl (by (try simp only [List.map_toArray, List.map_cons, List.map_nil]); first | done | rfl | (simp only [List.length_drop, List.length_take]; rfl)) ?_
      with_reducible refine (kilnlaw3_last.calls kl (fun k_ => k_ < w10.heap.size) _ _ l2 (i : Int) a3 t121 _ ?side1 A8).mono ?_
      (case side1 => exact Kd.V_mk HC2.out (Kd.F_below (Kd.C_F k30_heap HR2.out) (by repeat (first | (with_reducible first | exact HB.out | apply below_alloc | apply pw_below_drewN | apply below_drew1) | exact HB.out))))
      rintro e w13 ⟨v125, rfl, ho0, hb⟩
      obtain ⟨A9, c9, e9⟩ := Kd.V_slice ho0
      subst e9
      refine ⟨_, rfl, ?_⟩
      have n0_ := Aside0.mk (Kd.R_below (by (with_reducible repeat (first | apply Kd.R_alloc | apply Kd.R_drewN | apply Kd.R_drew)); exact HO123.out) hb)
      have n1_ := Aside0.mk (Kd.V_mono (ok' := fun _ => True) ho0 (fun _ _ => trivial))
      have n2_ := Aside0.mk (below_step (by repeat (first | (with_reducible first | exact HB.out | apply below_alloc | apply pw_below_drewN | apply below_drew1) | exact HB.out)) hb)
      clear HO123
      clear HB
      have HO123 := n0_
      have HO126 := n1_
      have HB := n2_
      clear n0_ n1_ n2_
      (try clear hb)
      (try clear hb2)
      (try clear hk)
      (try clear hi)
      (try clear ho0)
      refine hK.out _ _ (own_string (P := Try.prog) Try.underlying28 Try.underlying5 Try.underlying9 (Kd.own_of_R HO123.out)) (fun hHeld => ?_)
      clear hK K
      refine norm_ (a' := ?_) ?_ ?_
      rotate_left
      · show Act.put _ (some 31) _ = _
        simp only [Act.put, List.setIfInBounds_toArray, List.set_cons_zero, List.set_cons_succ, i64_w, i32_w]
        rfl
      refine one_ (i := 9) (N := some 32) #[true, true, true, true, true, true, true, true, true, true, false, false] rfl rfl (one_of HT_.out (by kernel_rfl)) (by decide) (fun K hK => ?_)
      have hcv14 := Kd.C_string (P := Try.prog) (A := A9) (c := c9) Try.underlying28 Try.underlying5 Try.underlying9 (Kd.V_reads' HO126.out).2.2
      refine value_ (w1 := ?_) (v := ?_) (by rfl) rfl ?_ ?_
      rotate_left 2
      · go_simp
        constructor
        · rfl
        · rfl
      clear hcv14
      refine hK.out _ _ (own_string (P := Try.prog) Try.underlying28 Try.underlying5 Try.underlying9 (Kd.own_of_R HO123.out)) (fun hHeld => ?_)
      clear hK K
      refine norm_ (a' := ?_) ?_ ?_
      rotate_left
      · show Act.put _ (some 32) _ = _
        simp only [Act.put, List.setIfInBounds_toArray, List.set_cons_zero, List.set_cons_succ, i64_w, i32_w]
        rfl
      refine pure_ (i := 10) (N := some 33) (v := ?_) (a' := ?_) #[true, true, true, true, true, true, true, true, true, true, true, false] rfl rfl (any_of HT_.out (by kernel_rfl)) (fun _ _ _ h => h) (Or.inl ⟨by rfl, ?_⟩) ?_ ?_
      rotate_left
      · intro w'
        go_simp
        with_reducible rfl
      rotate_left
      · simp only [Act.put, List.setIfInBounds_toArray, List.set_cons_zero, List.set_cons_succ, i64_w, i32_w]
        rfl
      refine pure_ (i := 11) (N := some 34) (v := ?_) (a' := ?_) #[true, true, true, true, true, true, true, true, true, true, true, true] rfl rfl (any_of HT_.out (by kernel_rfl)) (fun _ _ _ h => h) (Or.inl ⟨by rfl, ?_⟩) ?_ ?_
      rotate_left
      · intro w'
        go_simp
        with_reducible rfl
      rotate_left
      · simp only [Act.put, List.setIfInBounds_toArray, List.set_cons_zero, List.set_cons_succ, i64_w, i32_w]
        rfl
      refine done_ (done_of HT_.out (by kernel_rfl)) ?_
      try go_wp2
      go_roundg (gk - 1)
      case measure => have := HI.out; have := HIn.out; omega
      case rel => exact ⟨i + 1, (by have hi_ := HIn.out; first | rfl | (simp; done) | (rw [show IntKind.i64.wrap ((i : Int) + 1) = (i : Int) + 1 from IntWalk.i64_in _ (by omega)]; rfl) | (rw [show wrap64 ((i : Int) + 1) = (i : Int) + 1 from by unfold wrap64; omega]; rfl)), ⟨by have := HI.out; have := HIn.out; omega⟩, _, ⟨HDn.out.chg (G := fun _ => False) (Chg.of_below HB.out) (fun _ _ => id)⟩, ⟨HXn.out.trans (Chg.of_below (F := fun _ => False) HB.out) (fun _ h => h.elim)⟩⟩
    · have hib : decide (i < n) = false := decide_eq_false hi
      go_wp2
      all_goals first | (exfalso; omega) | (go_ret; exact ⟨rfl, r', HD.out, HX.out⟩)
end Go.Proofs.Ytddnhcnkjcdfgaa.M
