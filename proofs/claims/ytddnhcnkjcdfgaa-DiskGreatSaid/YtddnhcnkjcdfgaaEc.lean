-- DiskGreat: the walk
import Derived.Test.YtddnhcnkjcdfgaaEb
namespace Go.Proofs.Ytddnhcnkjcdfgaa.M
open Go.RowKit Go.Maps Go.Proofs.YtddnhcnkjcdfgaaW.PrintWords Go.Proofs.YtddnhcnkjcdfgaaW.PrintLast Go.Proofs.YtddnhcnkjcdfgaaW.PrintMore
open Go.Proofs.Ytddnhcnkjcdfgaa.P
set_option linter.unusedVariables false
set_option linter.unusedSimpArgs false
def great24_T : Bool × List (List Nat × List Nat) := (true, [([], []), ([0], [0]), ([1], [1]), ([2], [2]), ([2], [2]), ([3, 4, 2], [2, 3, 4]), ([5, 2], [2, 5]), ([6, 2], [2, 6]), ([7, 2, 2], [2, 7]), ([8], [8]), ([9, 8], [8, 9]), ([8], [8]), ([8], [8]), ([8], [8]), ([12, 13, 8], [8, 12, 13]), ([14, 8], [8, 14]), ([11, 15, 8, 8], [8, 11, 15]), ([16, 8], [8, 16]), ([10, 17, 8], [8, 10, 17]), ([8, 18, 2], [2, 8, 18]), ([2, 19], [2, 19]), ([20, 16], [20]), ([21], [21]), ([21], [21]), ([22, 23, 21], [21, 22, 23]), ([24, 21], [21, 24]), ([25, 21], [21, 25]), ([26, 21, 21], [21, 26]), ([27], [27]), ([28, 27], [27, 28]), ([27], [27]), ([27], [27]), ([30, 31, 27], [27, 30, 31]), ([32, 27], [27, 32]), ([33, 27], [27, 33]), ([29, 34, 27], [27, 29, 34]), ([27, 35, 21], [21, 27, 35]), ([21, 36], [21, 36])])
def great24_B : List Nat := [0, 1, 3, 7, 7, 31, 63, 127, 255, 511, 1023, 511, 511, 511, 12799, 29183, 63999, 129535, 262143, 524287, 1048575, 2097151, 4194303, 4194303, 16777215, 33554431, 67108863, 134217727, 268435455, 536870911, 268435455, 268435455, 3489660927, 7784628223, 16374562815, 34359738367, 68719476735, 137438953471]
theorem great24_tab : rtab .any (opsOf Try.f8 24) = great24_T := by kernel_rfl
theorem great24_bits : waitsOk great24_T.2 great24_B = true := by kernel_rfl
def great43_T : Bool × List (List Nat × List Nat) := (true, [([], []), ([0], [0]), ([1], [1]), ([2], [2]), ([3, 2], [2, 3]), ([2], [2]), ([2], [2]), ([5, 6, 2], [2, 5, 6]), ([7, 2], [2, 7]), ([8, 2], [2, 8]), ([4, 9, 2], [2, 4, 9]), ([2, 10], [2, 10]), ([11, 2], [11]), ([12], [12]), ([12], [12]), ([13, 14, 12], [12, 13, 14]), ([15, 12], [12, 15]), ([16, 12], [12, 16]), ([12], [12]), ([12], [12]), ([18, 19, 12], [12, 18, 19]), ([20, 12], [12, 20]), ([21, 12], [12, 21]), ([17, 22, 12], [12, 17, 22]), ([12, 23], [12, 23])])
def great43_B : List Nat := [0, 1, 3, 7, 15, 7, 7, 103, 231, 487, 1023, 2047, 4095, 8191, 8191, 32767, 65535, 131071, 8191, 8191, 794623, 1843199, 3940351, 8388607, 16777215]
theorem great43_tab : rtab .any (opsOf Try.f8 43) = great43_T := by kernel_rfl
theorem great43_bits : waitsOk great43_T.2 great43_B = true := by kernel_rfl
set_option maxHeartbeats 8000000 in
set_option maxRecDepth 100000 in
theorem great_calls (a0 a1 a2 a3 : Int) (w : World) (n T a b M : Nat) (hn2 : 2 ≤ n) (hnm : n ≤ 2000) (hT1 : 1 ≤ T) (hTm : T ≤ 2000) (hTn : T * n ≤ 30000) (ha : a < T + 2) (hb : b < T + 3)
    (hn : kilnlaw3_mod.f a0 1999 = some ((n : Int) - 2)) (q : Int) (hq : (30000 : Int) / (n : Int) = q) (hif : min (2000 : Int) q = (M : Int)) (hT : kilnlaw3_mod.f a1 (M : Int) = some ((T : Int) - 1)) (hfa : kilnlaw3_mod.f a2 ((T : Int) + 2) = some (a : Int)) (hfb : kilnlaw3_mod.f a3 ((T : Int) + 3) = some (b : Int))
    (hHb : ∀ i, 0 ≤ (oH n T T).getD i 0 ∧ (oH n T T).getD i 0 ≤ (T : Int))
    (hcur : ∀ i, i < n → (oS n T T).cur i = if 0 < (oH n T T).getD i 0 then markL (i : Int) ((oH n T T).getD i 0) else zeros)
    (hcrash : ∀ i, i < n → ((oS n T T).crash (wf n T a b (oH n T T) n).2).L.getD i [] = (wf n T a b (oH n T T) n).1.getD i []) :
    Calls Try.prog 8 #[.int .i64 a0, .int .i64 a1, .int .i64 a2, .int .i64 a3] w fun e w' => e = .returned (.bool true) ∧ Below w.heap.size w w' := by
  have hM1 := Aside0.mk (fun W => kilnlaw3_mod.calls a0 1999 ((n : Int) - 2) W hn)
  have hM2 := Aside0.mk (fun W => kilnlaw3_mod.calls a1 (M : Int) ((T : Int) - 1) W hT)
  have HHB := Aside0.mk hHb
  have HCUR := Aside0.mk hcur
  have HCR := Aside0.mk hcrash
  have hM3 := Aside0.mk (fun W => kilnlaw3_mod.calls a2 ((T : Int) + 2) (a : Int) W hfa)
  have hM4 := Aside0.mk (fun W => kilnlaw3_mod.calls a3 ((T : Int) + 3) (b : Int) W hfb)
  clear hHb hcur hcrash hfa hfb
  have hNEW := Aside0.mk (fun (w0 W : World) (L : List Th) (h : Sep w0 W L) => Sep.new h n hn2 (by omega))
  have HS0 := Aside0.mk (Sep.refl w)
  have hd0 : (0 : Int) ≤ 30000 / (n : Int) := Int.ediv_nonneg (by omega) (by omega)
  have hn0 : ((n : Int) == 0) = false := beq_eq_false_iff_ne.mpr (by omega)
  rw [hq] at hd0
  clear hn hT
  go_enter Try.func8, Try.ntmps8
  go_upto_region 2 with (go_at_call 20; (with_reducible refine (hM1.out _).mono ?_); rintro e w1 ⟨rfl, nd, rfl⟩)
  rw [show (2 : Int) + ((n : Int) - 2) = (n : Int) by omega]
  go_upto_region 3 with (go_at_call 20; (with_reducible refine (hM2.out _).mono ?_); rintro e w1 ⟨rfl, nd2, rfl⟩)
  rw [show (1 : Int) + ((T : Int) - 1) = (T : Int) by omega]
  clear hq hif hd0 hn0
  go_upto_region 6 with (go_at_call 21; (with_reducible refine (hNEW.out _ _ _ (HS0.out.step (by repeat (first | exact Below.refl _ _ | apply below_drew1 | apply pw_below_drewN | apply below_alloc)))).mono ?_); rintro e w1 ⟨g, rfl, h1⟩; have HS1 := Aside0.mk h1; clear h1)
  go_upto_region 7 with (at_make; refine Kd.R_make (Kd.int .i64) (w0 := w1) w1.heap.size 3 rfl (N := 47) rfl 51 (.tmp 46) (.tmp 46) rfl (n : Int) rfl rfl Try.underlying51 (.int .i64 0) 8 info3 rfl (by decide) (by decide) 0 (ok := fun _ => True) (okp := fun _ => False) ?mz (fun _ h => h.elim) trivial (by omega) ?ml (Below.refl _ _) (Nat.le_refl _) ?_; (case mz => exact rfl); (case ml => omega); intro vh w2 hr hb hg hat; have HR2 := Aside0.mk hr; have HB2 := Aside0.mk hb; clear hr hb hg hat)
  have h2_ := HS1.out.push_own HR2.out HB2.out
  rw [Int.toNat_natCast] at h2_
  obtain ⟨bh, ch, e2, hbh, _, _⟩ := Kd.R_form HR2.out (by rw [List.length_replicate]; omega)
  rw [List.length_replicate, Int.toNat_natCast] at e2
  subst e2
  have HS2 := Aside0.mk h2_.up1
  clear h2_ HR2 HB2 HS1 HS0 hM1 hM2 hNEW
  go_wp2
  go_loopg [13] T (fun kq v13 wr => ∃ j jj : Nat, v13 = .int .i64 jj ∧ Aside0 (jj = j + 1) ∧ Aside0 (j + kq = T) ∧ Aside0 (Sep w wr [dkT g (oS n T j), ownT (Kd.int .i64) 3 (.slice (some ⟨bh, 0, none⟩) n ch) (oH n T j)]))
  case atStart => exact ⟨0, 1, rfl, ⟨rfl⟩, ⟨Nat.zero_add _⟩, HS2⟩
  case round =>
    clear HS2
    obtain ⟨j, jj, rfl, HJJ, HJ, HS⟩ := hrel
    rename World => wo
    by_cases hj : jj ≤ T
    · have hjb : decide (jj ≤ T) = true := decide_eq_true hj
      have HJ1 := Aside0.mk hj
      have hjm : jj ≤ 2000 := by omega
      clear hj
      go_wp2
      go_loopg [14] n (fun kq v14 wr => ∃ i : Nat, v14 = .int .i64 i ∧ Aside0 (i + kq = n) ∧ Aside0 (Sep w wr [dkT g (gS T jj (oS n T j) i), ownT (Kd.int .i64) 3 (.slice (some ⟨bh, 0, none⟩) n ch) (gH T jj (oH n T j) i)]))
      case atStart => exact ⟨0, rfl, ⟨Nat.zero_add _⟩, HS⟩
      case round =>
        clear HS
        obtain ⟨i, rfl, HI, HS⟩ := hrel
        rename World => wi
        by_cases hi : i < n
        · have hib : decide (i < n) = true := decide_eq_true hi
          have HI1 := Aside0.mk hi
          by_cases hs : skp T i jj = true
          · have HSn := Aside0.mk (show Sep w wi [dkT g (gS T jj (oS n T j) (i + 1)), ownT (Kd.int .i64) 3 (.slice (some ⟨bh, 0, none⟩) n ch) (gH T jj (oH n T j) (i + 1))] from by
              unfold gS gH
              rw [if_pos hs, if_pos hs]
              exact HS.out)
            clear HS
            by_cases c1 : i % 5 = 4
            · have c1a : (i : Int) % 5 = 4 := by omega
              clear c1 hs
              go_wp2
              go_roundg (gk - 1)
              case measure => have := HI.out; have := HI1.out; omega
              case rel => exact ⟨i + 1, (by have hi_ := HI1.out; have hl_ := hnm; first | rfl | (simp; done)), ⟨by have := HI.out; have := HI1.out; omega⟩, HSn⟩
            · have c2 : i % 3 = 2 ∧ jj = T := by
                unfold skp at hs
                rw [decide_eq_false c1, Bool.false_or, Bool.and_eq_true] at hs
                exact ⟨of_decide_eq_true hs.1, of_decide_eq_true hs.2⟩
              have c2a : (i : Int) % 3 = 2 := by omega
              have c1a : ((i : Int) % 5 == 4) = false := beq_eq_false_iff_ne.mpr (by omega)
              have c1b : ¬ ((i : Int) % 5 = 4) := by omega
              have c3a : ((jj : Int) == (T : Int)) = true := beq_iff_eq.mpr (by omega)
              clear c1 hs c2
              go_wp2
              go_roundg (gk - 1)
              case measure => have := HI.out; have := HI1.out; omega
              case rel => exact ⟨i + 1, (by have hi_ := HI1.out; have hl_ := hnm; first | rfl | (simp; done)), ⟨by have := HI.out; have := HI1.out; omega⟩, HSn⟩
          · have c1b : ¬ (i % 5 = 4) := by
              intro h
              unfold skp at hs
              rw [decide_eq_true h] at hs
              exact hs rfl
            have c1 : ((i : Int) % 5 == 4) = false := beq_eq_false_iff_ne.mpr (by omega)
            have c1a : ¬ ((i : Int) % 5 = 4) := by omega
            have c23 : ((i : Int) % 3 = 2 ∧ ((jj : Int) == (T : Int)) = false) ∨ ¬ ((i : Int) % 3 = 2) := by
              by_cases h : i % 3 = 2
              · refine .inl ⟨by omega, beq_eq_false_iff_ne.mpr (fun e => hs ?_)⟩
                unfold skp
                rw [decide_eq_true h, decide_eq_true (show jj = T by omega)]
                simp
              · exact .inr (by omega)
            obtain ⟨hc, hf⟩ := HS.out.up1.cell (0 : Int) i hi
            have HSN := Aside0.mk hs
            clear c1b hs
            have HS15 := Aside0.mk ((HS.out.up1.put i (jj : Int)).up1)
            have HWR := Aside0.mk (fun W v (h : Sep w W (ownT (Kd.int .u8) 5 v (markL (i : Int) (jj : Int)) :: dkT g (gS T jj (oS n T j) i) :: [ownT (Kd.int .i64) 3 (.slice (some ⟨bh, 0, none⟩) n ch) ((gH T jj (oH n T j) i).set i (jj : Int))])) => Sep.write_own v _ h i (by rw [gS_n, oS_n]; exact hi) (by have h1_ := gS_c T jj (oS n T j) i; have h2_ := oS_c n T j; have h3_ : j * n ≤ T * n := Nat.mul_le_mul_right n (by have := HJ.out; omega); omega) (mark_ok _ _).2)
            have hi0 : (0 : Int) ≤ (i : Int) := by omega
            have hi1 : (i : Int) < (n : Int) := by omega
            clear hi
            rcases c23 with ⟨c2, c3⟩ | c2
            all_goals
              go_upto_region 15 with (fail)
              generalize wi.setCell ⟨bh, i, none⟩ (.int .i64 (jj : Int)) = w15 at HS15 ⊢
              go_wp2_with (first
                | (go_at_call 31; (with_reducible refine (kilnlaw3_mark.calls (i : Int) (jj : Int) _ _ (mark_ok _ _).1).mono ?_); rintro e w16 ⟨v16, rfl, hr, hb⟩; have HS16 := Aside0.mk (HS15.out.push_own hr hb); clear hr hb)
                | (go_at_call 16; (with_reducible refine (HWR.out _ _ HS16.out).mono ?_); rintro e w17 ⟨rfl, h17⟩; have HS17 := Aside0.mk h17.drop; clear h17))
              have HSn := Aside0.mk (show Sep w w17 [dkT g (gS T jj (oS n T j) (i + 1)), ownT (Kd.int .i64) 3 (.slice (some ⟨bh, 0, none⟩) n ch) (gH T jj (oH n T j) (i + 1))] from by
                unfold gS gH
                rw [if_neg HSN.out, if_neg HSN.out]
                exact HS17.out)
              go_roundg (gk - 1)
              case measure => have := HI.out; have := HI1.out; omega
              case rel => exact ⟨i + 1, (by have hi_ := HI1.out; have hl_ := hnm; first | rfl | (simp; done)), ⟨by have := HI.out; have := HI1.out; omega⟩, HSn⟩
        · have hib : decide (i < n) = false := decide_eq_false hi
          obtain rfl : i = n := by have := HI.out; omega
          clear hi
          go_wp2
          go_roundg (T - j - 1)
          case measure => have := HJ.out; have := HJ1.out; have := HJJ.out; omega
          case rel => exact ⟨j + 1, jj + 1, (by have hi_ := hjm; first | rfl | (simp; done)), ⟨by have := HJJ.out; omega⟩, ⟨by have := HJ.out; have := HJ1.out; have := HJJ.out; omega⟩, ⟨by unfold oS oH; rw [← HJJ.out]; exact HS.out⟩⟩
    · have hjb : decide (jj ≤ T) = false := decide_eq_false hj
      obtain rfl : T = j := by have := HJ.out; have := HJJ.out; omega
      clear hj
      obtain ⟨S, hS⟩ : ∃ S, S = oS n T T := ⟨_, rfl⟩
      obtain ⟨H, hH⟩ : ∃ H, H = oH n T T := ⟨_, rfl⟩
      rw [← hS, ← hH] at HS
      rw [← hH] at HHB
      rw [← hS, ← hH] at HCUR HCR
      have HSn := Aside0.mk (show S.n = n from by rw [hS]; exact oS_n n T T)
      have HSc := Aside0.mk (show S.c < 1073741824 from by rw [hS]; have h_ := oS_c n T T; omega)
      have HHl := Aside0.mk (show H.length = n from by rw [hH]; exact oH_len n T T)
      clear hS hH
      go_upto_region 18 with (at_make; refine Kd.R_make KB (w0 := wo) wo.heap.size 28 rfl (N := 83) rfl 37 (.tmp 82) (.tmp 82) rfl (n : Int) rfl rfl Try.underlying37 (.slice none 0 0) 24 info28 rfl (by decide) (by decide) [] (ok := fun _ => True) (okp := fun _ => False) ?mz (fun _ h => h.elim) trivial (by omega) ?ml (Below.refl _ _) (Nat.le_refl _) ?_; (case mz => exact ⟨_, rfl, Kd.R_nil _ _ _ _ _⟩); (case ml => omega); intro vw w3 hr hb hg hat; have HR3 := Aside0.mk hr; have HB3 := Aside0.mk hb; clear hr hb hg hat)
      have h3_ := (HS.out.push_nil (Kd.int .i64) 3).down2.push_own HR3.out HB3.out
      rw [Int.toNat_natCast] at h3_
      obtain ⟨bw, cw, e3, _, _, _⟩ := Kd.R_form HR3.out (by rw [List.length_replicate]; omega)
      rw [List.length_replicate, Int.toNat_natCast] at e3
      subst e3
      have HS3 := Aside0.mk h3_.up1
      clear h3_ HR3 HB3 HS
      go_wp2
      go_loopg [16, 17] n (fun kq v16 v17 wr => ∃ i : Nat, v17 = .int .i64 i ∧ Aside0 (i + kq = n) ∧ ∃ r, Aside0 (Sep w wr [dkT g (S.withR r), ownT KB 28 (.slice (some ⟨bw, 0, none⟩) n cw) (wf n T a b H i).1, ownT (Kd.int .i64) 3 (.slice (some ⟨bh, 0, none⟩) n ch) H, ownT (Kd.int .i64) 3 v16 (wf n T a b H i).2]))
      case atStart => exact ⟨0, rfl, ⟨Nat.zero_add _⟩, S.r, HS3⟩
      case round =>
        clear HS3
        obtain ⟨i, rfl, HI, r, HS⟩ := hrel
        by_cases hi : i < n
        · have hib : decide (i < n) = true := decide_eq_true hi
          have hi0 : (0 : Int) ≤ (i : Int) := by omega
          have hi1 : (i : Int) < (n : Int) := by omega
          have HI1 := Aside0.mk hi
          have HRD := Aside0.mk (fun W (L : List Th) (h : Sep w W (dkT g (S.withR r) :: L)) => Sep.read h i (by show i < S.n; rw [HSn.out]; exact HI1.out))
          clear hi
          go_upto_region 23 with (at_make; refine Kd.R_make (Kd.int .u8) wr.heap.size 5 rfl (N := 91) rfl 28 _ _ rfl 512 rfl rfl Try.underlying28 (.int .u8 0) 1 info5 rfl (by decide) (by decide) 0 (ok := fun _ => True) (okp := fun _ => True) rfl (fun _ h => h) trivial (by omega) (by omega) (Below.refl _ _) (Nat.le_refl _) ?_; intro v91 w91 hr hb hg hat; obtain ⟨A91, c91, e91⟩ := Kd.R_slice hr; rw [List.length_replicate, show (512 : Int).toNat = 512 from rfl] at e91; subst e91; have HS91 := Aside0.mk (HS.out.push_own hr hb).up2; obtain ⟨A_, c_, hsl, hfz, _⟩ := HS91.out.slot i HI1.out; clear hr hb hg hat)
          have HS92 := Aside0.mk (HS91.out.up1.put_row i HI1.out).up1
          clear HS91 HS hsl hfz
          generalize w91.setCell ⟨bw, i, none⟩ (.slice A91 512 c91) = w92 at HS92 ⊢
          go_upto_region 24 with (go_at_call 25; (with_reducible refine (HRD.out _ _ HS92.out).mono ?_); rintro e w93 ⟨v93, rfl, h⟩; have HS93 := Aside0.mk h; clear h)
          have hcu : (S.withR r).cur i = S.cur i := rfl
          rw [hcu] at HS93
          have hct := HCUR.out i HI1.out
          have hvb := HHB.out i
          obtain ⟨t, ht⟩ : ∃ x, x = S.cur i := ⟨_, rfl⟩
          obtain ⟨hv, hhv⟩ : ∃ x, x = H.getD i 0 := ⟨_, rfl⟩
          rw [← ht] at HS93 hct
          rw [← hhv] at hct hvb
          have HHV := Aside0.mk hhv
          have hK0 : ∀ W, Below w93.heap.size w93 W → W.cell? ⟨bh, i, none⟩ = some (.int .i64 hv) ∧ (convert 28 9 v93).run Try.prog W = .ok (.string (strOfNums t)) W := by
            intro W hW
            have h1 := HS93.out.step hW
            obtain ⟨b_, ok_, hr_⟩ := h1.own
            have h2 := (h1.up3.cell (0 : Int) i HI1.out).1
            rw [← hhv] at h2
            exact ⟨h2, own_string (P := Try.prog) Try.underlying28 Try.underlying5 Try.underlying9 (Kd.own_of_R hr_)⟩
          have HK0 := Aside0.mk hK0
          obtain ⟨hc93, hs93⟩ := hK0 _ (Below.refl _ _)
          have c9b0 : ((strOfNums t).toList == (strOfNums t).toList) = true := beq_iff_eq.mpr rfl
          have c9b1 : ((strOfNums t).toList != (strOfNums t).toList) = false := bne_eq_false_iff_eq.mpr rfl
          have HVB := Aside0.mk hvb
          clear hcu ht hhv hK0 hvb
          have HB94 := Aside0.mk (below_drew1 (Below.refl w93.heap.size w93))
          by_cases hp : 0 < hv
          · rw [if_pos hp] at hct
            have hpd : decide (0 < hv) = true := decide_eq_true hp
            have hp2 : (hv == 0) = false := beq_eq_false_iff_ne.mpr (by omega)
            have HT := Aside0.mk hct
            have HP := Aside0.mk hp
            clear hct hp
            have HMK := Aside0.mk (fun W => kilnlaw3_mark.calls (i : Int) hv t W (HT.out ▸ (mark_ok _ _).1))
            refine start_ (n := 38) (S := fun W => W.cell? ⟨bh, i, none⟩ = some (.int .i64 hv) ∧ (convert 28 9 v93).run Try.prog W = .ok (.string (strOfNums t)) W) (ds := []) #[false, false, false, false, false, false, false, false, false, false, false, false, false, false, false, false, false, false, false, false, false, false, false, false, false, false, false, false, false, false, false, false, false, false, false, false, false, false] (by kernel_rfl) rfl rfl (HK0.out _ HB94.out) (fun hHeld => ?_); refine with_tabW great24_tab great24_bits (fun HT_ HW_ => ?_)
            generalize w93.drew = w94 at hHeld HB94 ⊢
            refine pure_ (i := 0) (N := (some 99)) (v := ?_) (a' := ?_) #[true, false, false, false, false, false, false, false, false, false, false, false, false, false, false, false, false, false, false, false, false, false, false, false, false, false, false, false, false, false, false, false, false, false, false, false, false, false] rfl rfl (any_of HT_.out (by kernel_rfl)) (fun _ _ _ h => h) (Or.inl ⟨by rfl, ?_⟩) ?_ ?_
            rotate_left
            · intro w'
              go_simp
              with_reducible rfl
            rotate_left
            · simp only [Act.put, List.setIfInBounds_toArray, List.set_cons_zero, List.set_cons_succ, i64_w, i32_w]
              rfl
            refine pure_ (i := 1) (N := (some 100)) (v := ?_) (a' := ?_) #[true, true, false, false, false, false, false, false, false, false, false, false, false, false, false, false, false, false, false, false, false, false, false, false, false, false, false, false, false, false, false, false, false, false, false, false, false, false] rfl rfl (any_of HT_.out (by kernel_rfl)) (fun _ _ _ h => h) (Or.inl ⟨by rfl, ?_⟩) ?_ ?_
            rotate_left
            · intro w'
              go_simp
              with_reducible rfl
            rotate_left
            · simp only [Act.put, List.setIfInBounds_toArray, List.set_cons_zero, List.set_cons_succ, i64_w, i32_w]
              rfl
            refine pure_ (i := 2) (N := (some 101)) (v := ?_) (a' := ?_) #[true, true, true, false, false, false, false, false, false, false, false, false, false, false, false, false, false, false, false, false, false, false, false, false, false, false, false, false, false, false, false, false, false, false, false, false, false, false] rfl rfl (any_of HT_.out (by kernel_rfl)) (fun _ _ _ h => h) (Or.inl ⟨by rfl, ?_⟩) ?_ ?_
            rotate_left
            · intro w'
              go_simp
              with_reducible rfl
            rotate_left
            · simp only [Act.put, List.setIfInBounds_toArray, List.set_cons_zero, List.set_cons_succ, i64_w, i32_w]
              rfl
            refine pure_ (i := 3) (N := (some 102)) (v := ?_) (a' := ?_) #[true, true, true, true, false, false, false, false, false, false, false, false, false, false, false, false, false, false, false, false, false, false, false, false, false, false, false, false, false, false, false, false, false, false, false, false, false, false] rfl rfl (any_of HT_.out (by kernel_rfl)) (fun _ _ _ h => h) (Or.inl ⟨by rfl, ?_⟩) ?_ ?_
            rotate_left
            · intro w'
              go_simp
              with_reducible rfl
            rotate_left
            · simp only [Act.put, List.setIfInBounds_toArray, List.set_cons_zero, List.set_cons_succ, i64_w, i32_w]
              rfl
            refine pure_ (i := 4) (N := (some 103)) (v := ?_) (a' := ?_) #[true, true, true, true, true, false, false, false, false, false, false, false, false, false, false, false, false, false, false, false, false, false, false, false, false, false, false, false, false, false, false, false, false, false, false, false, false, false] rfl rfl (any_of HT_.out (by kernel_rfl)) (fun _ _ _ h => h) (Or.inl ⟨by rfl, ?_⟩) ?_ ?_
            rotate_left
            · intro w'
              go_simp
              with_reducible rfl
            rotate_left
            · simp only [Act.put, List.setIfInBounds_toArray, List.set_cons_zero, List.set_cons_succ, i64_w, i32_w]
              rfl
            refine pure_ (i := 5) (N := (some 104)) (v := ?_) (a' := ?_) #[true, true, true, true, true, true, false, false, false, false, false, false, false, false, false, false, false, false, false, false, false, false, false, false, false, false, false, false, false, false, false, false, false, false, false, false, false, false] rfl rfl (any_of HT_.out (by kernel_rfl)) (fun _ _ _ h => h) (Or.inl ⟨by rfl, ?_⟩) ?_ ?_
            rotate_left
            · intro w'
              go_simp
              with_reducible rfl
            rotate_left
            · simp only [Act.put, List.setIfInBounds_toArray, List.set_cons_zero, List.set_cons_succ, i64_w, i32_w]
              rfl
            refine take_ (i := 6) (N := (some 105)) (v := ?_) (a' := ?_) #[true, true, true, true, true, true, true, false, false, false, false, false, false, false, false, false, false, false, false, false, false, false, false, false, false, false, false, false, false, false, false, false, false, false, false, false, false, false] rfl rfl (take_ofW HT_.out HW_.out (by kernel_rfl)) (fun _ _ _ h => h) (Or.inl ⟨by rfl, ?_⟩) hHeld ?_ ?_
            rotate_left
            · intro w' s0
              (try dsimp only at s0)
              go_simp
              with_reducible rfl
            rotate_left
            · simp only [Act.put, List.setIfInBounds_toArray, List.set_cons_zero, List.set_cons_succ, i64_w, i32_w]
              rfl
            refine pure_ (i := 7) (N := (some 106)) (v := ?_) (a' := ?_) #[true, true, true, true, true, true, true, true, false, false, false, false, false, false, false, false, false, false, false, false, false, false, false, false, false, false, false, false, false, false, false, false, false, false, false, false, false, false] rfl rfl (any_of HT_.out (by kernel_rfl)) (fun _ _ _ h => h) (Or.inl ⟨by rfl, ?_⟩) ?_ ?_
            rotate_left
            · intro w'
              go_simp
              with_reducible rfl
            rotate_left
            · simp only [Act.put, List.setIfInBounds_toArray, List.set_cons_zero, List.set_cons_succ, i64_w, i32_w]
              rfl
            refine pure_ (i := 8) (N := (some 107)) (v := ?_) (a' := ?_) #[true, true, true, true, true, true, true, true, true, false, false, false, false, false, false, false, false, false, false, false, false, false, false, false, false, false, false, false, false, false, false, false, false, false, false, false, false, false] rfl rfl (any_of HT_.out (by kernel_rfl)) (fun _ _ _ h => h) (Or.inl ⟨by rfl, ?_⟩) ?_ ?_
            rotate_left
            · intro w'
              go_simp
              with_reducible rfl
            rotate_left
            · simp only [Act.put, List.setIfInBounds_toArray, List.set_cons_zero, List.set_cons_succ, i64_w, i32_w]
              rfl
            refine pure_ (i := 9) (N := (some 108)) (v := ?_) (a' := ?_) #[true, true, true, true, true, true, true, true, true, true, false, false, false, false, false, false, false, false, false, false, false, false, false, false, false, false, false, false, false, false, false, false, false, false, false, false, false, false] rfl rfl (any_of HT_.out (by kernel_rfl)) (fun _ _ _ h => h) (Or.inl ⟨by rfl, ?_⟩) ?_ ?_
            rotate_left
            · intro w'
              go_simp
              with_reducible rfl
            rotate_left
            · simp only [Act.put, List.setIfInBounds_toArray, List.set_cons_zero, List.set_cons_succ, i64_w, i32_w]
              rfl
            refine take_ (i := 10) (N := (some 109)) (v := ?_) (a' := ?_) #[true, true, true, true, true, true, true, true, true, true, true, false, false, false, false, false, false, false, false, false, false, false, false, false, false, false, false, false, false, false, false, false, false, false, false, false, false, false] rfl rfl (take_ofW HT_.out HW_.out (by kernel_rfl)) (fun _ _ _ h => h) (Or.inl ⟨by rfl, ?_⟩) hHeld ?_ ?_
            rotate_left
            · intro w' s0
              (try dsimp only at s0)
              go_simp
              with_reducible rfl
            rotate_left
            · simp only [Act.put, List.setIfInBounds_toArray, List.set_cons_zero, List.set_cons_succ, i64_w, i32_w]
              rfl
            refine pure_ (i := 11) (N := (some 110)) (v := ?_) (a' := ?_) #[true, true, true, true, true, true, true, true, true, true, true, true, false, false, false, false, false, false, false, false, false, false, false, false, false, false, false, false, false, false, false, false, false, false, false, false, false, false] rfl rfl (any_of HT_.out (by kernel_rfl)) (fun _ _ _ h => h) (Or.inl ⟨by rfl, ?_⟩) ?_ ?_
            rotate_left
            · intro w'
              go_simp
              with_reducible rfl
            rotate_left
            · simp only [Act.put, List.setIfInBounds_toArray, List.set_cons_zero, List.set_cons_succ, i64_w, i32_w]
              rfl
            refine pure_ (i := 12) (N := (some 111)) (v := ?_) (a' := ?_) #[true, true, true, true, true, true, true, true, true, true, true, true, true, false, false, false, false, false, false, false, false, false, false, false, false, false, false, false, false, false, false, false, false, false, false, false, false, false] rfl rfl (any_of HT_.out (by kernel_rfl)) (fun _ _ _ h => h) (Or.inl ⟨by rfl, ?_⟩) ?_ ?_
            rotate_left
            · intro w'
              go_simp
              with_reducible rfl
            rotate_left
            · simp only [Act.put, List.setIfInBounds_toArray, List.set_cons_zero, List.set_cons_succ, i64_w, i32_w]
              rfl
            refine pure_ (i := 13) (N := (some 112)) (v := ?_) (a' := ?_) #[true, true, true, true, true, true, true, true, true, true, true, true, true, true, false, false, false, false, false, false, false, false, false, false, false, false, false, false, false, false, false, false, false, false, false, false, false, false] rfl rfl (any_of HT_.out (by kernel_rfl)) (fun _ _ _ h => h) (Or.inl ⟨by rfl, ?_⟩) ?_ ?_
            rotate_left
            · intro w'
              go_simp
              with_reducible rfl
            rotate_left
            · simp only [Act.put, List.setIfInBounds_toArray, List.set_cons_zero, List.set_cons_succ, i64_w, i32_w]
              rfl
            refine pure_ (i := 14) (N := (some 113)) (v := ?_) (a' := ?_) #[true, true, true, true, true, true, true, true, true, true, true, true, true, true, true, false, false, false, false, false, false, false, false, false, false, false, false, false, false, false, false, false, false, false, false, false, false, false] rfl rfl (any_of HT_.out (by kernel_rfl)) (fun _ _ _ h => h) (Or.inl ⟨by rfl, ?_⟩) ?_ ?_
            rotate_left
            · intro w'
              go_simp
              with_reducible rfl
            rotate_left
            · simp only [Act.put, List.setIfInBounds_toArray, List.set_cons_zero, List.set_cons_succ, i64_w, i32_w]
              rfl
            refine take_ (i := 15) (N := (some 114)) (v := ?_) (a' := ?_) #[true, true, true, true, true, true, true, true, true, true, true, true, true, true, true, true, false, false, false, false, false, false, false, false, false, false, false, false, false, false, false, false, false, false, false, false, false, false] rfl rfl (take_ofW HT_.out HW_.out (by kernel_rfl)) (fun _ _ _ h => h) (Or.inl ⟨by rfl, ?_⟩) hHeld ?_ ?_
            rotate_left
            · intro w' s0
              (try dsimp only at s0)
              go_simp
              with_reducible rfl
            rotate_left
            · simp only [Act.put, List.setIfInBounds_toArray, List.set_cons_zero, List.set_cons_succ, i64_w, i32_w]
              rfl
            refine one_ (i := 16) (N := (some 115)) #[true, true, true, true, true, true, true, true, true, true, true, true, true, true, true, true, true, false, false, false, false, false, false, false, false, false, false, false, false, false, false, false, false, false, false, false, false, false] rfl rfl (one_of HT_.out (by kernel_rfl)) (by decide) (fun K hK => ?_)
            refine goes_ Try.func31 (by kernel_rfl) rfl #[.int .i64 (i : Int), .int .i64 hv] (by rfl) rfl rfl (by (try simp only [List.map_toArray, List.map_cons, List.map_nil]); first | done | rfl) ?_
            with_reducible refine (HMK.out _).mono ?_
            rintro e w95 ⟨v95, rfl, hr, hb⟩
            have hcv := own_string (P := Try.prog) Try.underlying28 Try.underlying5 Try.underlying9 (Kd.own_of_R hr)
            have HB95 := Aside0.mk (show Below w93.heap.size w93 w95 from below_step HB94.out hb)
            clear hr hb
            refine ⟨_, rfl, ?_⟩
            refine hK.out _ _ (HK0.out _ HB95.out) (fun hHeld => ?_)
            clear hK K
            refine norm_ (a' := ?_) ?_ ?_
            rotate_left
            · show Act.put _ (some 115) _ = _
              simp only [Act.put, List.setIfInBounds_toArray, List.set_cons_zero, List.set_cons_succ, i64_w, i32_w]
              rfl
            refine one_ (i := 17) (N := (some 116)) #[true, true, true, true, true, true, true, true, true, true, true, true, true, true, true, true, true, true, false, false, false, false, false, false, false, false, false, false, false, false, false, false, false, false, false, false, false, false] rfl rfl (one_of HT_.out (by kernel_rfl)) (by decide) (fun K hK => ?_)
            refine value_ (w1 := ?_) (v := ?_) (by rfl) rfl ?_ ?_
            rotate_left 2
            · go_simp
              constructor
              · rfl
              · rfl
            refine hK.out _ _ (HK0.out _ HB95.out) (fun hHeld => ?_)
            clear hK K
            refine norm_ (a' := ?_) ?_ ?_
            rotate_left
            · show Act.put _ (some 116) _ = _
              simp only [Act.put, List.setIfInBounds_toArray, List.set_cons_zero, List.set_cons_succ, i64_w, i32_w]
              rfl
            refine pure_ (i := 18) (N := (some 117)) (v := ?_) (a' := ?_) #[true, true, true, true, true, true, true, true, true, true, true, true, true, true, true, true, true, true, true, false, false, false, false, false, false, false, false, false, false, false, false, false, false, false, false, false, false, false] rfl rfl (any_of HT_.out (by kernel_rfl)) (fun _ _ _ h => h) (Or.inl ⟨by rfl, ?_⟩) ?_ ?_
            rotate_left
            · intro w'
              go_simp
              with_reducible rfl
            rotate_left
            · simp only [Act.put, List.setIfInBounds_toArray, List.set_cons_zero, List.set_cons_succ, i64_w, i32_w]
              rfl
            refine pure_ (i := 19) (N := (some 118)) (v := ?_) (a' := ?_) #[true, true, true, true, true, true, true, true, true, true, true, true, true, true, true, true, true, true, true, true, false, false, false, false, false, false, false, false, false, false, false, false, false, false, false, false, false, false] rfl rfl (any_of HT_.out (by kernel_rfl)) (fun _ _ _ h => h) (Or.inl ⟨by rfl, ?_⟩) ?_ ?_
            rotate_left
            · intro w'
              go_simp
              with_reducible rfl
            rotate_left
            · simp only [Act.put, List.setIfInBounds_toArray, List.set_cons_zero, List.set_cons_succ, i64_w, i32_w]
              rfl
            refine pure_ (i := 20) (N := (some 119)) (v := ?_) (a' := ?_) #[true, true, true, true, true, true, true, true, true, true, true, true, true, true, true, true, true, true, true, true, true, false, false, false, false, false, false, false, false, false, false, false, false, false, false, false, false, false] rfl rfl (any_of HT_.out (by kernel_rfl)) (fun _ _ _ h => h) (Or.inl ⟨by rfl, ?_⟩) ?_ ?_
            rotate_left
            · intro w'
              go_simp
              with_reducible rfl
            rotate_left
            · simp only [Act.put, List.setIfInBounds_toArray, List.set_cons_zero, List.set_cons_succ, i64_w, i32_w]
              rfl
            refine pure_ (i := 21) (N := (some 120)) (v := ?_) (a' := ?_) #[true, true, true, true, true, true, true, true, true, true, true, true, true, true, true, true, true, true, true, true, true, true, false, false, false, false, false, false, false, false, false, false, false, false, false, false, false, false] rfl rfl (any_of HT_.out (by kernel_rfl)) (fun _ _ _ h => h) (Or.inl ⟨by rfl, ?_⟩) ?_ ?_
            rotate_left
            · intro w'
              go_simp
              with_reducible rfl
            rotate_left
            · simp only [Act.put, List.setIfInBounds_toArray, List.set_cons_zero, List.set_cons_succ, i64_w, i32_w]
              rfl
            refine pure_ (i := 22) (N := (some 121)) (v := ?_) (a' := ?_) #[true, true, true, true, true, true, true, true, true, true, true, true, true, true, true, true, true, true, true, true, true, true, true, false, false, false, false, false, false, false, false, false, false, false, false, false, false, false] rfl rfl (any_of HT_.out (by kernel_rfl)) (fun _ _ _ h => h) (Or.inl ⟨by rfl, ?_⟩) ?_ ?_
            rotate_left
            · intro w'
              go_simp
              with_reducible rfl
            rotate_left
            · simp only [Act.put, List.setIfInBounds_toArray, List.set_cons_zero, List.set_cons_succ, i64_w, i32_w]
              rfl
            refine pure_ (i := 23) (N := (some 122)) (v := ?_) (a' := ?_) #[true, true, true, true, true, true, true, true, true, true, true, true, true, true, true, true, true, true, true, true, true, true, true, true, false, false, false, false, false, false, false, false, false, false, false, false, false, false] rfl rfl (any_of HT_.out (by kernel_rfl)) (fun _ _ _ h => h) (Or.inl ⟨by rfl, ?_⟩) ?_ ?_
            rotate_left
            · intro w'
              go_simp
              with_reducible rfl
            rotate_left
            · simp only [Act.put, List.setIfInBounds_toArray, List.set_cons_zero, List.set_cons_succ, i64_w, i32_w]
              rfl
            refine pure_ (i := 24) (N := (some 123)) (v := ?_) (a' := ?_) #[true, true, true, true, true, true, true, true, true, true, true, true, true, true, true, true, true, true, true, true, true, true, true, true, true, false, false, false, false, false, false, false, false, false, false, false, false, false] rfl rfl (any_of HT_.out (by kernel_rfl)) (fun _ _ _ h => h) (Or.inl ⟨by rfl, ?_⟩) ?_ ?_
            rotate_left
            · intro w'
              go_simp
              with_reducible rfl
            rotate_left
            · simp only [Act.put, List.setIfInBounds_toArray, List.set_cons_zero, List.set_cons_succ, i64_w, i32_w]
              rfl
            refine take_ (i := 25) (N := (some 124)) (v := ?_) (a' := ?_) #[true, true, true, true, true, true, true, true, true, true, true, true, true, true, true, true, true, true, true, true, true, true, true, true, true, true, false, false, false, false, false, false, false, false, false, false, false, false] rfl rfl (take_ofW HT_.out HW_.out (by kernel_rfl)) (fun _ _ _ h => h) (Or.inl ⟨by rfl, ?_⟩) hHeld ?_ ?_
            rotate_left
            · intro w' s0
              (try dsimp only at s0)
              go_simp
              with_reducible rfl
            rotate_left
            · simp only [Act.put, List.setIfInBounds_toArray, List.set_cons_zero, List.set_cons_succ, i64_w, i32_w]
              rfl
            refine pure_ (i := 26) (N := (some 125)) (v := ?_) (a' := ?_) #[true, true, true, true, true, true, true, true, true, true, true, true, true, true, true, true, true, true, true, true, true, true, true, true, true, true, true, false, false, false, false, false, false, false, false, false, false, false] rfl rfl (any_of HT_.out (by kernel_rfl)) (fun _ _ _ h => h) (Or.inl ⟨by rfl, ?_⟩) ?_ ?_
            rotate_left
            · intro w'
              go_simp
              with_reducible rfl
            rotate_left
            · simp only [Act.put, List.setIfInBounds_toArray, List.set_cons_zero, List.set_cons_succ, i64_w, i32_w]
              rfl
            refine pure_ (i := 27) (N := (some 126)) (v := ?_) (a' := ?_) #[true, true, true, true, true, true, true, true, true, true, true, true, true, true, true, true, true, true, true, true, true, true, true, true, true, true, true, true, false, false, false, false, false, false, false, false, false, false] rfl rfl (any_of HT_.out (by kernel_rfl)) (fun _ _ _ h => h) (Or.inl ⟨by rfl, ?_⟩) ?_ ?_
            rotate_left
            · intro w'
              go_simp
              with_reducible rfl
            rotate_left
            · simp only [Act.put, List.setIfInBounds_toArray, List.set_cons_zero, List.set_cons_succ, i64_w, i32_w]
              rfl
            refine pure_ (i := 28) (N := (some 127)) (v := undef) (a' := ?_) #[true, true, true, true, true, true, true, true, true, true, true, true, true, true, true, true, true, true, true, true, true, true, true, true, true, true, true, true, true, false, false, false, false, false, false, false, false, false] rfl rfl (any_of HT_.out (by kernel_rfl)) (fun _ _ _ h => h) (Or.inr ⟨by rfl, rfl⟩) ?_ ?_
            rotate_left
            · simp only [Act.put, List.setIfInBounds_toArray, List.set_cons_zero, List.set_cons_succ, i64_w, i32_w]
              rfl
            refine pure_ (i := 29) (N := (some 128)) (v := undef) (a' := ?_) #[true, true, true, true, true, true, true, true, true, true, true, true, true, true, true, true, true, true, true, true, true, true, true, true, true, true, true, true, true, true, false, false, false, false, false, false, false, false] rfl rfl (any_of HT_.out (by kernel_rfl)) (fun _ _ _ h => h) (Or.inr ⟨by rfl, rfl⟩) ?_ ?_
            rotate_left
            · simp only [Act.put, List.setIfInBounds_toArray, List.set_cons_zero, List.set_cons_succ, i64_w, i32_w]
              rfl
            refine pure_ (i := 30) (N := (some 129)) (v := undef) (a' := ?_) #[true, true, true, true, true, true, true, true, true, true, true, true, true, true, true, true, true, true, true, true, true, true, true, true, true, true, true, true, true, true, true, false, false, false, false, false, false, false] rfl rfl (any_of HT_.out (by kernel_rfl)) (fun _ _ _ h => h) (Or.inr ⟨by rfl, rfl⟩) ?_ ?_
            rotate_left
            · simp only [Act.put, List.setIfInBounds_toArray, List.set_cons_zero, List.set_cons_succ, i64_w, i32_w]
              rfl
            refine pure_ (i := 31) (N := (some 130)) (v := undef) (a' := ?_) #[true, true, true, true, true, true, true, true, true, true, true, true, true, true, true, true, true, true, true, true, true, true, true, true, true, true, true, true, true, true, true, true, false, false, false, false, false, false] rfl rfl (any_of HT_.out (by kernel_rfl)) (fun _ _ _ h => h) (Or.inr ⟨by rfl, rfl⟩) ?_ ?_
            rotate_left
            · simp only [Act.put, List.setIfInBounds_toArray, List.set_cons_zero, List.set_cons_succ, i64_w, i32_w]
              rfl
            refine pure_ (i := 32) (N := (some 131)) (v := undef) (a' := ?_) #[true, true, true, true, true, true, true, true, true, true, true, true, true, true, true, true, true, true, true, true, true, true, true, true, true, true, true, true, true, true, true, true, true, false, false, false, false, false] rfl rfl (any_of HT_.out (by kernel_rfl)) (fun _ _ _ h => h) (Or.inr ⟨by rfl, rfl⟩) ?_ ?_
            rotate_left
            · simp only [Act.put, List.setIfInBounds_toArray, List.set_cons_zero, List.set_cons_succ, i64_w, i32_w]
              rfl
            refine pure_ (i := 33) (N := (some 132)) (v := undef) (a' := ?_) #[true, true, true, true, true, true, true, true, true, true, true, true, true, true, true, true, true, true, true, true, true, true, true, true, true, true, true, true, true, true, true, true, true, true, false, false, false, false] rfl rfl (any_of HT_.out (by kernel_rfl)) (fun _ _ _ h => h) (Or.inr ⟨by rfl, rfl⟩) ?_ ?_
            rotate_left
            · simp only [Act.put, List.setIfInBounds_toArray, List.set_cons_zero, List.set_cons_succ, i64_w, i32_w]
              rfl
            refine pure_ (i := 34) (N := (some 133)) (v := undef) (a' := ?_) #[true, true, true, true, true, true, true, true, true, true, true, true, true, true, true, true, true, true, true, true, true, true, true, true, true, true, true, true, true, true, true, true, true, true, true, false, false, false] rfl rfl (any_of HT_.out (by kernel_rfl)) (fun _ _ _ h => h) (Or.inr ⟨by rfl, rfl⟩) ?_ ?_
            rotate_left
            · simp only [Act.put, List.setIfInBounds_toArray, List.set_cons_zero, List.set_cons_succ, i64_w, i32_w]
              rfl
            refine pure_ (i := 35) (N := (some 134)) (v := undef) (a' := ?_) #[true, true, true, true, true, true, true, true, true, true, true, true, true, true, true, true, true, true, true, true, true, true, true, true, true, true, true, true, true, true, true, true, true, true, true, true, false, false] rfl rfl (any_of HT_.out (by kernel_rfl)) (fun _ _ _ h => h) (Or.inr ⟨by rfl, rfl⟩) ?_ ?_
            rotate_left
            · simp only [Act.put, List.setIfInBounds_toArray, List.set_cons_zero, List.set_cons_succ, i64_w, i32_w]
              rfl
            refine pure_ (i := 36) (N := (some 135)) (v := ?_) (a' := ?_) #[true, true, true, true, true, true, true, true, true, true, true, true, true, true, true, true, true, true, true, true, true, true, true, true, true, true, true, true, true, true, true, true, true, true, true, true, true, false] rfl rfl (any_of HT_.out (by kernel_rfl)) (fun _ _ _ h => h) (Or.inl ⟨by rfl, ?_⟩) ?_ ?_
            rotate_left
            · intro w'
              go_simp
              with_reducible rfl
            rotate_left
            · simp only [Act.put, List.setIfInBounds_toArray, List.set_cons_zero, List.set_cons_succ, i64_w, i32_w]
              rfl
            refine pure_ (i := 37) (N := (some 136)) (v := ?_) (a' := ?_) #[true, true, true, true, true, true, true, true, true, true, true, true, true, true, true, true, true, true, true, true, true, true, true, true, true, true, true, true, true, true, true, true, true, true, true, true, true, true] rfl rfl (any_of HT_.out (by kernel_rfl)) (fun _ _ _ h => h) (Or.inl ⟨by rfl, ?_⟩) ?_ ?_
            rotate_left
            · intro w'
              go_simp
              with_reducible rfl
            rotate_left
            · simp only [Act.put, List.setIfInBounds_toArray, List.set_cons_zero, List.set_cons_succ, i64_w, i32_w]
              rfl
            refine done_ (done_of HT_.out (by kernel_rfl)) ?_
            have HS95 := Aside0.mk (HS93.out.step HB95.out).drop
            have hc95 := (HK0.out _ HB95.out).1
            clear hcv hHeld hc93 hs93 c9b0 c9b1 HMK HK0 HB94 HB95 HS93
            obtain ⟨A16, c16, e16⟩ : ∃ A c, u16 = .slice A (wf n T a b H i).2.length c := by
              obtain ⟨_, _, hr_⟩ := HS95.out.up3.own
              exact Kd.R_slice hr_
            subst e16
            have hql := wf_len n T a b H i
            obtain ⟨q, hq⟩ : ∃ x, x = (wf n T a b H i).2.length := ⟨_, rfl⟩
            rw [← hq] at HS95 hql ⊢
            have HQ := Aside0.mk hq
            obtain ⟨p, hpq⟩ : ∃ x, x = b * q := ⟨_, rfl⟩
            have hpm : p ≤ 2002 * 2000 := by rw [hpq]; exact Nat.mul_le_mul (by omega) (by have := HI1.out; omega)
            have hpi : (b : Int) * (q : Int) = (p : Int) := by rw [hpq]; exact (Int.natCast_mul b q).symm
            obtain ⟨fq, hfq⟩ : ∃ x, x = fateN T a b q := ⟨_, rfl⟩
            have hfm : ((a : Int) + (p : Int)) % ((T : Int) + 3) = (fq : Int) := by rw [hfq]; unfold fateN; rw [← hpq]; push_cast; rfl
            have hfl : fq < T + 3 := by rw [hfq]; exact Nat.mod_lt _ (by omega)
            have ht3 : ((T : Int) + 3 == 0) = false := beq_eq_false_iff_ne.mpr (by omega)
            have ht4 : ¬ ((T : Int) + 3 = 0) := by omega
            have HFQ := Aside0.mk hfq
            clear hpq hfq hq
            go_upto_region 29 with (first
              | (go_at_call 20; (with_reducible refine (hM3.out _).mono ?_); rintro e w27 ⟨rfl, nd, hw_⟩; have HS27 := Aside0.mk (show Sep w w27 _ from hw_ ▸ HS95.out.step (pw_below_drewN (Below.refl _ _) nd)); clear hw_)
              | (go_at_call 20; (with_reducible refine (hM4.out _).mono ?_); rintro e w28 ⟨rfl, nd, hw_⟩; have HS28 := Aside0.mk (show Sep w w28 _ from hw_ ▸ HS27.out.step (pw_below_drewN (Below.refl _ _) nd)); clear hw_))
            rw [hfm]
            clear hpi hfm ht3 ht4 hc95 HS95 HS27
            obtain ⟨okf, hokf, hrf, hputf⟩ := HS28.out.up3.open_own
            have HOK := Aside0.mk hokf
            have HRF := Aside0.mk hrf
            have HPF := Aside0.mk hputf
            have hfs : fq ≤ 2002 := by omega
            clear hokf hrf hputf
            go_upto_region 30 with ((with_reducible refine gate_builtin (b := .append) (xs := #[.tmp 158, .tmp 161]) rfl ?_); at_builtin; refine Kd.R_append (Kd.int .i64) (w0 := w28) 0 rfl (.tmp 158) (.tmp 161) 51 3 (.int .i64 0) 8 rfl Try.underlying51 info3 rfl (by decide) (by decide) (.slice A16 q c16) (wf n T a b H i).2 ((fq : Int) - 1) [.int .i64 ((fq : Int) - 1)] okf (fun _ => False) rfl rfl rfl (fun _ hk => hk.elim) HOK.out HRF.out (Below.refl _ _) (Nat.zero_le _) ?aL ?_; (case aL => have h_ := HQ.out; omega); intro v162 w162 ho hb hg hat; have HS162 := Aside0.mk (HPF.out _ _ _ ho hg); clear ho hb hg hat)
            have hx0 := (HS162.out.up3.cell (0 : Int) i HI1.out).1
            rw [← HHV.out] at hx0
            clear HOK HRF HPF HS28
            have HWM := Aside0.mk (wf_more n T a b H i hv q fq HHV.out.symm (by have := HP.out; omega) HQ.out.symm HFQ.out.symm)
            by_cases hf1 : 1 < fq
            · have hf2 : decide (0 < (fq : Int) - 1) = true := decide_eq_true (by omega)
              have hf3 : decide (1 < (fq : Int)) = true := decide_eq_true (by omega)
              have hf4 : decide (1 < fq) = true := decide_eq_true (by omega)
              have HF1 := Aside0.mk hf1
              clear hf1
              go_wp2_with (go_at_call 31; (with_reducible refine (kilnlaw3_mark.calls (i : Int) (min ((fq : Int) - 1) hv) _ _ (mark_ok _ _).1).mono ?_); rintro e w96 ⟨v96, rfl, hr, hb⟩; obtain ⟨A96, c96, e96⟩ := Kd.R_slice hr; rw [(mark_ok _ _).2] at e96; subst e96; have HS96 := Aside0.mk (HS162.out.push_own hr hb).up3; obtain ⟨A_, c_, hsl, hfz, _⟩ := HS96.out.slot i HI1.out; clear hr hb)
              have HS97 := Aside0.mk (show Sep w (w96.setCell ⟨bw, i, none⟩ (.slice A96 512 c96)) [dkT g (S.withR _), ownT KB 28 (.slice (some ⟨bw, 0, none⟩) n cw) (wf n T a b H (i + 1)).1, ownT (Kd.int .i64) 3 (.slice (some ⟨bh, 0, none⟩) n ch) H, ownT (Kd.int .i64) 3 v162 (wf n T a b H (i + 1)).2] from by
                rw [HWM.out, if_pos HF1.out]
                have h_ := (HS96.out.up1.put_row i HI1.out).up2.up3.down2
                rw [List.set_set] at h_
                exact h_)
              clear hsl hfz HS96 hx0
              go_roundg (n - i - 1)
              case measure => have := HI.out; have := HI1.out; omega
              case rel => exact ⟨i + 1, (by have hi_ := HI1.out; have hl_ := hnm; first | rfl | (simp; done)), ⟨by have := HI.out; have := HI1.out; omega⟩, _, HS97⟩
            · have hf2 : decide (0 < (fq : Int) - 1) = false := decide_eq_false (by omega)
              have hf3 : decide (1 < (fq : Int)) = false := decide_eq_false (by omega)
              have hf4 : decide (1 < fq) = false := decide_eq_false (by omega)
              have HF1 := Aside0.mk hf1
              clear hf1
              have HS97 := Aside0.mk (show Sep w w162 [dkT g (S.withR _), ownT KB 28 (.slice (some ⟨bw, 0, none⟩) n cw) (wf n T a b H (i + 1)).1, ownT (Kd.int .i64) 3 (.slice (some ⟨bh, 0, none⟩) n ch) H, ownT (Kd.int .i64) 3 v162 (wf n T a b H (i + 1)).2] from by
                rw [HWM.out, if_neg HF1.out]
                exact HS162.out.down3)
              go_wp2
              go_roundg (n - i - 1)
              case measure => have := HI.out; have := HI1.out; omega
              case rel => exact ⟨i + 1, (by have hi_ := HI1.out; have hl_ := hnm; first | rfl | (simp; done)), ⟨by have := HI.out; have := HI1.out; omega⟩, _, HS97⟩
          · rw [if_neg hp] at hct
            have hpd : decide (0 < hv) = false := decide_eq_false hp
            obtain rfl : hv = 0 := by have := HVB.out; omega
            clear hp hc93 hs93
            obtain ⟨Aw, cw_, hsl, _, hCw, _⟩ := HS93.out.up2.slot i HI1.out
            have hwz : ((wf n T a b H i).1.set i (List.replicate 512 0)).getD i [] = t := by
              have hl := HS93.out.up2.own
              obtain ⟨_, _, hl⟩ := hl
              have hl2 := (Kd.R_reads' hl).1
              have := HI1.out
              rw [List.getD_eq_getElem?_getD, List.getElem?_set_self (by rw [List.length_set] at hl2; omega), hct]
              rfl
            rw [show (512 : Int).toNat = 512 from rfl] at hsl hCw
            rw [hwz] at hsl hCw
            have HK1 := Aside0.mk (fun W (hW : Below w93.heap.size w93 W) => (show W.cell? ⟨bh, i, none⟩ = some (.int .i64 0) ∧ (convert 28 9 v93).run Try.prog W = .ok (.string (strOfNums t)) W ∧ W.cell? ⟨bw, i, none⟩ = some (.slice Aw t.length cw_) ∧ (convert 28 9 (.slice Aw t.length cw_)).run Try.prog W = .ok (.string (strOfNums t)) W from
              ⟨(HK0.out W hW).1, (HK0.out W hW).2, (hW.cell (World.block_lt_of_cell? w93 _ hsl)).trans hsl, Kd.C_string (P := Try.prog) (A := Aw) (c := cw_) Try.underlying28 Try.underlying5 Try.underlying9 (Kd.C_below hCw hW)⟩))
            have HT := Aside0.mk hct
            clear hct hsl hCw hwz
            refine start_ (n := 38) (S := fun W => W.cell? ⟨bh, i, none⟩ = some (.int .i64 0) ∧ (convert 28 9 v93).run Try.prog W = .ok (.string (strOfNums t)) W ∧ W.cell? ⟨bw, i, none⟩ = some (.slice Aw t.length cw_) ∧ (convert 28 9 (.slice Aw t.length cw_)).run Try.prog W = .ok (.string (strOfNums t)) W) (ds := []) #[false, false, false, false, false, false, false, false, false, false, false, false, false, false, false, false, false, false, false, false, false, false, false, false, false, false, false, false, false, false, false, false, false, false, false, false, false, false] (by kernel_rfl) rfl rfl (HK1.out _ HB94.out) (fun hHeld => ?_); refine with_tabW great24_tab great24_bits (fun HT_ HW_ => ?_)
            generalize w93.drew = w94 at hHeld HB94 ⊢
            refine pure_ (i := 0) (N := (some 99)) (v := ?_) (a' := ?_) #[true, false, false, false, false, false, false, false, false, false, false, false, false, false, false, false, false, false, false, false, false, false, false, false, false, false, false, false, false, false, false, false, false, false, false, false, false, false] rfl rfl (any_of HT_.out (by kernel_rfl)) (fun _ _ _ h => h) (Or.inl ⟨by rfl, ?_⟩) ?_ ?_
            rotate_left
            · intro w'
              go_simp
              with_reducible rfl
            rotate_left
            · simp only [Act.put, List.setIfInBounds_toArray, List.set_cons_zero, List.set_cons_succ, i64_w, i32_w]
              rfl
            refine pure_ (i := 1) (N := (some 100)) (v := ?_) (a' := ?_) #[true, true, false, false, false, false, false, false, false, false, false, false, false, false, false, false, false, false, false, false, false, false, false, false, false, false, false, false, false, false, false, false, false, false, false, false, false, false] rfl rfl (any_of HT_.out (by kernel_rfl)) (fun _ _ _ h => h) (Or.inl ⟨by rfl, ?_⟩) ?_ ?_
            rotate_left
            · intro w'
              go_simp
              with_reducible rfl
            rotate_left
            · simp only [Act.put, List.setIfInBounds_toArray, List.set_cons_zero, List.set_cons_succ, i64_w, i32_w]
              rfl
            refine pure_ (i := 2) (N := (some 101)) (v := ?_) (a' := ?_) #[true, true, true, false, false, false, false, false, false, false, false, false, false, false, false, false, false, false, false, false, false, false, false, false, false, false, false, false, false, false, false, false, false, false, false, false, false, false] rfl rfl (any_of HT_.out (by kernel_rfl)) (fun _ _ _ h => h) (Or.inl ⟨by rfl, ?_⟩) ?_ ?_
            rotate_left
            · intro w'
              go_simp
              with_reducible rfl
            rotate_left
            · simp only [Act.put, List.setIfInBounds_toArray, List.set_cons_zero, List.set_cons_succ, i64_w, i32_w]
              rfl
            refine pure_ (i := 3) (N := (some 102)) (v := ?_) (a' := ?_) #[true, true, true, true, false, false, false, false, false, false, false, false, false, false, false, false, false, false, false, false, false, false, false, false, false, false, false, false, false, false, false, false, false, false, false, false, false, false] rfl rfl (any_of HT_.out (by kernel_rfl)) (fun _ _ _ h => h) (Or.inl ⟨by rfl, ?_⟩) ?_ ?_
            rotate_left
            · intro w'
              go_simp
              with_reducible rfl
            rotate_left
            · simp only [Act.put, List.setIfInBounds_toArray, List.set_cons_zero, List.set_cons_succ, i64_w, i32_w]
              rfl
            refine pure_ (i := 4) (N := (some 103)) (v := ?_) (a' := ?_) #[true, true, true, true, true, false, false, false, false, false, false, false, false, false, false, false, false, false, false, false, false, false, false, false, false, false, false, false, false, false, false, false, false, false, false, false, false, false] rfl rfl (any_of HT_.out (by kernel_rfl)) (fun _ _ _ h => h) (Or.inl ⟨by rfl, ?_⟩) ?_ ?_
            rotate_left
            · intro w'
              go_simp
              with_reducible rfl
            rotate_left
            · simp only [Act.put, List.setIfInBounds_toArray, List.set_cons_zero, List.set_cons_succ, i64_w, i32_w]
              rfl
            refine pure_ (i := 5) (N := (some 104)) (v := ?_) (a' := ?_) #[true, true, true, true, true, true, false, false, false, false, false, false, false, false, false, false, false, false, false, false, false, false, false, false, false, false, false, false, false, false, false, false, false, false, false, false, false, false] rfl rfl (any_of HT_.out (by kernel_rfl)) (fun _ _ _ h => h) (Or.inl ⟨by rfl, ?_⟩) ?_ ?_
            rotate_left
            · intro w'
              go_simp
              with_reducible rfl
            rotate_left
            · simp only [Act.put, List.setIfInBounds_toArray, List.set_cons_zero, List.set_cons_succ, i64_w, i32_w]
              rfl
            refine take_ (i := 6) (N := (some 105)) (v := ?_) (a' := ?_) #[true, true, true, true, true, true, true, false, false, false, false, false, false, false, false, false, false, false, false, false, false, false, false, false, false, false, false, false, false, false, false, false, false, false, false, false, false, false] rfl rfl (take_ofW HT_.out HW_.out (by kernel_rfl)) (fun _ _ _ h => h) (Or.inl ⟨by rfl, ?_⟩) hHeld ?_ ?_
            rotate_left
            · intro w' s0
              (try dsimp only at s0)
              go_simp
              with_reducible rfl
            rotate_left
            · simp only [Act.put, List.setIfInBounds_toArray, List.set_cons_zero, List.set_cons_succ, i64_w, i32_w]
              rfl
            refine pure_ (i := 7) (N := (some 106)) (v := ?_) (a' := ?_) #[true, true, true, true, true, true, true, true, false, false, false, false, false, false, false, false, false, false, false, false, false, false, false, false, false, false, false, false, false, false, false, false, false, false, false, false, false, false] rfl rfl (any_of HT_.out (by kernel_rfl)) (fun _ _ _ h => h) (Or.inl ⟨by rfl, ?_⟩) ?_ ?_
            rotate_left
            · intro w'
              go_simp
              with_reducible rfl
            rotate_left
            · simp only [Act.put, List.setIfInBounds_toArray, List.set_cons_zero, List.set_cons_succ, i64_w, i32_w]
              rfl
            refine pure_ (i := 8) (N := (some 107)) (v := ?_) (a' := ?_) #[true, true, true, true, true, true, true, true, true, false, false, false, false, false, false, false, false, false, false, false, false, false, false, false, false, false, false, false, false, false, false, false, false, false, false, false, false, false] rfl rfl (any_of HT_.out (by kernel_rfl)) (fun _ _ _ h => h) (Or.inl ⟨by rfl, ?_⟩) ?_ ?_
            rotate_left
            · intro w'
              go_simp
              with_reducible rfl
            rotate_left
            · simp only [Act.put, List.setIfInBounds_toArray, List.set_cons_zero, List.set_cons_succ, i64_w, i32_w]
              rfl
            refine pure_ (i := 9) (N := (some 108)) (v := undef) (a' := ?_) #[true, true, true, true, true, true, true, true, true, true, false, false, false, false, false, false, false, false, false, false, false, false, false, false, false, false, false, false, false, false, false, false, false, false, false, false, false, false] rfl rfl (any_of HT_.out (by kernel_rfl)) (fun _ _ _ h => h) (Or.inr ⟨by rfl, rfl⟩) ?_ ?_
            rotate_left
            · simp only [Act.put, List.setIfInBounds_toArray, List.set_cons_zero, List.set_cons_succ, i64_w, i32_w]
              rfl
            refine pure_ (i := 10) (N := (some 109)) (v := undef) (a' := ?_) #[true, true, true, true, true, true, true, true, true, true, true, false, false, false, false, false, false, false, false, false, false, false, false, false, false, false, false, false, false, false, false, false, false, false, false, false, false, false] rfl rfl (any_of HT_.out (by kernel_rfl)) (fun _ _ _ h => h) (Or.inr ⟨by rfl, rfl⟩) ?_ ?_
            rotate_left
            · simp only [Act.put, List.setIfInBounds_toArray, List.set_cons_zero, List.set_cons_succ, i64_w, i32_w]
              rfl
            refine pure_ (i := 11) (N := (some 110)) (v := undef) (a' := ?_) #[true, true, true, true, true, true, true, true, true, true, true, true, false, false, false, false, false, false, false, false, false, false, false, false, false, false, false, false, false, false, false, false, false, false, false, false, false, false] rfl rfl (any_of HT_.out (by kernel_rfl)) (fun _ _ _ h => h) (Or.inr ⟨by rfl, rfl⟩) ?_ ?_
            rotate_left
            · simp only [Act.put, List.setIfInBounds_toArray, List.set_cons_zero, List.set_cons_succ, i64_w, i32_w]
              rfl
            refine pure_ (i := 12) (N := (some 111)) (v := undef) (a' := ?_) #[true, true, true, true, true, true, true, true, true, true, true, true, true, false, false, false, false, false, false, false, false, false, false, false, false, false, false, false, false, false, false, false, false, false, false, false, false, false] rfl rfl (any_of HT_.out (by kernel_rfl)) (fun _ _ _ h => h) (Or.inr ⟨by rfl, rfl⟩) ?_ ?_
            rotate_left
            · simp only [Act.put, List.setIfInBounds_toArray, List.set_cons_zero, List.set_cons_succ, i64_w, i32_w]
              rfl
            refine pure_ (i := 13) (N := (some 112)) (v := undef) (a' := ?_) #[true, true, true, true, true, true, true, true, true, true, true, true, true, true, false, false, false, false, false, false, false, false, false, false, false, false, false, false, false, false, false, false, false, false, false, false, false, false] rfl rfl (any_of HT_.out (by kernel_rfl)) (fun _ _ _ h => h) (Or.inr ⟨by rfl, rfl⟩) ?_ ?_
            rotate_left
            · simp only [Act.put, List.setIfInBounds_toArray, List.set_cons_zero, List.set_cons_succ, i64_w, i32_w]
              rfl
            refine pure_ (i := 14) (N := (some 113)) (v := undef) (a' := ?_) #[true, true, true, true, true, true, true, true, true, true, true, true, true, true, true, false, false, false, false, false, false, false, false, false, false, false, false, false, false, false, false, false, false, false, false, false, false, false] rfl rfl (any_of HT_.out (by kernel_rfl)) (fun _ _ _ h => h) (Or.inr ⟨by rfl, rfl⟩) ?_ ?_
            rotate_left
            · simp only [Act.put, List.setIfInBounds_toArray, List.set_cons_zero, List.set_cons_succ, i64_w, i32_w]
              rfl
            refine pure_ (i := 15) (N := (some 114)) (v := undef) (a' := ?_) #[true, true, true, true, true, true, true, true, true, true, true, true, true, true, true, true, false, false, false, false, false, false, false, false, false, false, false, false, false, false, false, false, false, false, false, false, false, false] rfl rfl (any_of HT_.out (by kernel_rfl)) (fun _ _ _ h => h) (Or.inr ⟨by rfl, rfl⟩) ?_ ?_
            rotate_left
            · simp only [Act.put, List.setIfInBounds_toArray, List.set_cons_zero, List.set_cons_succ, i64_w, i32_w]
              rfl
            refine pure_ (i := 16) (N := (some 115)) (v := undef) (a' := ?_) #[true, true, true, true, true, true, true, true, true, true, true, true, true, true, true, true, true, false, false, false, false, false, false, false, false, false, false, false, false, false, false, false, false, false, false, false, false, false] rfl rfl (any_of HT_.out (by kernel_rfl)) (fun _ _ _ h => h) (Or.inr ⟨by rfl, rfl⟩) ?_ ?_
            rotate_left
            · simp only [Act.put, List.setIfInBounds_toArray, List.set_cons_zero, List.set_cons_succ, i64_w, i32_w]
              rfl
            refine pure_ (i := 17) (N := (some 116)) (v := undef) (a' := ?_) #[true, true, true, true, true, true, true, true, true, true, true, true, true, true, true, true, true, true, false, false, false, false, false, false, false, false, false, false, false, false, false, false, false, false, false, false, false, false] rfl rfl (any_of HT_.out (by kernel_rfl)) (fun _ _ _ h => h) (Or.inr ⟨by rfl, rfl⟩) ?_ ?_
            rotate_left
            · simp only [Act.put, List.setIfInBounds_toArray, List.set_cons_zero, List.set_cons_succ, i64_w, i32_w]
              rfl
            refine pure_ (i := 18) (N := (some 117)) (v := undef) (a' := ?_) #[true, true, true, true, true, true, true, true, true, true, true, true, true, true, true, true, true, true, true, false, false, false, false, false, false, false, false, false, false, false, false, false, false, false, false, false, false, false] rfl rfl (any_of HT_.out (by kernel_rfl)) (fun _ _ _ h => h) (Or.inr ⟨by rfl, rfl⟩) ?_ ?_
            rotate_left
            · simp only [Act.put, List.setIfInBounds_toArray, List.set_cons_zero, List.set_cons_succ, i64_w, i32_w]
              rfl
            refine pure_ (i := 19) (N := (some 118)) (v := ?_) (a' := ?_) #[true, true, true, true, true, true, true, true, true, true, true, true, true, true, true, true, true, true, true, true, false, false, false, false, false, false, false, false, false, false, false, false, false, false, false, false, false, false] rfl rfl (any_of HT_.out (by kernel_rfl)) (fun _ _ _ h => h) (Or.inl ⟨by rfl, ?_⟩) ?_ ?_
            rotate_left
            · intro w'
              go_simp
              with_reducible rfl
            rotate_left
            · simp only [Act.put, List.setIfInBounds_toArray, List.set_cons_zero, List.set_cons_succ, i64_w, i32_w]
              rfl
            refine pure_ (i := 20) (N := (some 119)) (v := ?_) (a' := ?_) #[true, true, true, true, true, true, true, true, true, true, true, true, true, true, true, true, true, true, true, true, true, false, false, false, false, false, false, false, false, false, false, false, false, false, false, false, false, false] rfl rfl (any_of HT_.out (by kernel_rfl)) (fun _ _ _ h => h) (Or.inl ⟨by rfl, ?_⟩) ?_ ?_
            rotate_left
            · intro w'
              go_simp
              with_reducible rfl
            rotate_left
            · simp only [Act.put, List.setIfInBounds_toArray, List.set_cons_zero, List.set_cons_succ, i64_w, i32_w]
              rfl
            refine pure_ (i := 21) (N := (some 120)) (v := ?_) (a' := ?_) #[true, true, true, true, true, true, true, true, true, true, true, true, true, true, true, true, true, true, true, true, true, true, false, false, false, false, false, false, false, false, false, false, false, false, false, false, false, false] rfl rfl (any_of HT_.out (by kernel_rfl)) (fun _ _ _ h => h) (Or.inl ⟨by rfl, ?_⟩) ?_ ?_
            rotate_left
            · intro w'
              go_simp
              with_reducible rfl
            rotate_left
            · simp only [Act.put, List.setIfInBounds_toArray, List.set_cons_zero, List.set_cons_succ, i64_w, i32_w]
              rfl
            refine pure_ (i := 22) (N := (some 121)) (v := ?_) (a' := ?_) #[true, true, true, true, true, true, true, true, true, true, true, true, true, true, true, true, true, true, true, true, true, true, true, false, false, false, false, false, false, false, false, false, false, false, false, false, false, false] rfl rfl (any_of HT_.out (by kernel_rfl)) (fun _ _ _ h => h) (Or.inl ⟨by rfl, ?_⟩) ?_ ?_
            rotate_left
            · intro w'
              go_simp
              with_reducible rfl
            rotate_left
            · simp only [Act.put, List.setIfInBounds_toArray, List.set_cons_zero, List.set_cons_succ, i64_w, i32_w]
              rfl
            refine pure_ (i := 23) (N := (some 122)) (v := ?_) (a' := ?_) #[true, true, true, true, true, true, true, true, true, true, true, true, true, true, true, true, true, true, true, true, true, true, true, true, false, false, false, false, false, false, false, false, false, false, false, false, false, false] rfl rfl (any_of HT_.out (by kernel_rfl)) (fun _ _ _ h => h) (Or.inl ⟨by rfl, ?_⟩) ?_ ?_
            rotate_left
            · intro w'
              go_simp
              with_reducible rfl
            rotate_left
            · simp only [Act.put, List.setIfInBounds_toArray, List.set_cons_zero, List.set_cons_succ, i64_w, i32_w]
              rfl
            refine pure_ (i := 24) (N := (some 123)) (v := ?_) (a' := ?_) #[true, true, true, true, true, true, true, true, true, true, true, true, true, true, true, true, true, true, true, true, true, true, true, true, true, false, false, false, false, false, false, false, false, false, false, false, false, false] rfl rfl (any_of HT_.out (by kernel_rfl)) (fun _ _ _ h => h) (Or.inl ⟨by rfl, ?_⟩) ?_ ?_
            rotate_left
            · intro w'
              go_simp
              with_reducible rfl
            rotate_left
            · simp only [Act.put, List.setIfInBounds_toArray, List.set_cons_zero, List.set_cons_succ, i64_w, i32_w]
              rfl
            refine take_ (i := 25) (N := (some 124)) (v := ?_) (a' := ?_) #[true, true, true, true, true, true, true, true, true, true, true, true, true, true, true, true, true, true, true, true, true, true, true, true, true, true, false, false, false, false, false, false, false, false, false, false, false, false] rfl rfl (take_ofW HT_.out HW_.out (by kernel_rfl)) (fun _ _ _ h => h) (Or.inl ⟨by rfl, ?_⟩) hHeld ?_ ?_
            rotate_left
            · intro w' s0
              (try dsimp only at s0)
              go_simp
              with_reducible rfl
            rotate_left
            · simp only [Act.put, List.setIfInBounds_toArray, List.set_cons_zero, List.set_cons_succ, i64_w, i32_w]
              rfl
            refine pure_ (i := 26) (N := (some 125)) (v := ?_) (a' := ?_) #[true, true, true, true, true, true, true, true, true, true, true, true, true, true, true, true, true, true, true, true, true, true, true, true, true, true, true, false, false, false, false, false, false, false, false, false, false, false] rfl rfl (any_of HT_.out (by kernel_rfl)) (fun _ _ _ h => h) (Or.inl ⟨by rfl, ?_⟩) ?_ ?_
            rotate_left
            · intro w'
              go_simp
              with_reducible rfl
            rotate_left
            · simp only [Act.put, List.setIfInBounds_toArray, List.set_cons_zero, List.set_cons_succ, i64_w, i32_w]
              rfl
            refine pure_ (i := 27) (N := (some 126)) (v := ?_) (a' := ?_) #[true, true, true, true, true, true, true, true, true, true, true, true, true, true, true, true, true, true, true, true, true, true, true, true, true, true, true, true, false, false, false, false, false, false, false, false, false, false] rfl rfl (any_of HT_.out (by kernel_rfl)) (fun _ _ _ h => h) (Or.inl ⟨by rfl, ?_⟩) ?_ ?_
            rotate_left
            · intro w'
              go_simp
              with_reducible rfl
            rotate_left
            · simp only [Act.put, List.setIfInBounds_toArray, List.set_cons_zero, List.set_cons_succ, i64_w, i32_w]
              rfl
            refine pure_ (i := 28) (N := (some 127)) (v := ?_) (a' := ?_) #[true, true, true, true, true, true, true, true, true, true, true, true, true, true, true, true, true, true, true, true, true, true, true, true, true, true, true, true, true, false, false, false, false, false, false, false, false, false] rfl rfl (any_of HT_.out (by kernel_rfl)) (fun _ _ _ h => h) (Or.inl ⟨by rfl, ?_⟩) ?_ ?_
            rotate_left
            · intro w'
              go_simp
              with_reducible rfl
            rotate_left
            · simp only [Act.put, List.setIfInBounds_toArray, List.set_cons_zero, List.set_cons_succ, i64_w, i32_w]
              rfl
            refine take_ (i := 29) (N := (some 128)) (v := ?_) (a' := ?_) #[true, true, true, true, true, true, true, true, true, true, true, true, true, true, true, true, true, true, true, true, true, true, true, true, true, true, true, true, true, true, false, false, false, false, false, false, false, false] rfl rfl (take_ofW HT_.out HW_.out (by kernel_rfl)) (fun _ _ _ h => h) (Or.inl ⟨by rfl, ?_⟩) hHeld ?_ ?_
            rotate_left
            · intro w' s0
              (try dsimp only at s0)
              go_simp
              with_reducible rfl
            rotate_left
            · simp only [Act.put, List.setIfInBounds_toArray, List.set_cons_zero, List.set_cons_succ, i64_w, i32_w]
              rfl
            refine pure_ (i := 30) (N := (some 129)) (v := ?_) (a' := ?_) #[true, true, true, true, true, true, true, true, true, true, true, true, true, true, true, true, true, true, true, true, true, true, true, true, true, true, true, true, true, true, true, false, false, false, false, false, false, false] rfl rfl (any_of HT_.out (by kernel_rfl)) (fun _ _ _ h => h) (Or.inl ⟨by rfl, ?_⟩) ?_ ?_
            rotate_left
            · intro w'
              go_simp
              with_reducible rfl
            rotate_left
            · simp only [Act.put, List.setIfInBounds_toArray, List.set_cons_zero, List.set_cons_succ, i64_w, i32_w]
              rfl
            refine pure_ (i := 31) (N := (some 130)) (v := ?_) (a' := ?_) #[true, true, true, true, true, true, true, true, true, true, true, true, true, true, true, true, true, true, true, true, true, true, true, true, true, true, true, true, true, true, true, true, false, false, false, false, false, false] rfl rfl (any_of HT_.out (by kernel_rfl)) (fun _ _ _ h => h) (Or.inl ⟨by rfl, ?_⟩) ?_ ?_
            rotate_left
            · intro w'
              go_simp
              with_reducible rfl
            rotate_left
            · simp only [Act.put, List.setIfInBounds_toArray, List.set_cons_zero, List.set_cons_succ, i64_w, i32_w]
              rfl
            refine pure_ (i := 32) (N := (some 131)) (v := ?_) (a' := ?_) #[true, true, true, true, true, true, true, true, true, true, true, true, true, true, true, true, true, true, true, true, true, true, true, true, true, true, true, true, true, true, true, true, true, false, false, false, false, false] rfl rfl (any_of HT_.out (by kernel_rfl)) (fun _ _ _ h => h) (Or.inl ⟨by rfl, ?_⟩) ?_ ?_
            rotate_left
            · intro w'
              go_simp
              with_reducible rfl
            rotate_left
            · simp only [Act.put, List.setIfInBounds_toArray, List.set_cons_zero, List.set_cons_succ, i64_w, i32_w]
              rfl
            refine take_ (i := 33) (N := (some 132)) (v := ?_) (a' := ?_) #[true, true, true, true, true, true, true, true, true, true, true, true, true, true, true, true, true, true, true, true, true, true, true, true, true, true, true, true, true, true, true, true, true, true, false, false, false, false] rfl rfl (take_ofW HT_.out HW_.out (by kernel_rfl)) (fun _ _ _ h => h) (Or.inl ⟨by rfl, ?_⟩) hHeld ?_ ?_
            rotate_left
            · intro w' s0
              (try dsimp only at s0)
              go_simp
              with_reducible rfl
            rotate_left
            · simp only [Act.put, List.setIfInBounds_toArray, List.set_cons_zero, List.set_cons_succ, i64_w, i32_w]
              rfl
            refine take_ (i := 34) (N := (some 133)) (v := ?_) (a' := ?_) #[true, true, true, true, true, true, true, true, true, true, true, true, true, true, true, true, true, true, true, true, true, true, true, true, true, true, true, true, true, true, true, true, true, true, true, false, false, false] rfl rfl (take_ofW HT_.out HW_.out (by kernel_rfl)) (fun _ _ _ h => h) (Or.inl ⟨by rfl, ?_⟩) hHeld ?_ ?_
            rotate_left
            · intro w' s0
              (try dsimp only at s0)
              go_simp
              with_reducible rfl
            rotate_left
            · simp only [Act.put, List.setIfInBounds_toArray, List.set_cons_zero, List.set_cons_succ, i64_w, i32_w]
              rfl
            refine pure_ (i := 35) (N := (some 134)) (v := ?_) (a' := ?_) #[true, true, true, true, true, true, true, true, true, true, true, true, true, true, true, true, true, true, true, true, true, true, true, true, true, true, true, true, true, true, true, true, true, true, true, true, false, false] rfl rfl (any_of HT_.out (by kernel_rfl)) (fun _ _ _ h => h) (Or.inl ⟨by rfl, ?_⟩) ?_ ?_
            rotate_left
            · intro w'
              go_simp
              with_reducible rfl
            rotate_left
            · simp only [Act.put, List.setIfInBounds_toArray, List.set_cons_zero, List.set_cons_succ, i64_w, i32_w]
              rfl
            refine pure_ (i := 36) (N := (some 135)) (v := ?_) (a' := ?_) #[true, true, true, true, true, true, true, true, true, true, true, true, true, true, true, true, true, true, true, true, true, true, true, true, true, true, true, true, true, true, true, true, true, true, true, true, true, false] rfl rfl (any_of HT_.out (by kernel_rfl)) (fun _ _ _ h => h) (Or.inl ⟨by rfl, ?_⟩) ?_ ?_
            rotate_left
            · intro w'
              go_simp
              with_reducible rfl
            rotate_left
            · simp only [Act.put, List.setIfInBounds_toArray, List.set_cons_zero, List.set_cons_succ, i64_w, i32_w]
              rfl
            refine pure_ (i := 37) (N := (some 136)) (v := ?_) (a' := ?_) #[true, true, true, true, true, true, true, true, true, true, true, true, true, true, true, true, true, true, true, true, true, true, true, true, true, true, true, true, true, true, true, true, true, true, true, true, true, true] rfl rfl (any_of HT_.out (by kernel_rfl)) (fun _ _ _ h => h) (Or.inl ⟨by rfl, ?_⟩) ?_ ?_
            rotate_left
            · intro w'
              go_simp
              with_reducible rfl
            rotate_left
            · simp only [Act.put, List.setIfInBounds_toArray, List.set_cons_zero, List.set_cons_succ, i64_w, i32_w]
              rfl
            refine done_ (done_of HT_.out (by kernel_rfl)) ?_
            have HS94 := Aside0.mk (show Sep w w94 [dkT g (S.withR _), ownT KB 28 (.slice (some ⟨bw, 0, none⟩) n cw) (wf n T a b H (i + 1)).1, ownT (Kd.int .i64) 3 (.slice (some ⟨bh, 0, none⟩) n ch) H, ownT (Kd.int .i64) 3 u16 (wf n T a b H (i + 1)).2] from by
              rw [wf_zero n T a b H i HHV.out.symm]
              exact (HS93.out.step HB94.out).drop)
            have hc94 := (HK1.out _ HB94.out).1
            clear hHeld HS93 HK0 HK1 HB94 c9b0 c9b1
            go_wp2
            go_roundg (n - i - 1)
            case measure => have := HI.out; have := HI1.out; omega
            case rel => exact ⟨i + 1, (by have hi_ := HI1.out; have hl_ := hnm; first | rfl | (simp; done)), ⟨by have := HI.out; have := HI1.out; omega⟩, _, HS94⟩
        · have hib : decide (i < n) = false := decide_eq_false hi
          obtain rfl : n = i := by have := HI.out; omega
          clear hi
          have HS4 := Aside0.mk HS.out.up3.up3.drop
          have HC0 := Aside0.mk (show ∀ i, i < n → ((S.withR r).crash (wf n T a b H n).2).L.getD i [] = (wf n T a b H n).1.getD i [] from by rw [crash_withR]; exact HCR.out)
          have HN0 := Aside0.mk (show (S.withR r).n = n from HSn.out)
          have HC1 := Aside0.mk (show (S.withR r).c < 1073741824 from HSc.out)
          clear HS HCR HCUR HHB HSn HSc HHl hM3 hM4
          generalize (wf n T a b H n).2 = fs at *
          generalize (wf n T a b H n).1 = wt at *
          generalize S.withR r = s0 at *
          clear hjb hib
          go_wp2
          go_loopg [21] 2 (fun kq v21 wr => ∃ k : Nat, v21 = .int .i64 k ∧ Aside0 (k + kq = 2) ∧ ∃ s, Aside0 (Sep w wr [ownT (Kd.int .i64) 3 u16 fs, dkT g s, ownT KB 28 (.slice (some ⟨bw, 0, none⟩) n cw) wt]) ∧ Aside0 (s.n = n) ∧ Aside0 (s.c < 1073741824) ∧ Aside0 (∀ i, i < n → (s.crash fs).L.getD i [] = wt.getD i []))
          case atStart => exact ⟨0, rfl, ⟨Nat.zero_add _⟩, s0, HS4, HN0, HC1, HC0⟩
          case round =>
            clear HS4 HC0 HC1 HN0 s0
            obtain ⟨k, rfl, HK0, s, HS, HN, HC, HL⟩ := hrel
            have hk2 : k ≤ 2 := by have := HK0.out; omega
            by_cases hk : k < 2
            · have hkb : decide ((k : Int) < 2) = true := decide_eq_true (by omega)
              have HKK := Aside0.mk hk
              clear hk
              have HCRH := Aside0.mk (Sep.crash_own fs u16 HS.out HC.out)
              have HIMG := Aside0.mk (fun W (h : Sep w W (dkT g (s.crash fs) :: [ownT (Kd.int .i64) 3 u16 fs, ownT KB 28 (.slice (some ⟨bw, 0, none⟩) n cw) wt])) => (show Calls Try.prog 26 #[.pointer (some ⟨g, 0, none⟩)] W (fun e w' => ∃ go c, e = .returned (.slice (some ⟨go, 0, none⟩) n c) ∧ Sep w w' (rowsT KB 28 (.slice (some ⟨go, 0, none⟩) n c) (s.crash fs).L :: dkT g (s.crash fs) :: [ownT (Kd.int .i64) 3 u16 fs, ownT KB 28 (.slice (some ⟨bw, 0, none⟩) n cw) wt])) from by
                have h_ := Sep.image h
                rw [show (s.crash fs).n = n from HN.out] at h_
                exact h_))
              have hnn : ((n : Int) != (n : Int)) = false := bne_eq_false_iff_eq.mpr rfl
              go_wp2_with (first
                | (go_at_call 30; (with_reducible refine HCRH.out.mono ?_); rintro e w30 ⟨⟨v30, rfl⟩, h⟩; have HS30 := Aside0.mk h.up1; clear h)
                | (go_at_call 26; (with_reducible refine (HIMG.out _ HS30.out).mono ?_); rintro e w26 ⟨bi, ci, rfl, h⟩; have HS26 := Aside0.mk h.rows_own.up1; clear h))
              generalize hsc : s.crash fs = sc at *
              have hW0 : sc.W = fun _ => [] := by rw [← hsc]; rfl
              have hcn : sc.n = n := by rw [← hsc]; exact HN.out
              have hcl : sc.L.length = n := by
                have h_ := HS26.out.dk_lasts.1
                rw [hcn] at h_
                exact h_
              have HW0 := Aside0.mk hW0
              have HCN := Aside0.mk hcn
              have HCL := Aside0.mk hcl
              have HCC := Aside0.mk (show sc.c = 0 from by rw [← hsc]; rfl)
              clear hsc hW0 hcn hcl HCRH HIMG HS HN HC HS30
              go_loopg [23] n (fun kq v23 wr => ∃ i : Nat, v23 = .int .i64 i ∧ Aside0 (i + kq = n) ∧ ∃ r, Aside0 (Sep w wr [dkT g (sc.withR r), ownT KB 28 (.slice (some ⟨bi, 0, none⟩) n ci) sc.L, ownT (Kd.int .i64) 3 u16 fs, ownT KB 28 (.slice (some ⟨bw, 0, none⟩) n cw) wt]))
              case atStart => exact ⟨0, rfl, ⟨Nat.zero_add _⟩, sc.r, HS26⟩
              case round =>
                clear HS26
                obtain ⟨i, rfl, HI, r, HS⟩ := hrel
                rename World => wq
                by_cases hi : i < n
                · have hib : decide (i < n) = true := decide_eq_true hi
                  have hi0 : (0 : Int) ≤ (i : Int) := by omega
                  have hi1 : (i : Int) < (n : Int) := by omega
                  have HI1 := Aside0.mk hi
                  have hcu : (sc.withR r).cur i = sc.L.getD i [] := by
                    have h_ : (sc.withR r).W i = [] := by show sc.W i = []; rw [HW0.out]
                    rw [cur_nil h_]; rfl
                  have HRD := Aside0.mk (Sep.read HS.out i (by show i < sc.n; rw [HCN.out]; exact hi))
                  rw [hcu] at HRD
                  clear hi hcu
                  go_upto_region 43 with (go_at_call 25; (with_reducible refine HRD.out.mono ?_); rintro e w42 ⟨v42, rfl, h⟩; have HS42 := Aside0.mk h; clear h)
                  clear HRD HS
                  have hti := HL.out i HI1.out
                  obtain ⟨t, ht⟩ : ∃ x, x = sc.L.getD i [] := ⟨_, rfl⟩
                  obtain ⟨Aw, cw_, hw1, _, hw2, _⟩ := HS42.out.up4.slot i HI1.out
                  obtain ⟨Ai, ci_, hi1_, _, hi2_, _⟩ := HS42.out.up2.slot i HI1.out
                  rw [← hti, ← ht] at hw1 hw2
                  rw [← ht] at hi1_ hi2_ HS42
                  have HK := Aside0.mk (fun W (hW : Below w42.heap.size w42 W) => (show (convert 28 9 v42).run Try.prog W = .ok (.string (strOfNums t)) W ∧ (W.cell? ⟨bw, i, none⟩ = some (.slice Aw t.length cw_) ∧ (convert 28 9 (.slice Aw t.length cw_)).run Try.prog W = .ok (.string (strOfNums t)) W) ∧ (W.cell? ⟨bi, i, none⟩ = some (.slice Ai t.length ci_) ∧ (convert 28 9 (.slice Ai t.length ci_)).run Try.prog W = .ok (.string (strOfNums t)) W) from by
                    obtain ⟨_, _, hr_⟩ := (HS42.out.step hW).own
                    exact ⟨own_string (P := Try.prog) Try.underlying28 Try.underlying5 Try.underlying9 (Kd.own_of_R hr_), ⟨(hW.cell (World.block_lt_of_cell? w42 _ hw1)).trans hw1, Kd.C_string (P := Try.prog) (A := Aw) (c := cw_) Try.underlying28 Try.underlying5 Try.underlying9 (Kd.C_below hw2 hW)⟩, (hW.cell (World.block_lt_of_cell? w42 _ hi1_)).trans hi1_, Kd.C_string (P := Try.prog) (A := Ai) (c := ci_) Try.underlying28 Try.underlying5 Try.underlying9 (Kd.C_below hi2_ hW)⟩))
                  have HB43 := Aside0.mk (below_drew1 (Below.refl w42.heap.size w42))
                  have c9b0 : ((strOfNums t).toList == (strOfNums t).toList) = true := beq_iff_eq.mpr rfl
                  have c9b1 : ((strOfNums t).toList != (strOfNums t).toList) = false := bne_eq_false_iff_eq.mpr rfl
                  clear hw1 hw2 hi1_ hi2_ hti ht
                  refine start_ (n := 25) (S := fun W => (convert 28 9 v42).run Try.prog W = .ok (.string (strOfNums t)) W ∧ (W.cell? ⟨bw, i, none⟩ = some (.slice Aw t.length cw_) ∧ (convert 28 9 (.slice Aw t.length cw_)).run Try.prog W = .ok (.string (strOfNums t)) W) ∧ (W.cell? ⟨bi, i, none⟩ = some (.slice Ai t.length ci_) ∧ (convert 28 9 (.slice Ai t.length ci_)).run Try.prog W = .ok (.string (strOfNums t)) W)) (ds := []) #[false, false, false, false, false, false, false, false, false, false, false, false, false, false, false, false, false, false, false, false, false, false, false, false, false] (by kernel_rfl) rfl rfl (HK.out _ HB43.out) (fun hHeld => ?_); refine with_tabW great43_tab great43_bits (fun HT_ HW_ => ?_)
                  generalize w42.drew = w43 at hHeld HB43 ⊢
                  refine pure_ (i := 0) (N := (some 202)) (v := ?_) (a' := ?_) #[true, false, false, false, false, false, false, false, false, false, false, false, false, false, false, false, false, false, false, false, false, false, false, false, false] rfl rfl (any_of HT_.out (by kernel_rfl)) (fun _ _ _ h => h) (Or.inl ⟨by rfl, ?_⟩) ?_ ?_
                  rotate_left
                  · intro w'
                    go_simp
                    with_reducible rfl
                  rotate_left
                  · simp only [Act.put, List.setIfInBounds_toArray, List.set_cons_zero, List.set_cons_succ, i64_w, i32_w]
                    rfl
                  refine pure_ (i := 1) (N := (some 203)) (v := ?_) (a' := ?_) #[true, true, false, false, false, false, false, false, false, false, false, false, false, false, false, false, false, false, false, false, false, false, false, false, false] rfl rfl (any_of HT_.out (by kernel_rfl)) (fun _ _ _ h => h) (Or.inl ⟨by rfl, ?_⟩) ?_ ?_
                  rotate_left
                  · intro w'
                    go_simp
                    with_reducible rfl
                  rotate_left
                  · simp only [Act.put, List.setIfInBounds_toArray, List.set_cons_zero, List.set_cons_succ, i64_w, i32_w]
                    rfl
                  refine pure_ (i := 2) (N := (some 204)) (v := ?_) (a' := ?_) #[true, true, true, false, false, false, false, false, false, false, false, false, false, false, false, false, false, false, false, false, false, false, false, false, false] rfl rfl (any_of HT_.out (by kernel_rfl)) (fun _ _ _ h => h) (Or.inl ⟨by rfl, ?_⟩) ?_ ?_
                  rotate_left
                  · intro w'
                    go_simp
                    with_reducible rfl
                  rotate_left
                  · simp only [Act.put, List.setIfInBounds_toArray, List.set_cons_zero, List.set_cons_succ, i64_w, i32_w]
                    rfl
                  refine pure_ (i := 3) (N := (some 205)) (v := ?_) (a' := ?_) #[true, true, true, true, false, false, false, false, false, false, false, false, false, false, false, false, false, false, false, false, false, false, false, false, false] rfl rfl (any_of HT_.out (by kernel_rfl)) (fun _ _ _ h => h) (Or.inl ⟨by rfl, ?_⟩) ?_ ?_
                  rotate_left
                  · intro w'
                    go_simp
                    with_reducible rfl
                  rotate_left
                  · simp only [Act.put, List.setIfInBounds_toArray, List.set_cons_zero, List.set_cons_succ, i64_w, i32_w]
                    rfl
                  refine take_ (i := 4) (N := (some 206)) (v := ?_) (a' := ?_) #[true, true, true, true, true, false, false, false, false, false, false, false, false, false, false, false, false, false, false, false, false, false, false, false, false] rfl rfl (take_ofW HT_.out HW_.out (by kernel_rfl)) (fun _ _ _ h => h) (Or.inl ⟨by rfl, ?_⟩) hHeld ?_ ?_
                  rotate_left
                  · intro w' s0
                    (try dsimp only at s0)
                    go_simp
                    with_reducible rfl
                  rotate_left
                  · simp only [Act.put, List.setIfInBounds_toArray, List.set_cons_zero, List.set_cons_succ, i64_w, i32_w]
                    rfl
                  refine pure_ (i := 5) (N := (some 207)) (v := ?_) (a' := ?_) #[true, true, true, true, true, true, false, false, false, false, false, false, false, false, false, false, false, false, false, false, false, false, false, false, false] rfl rfl (any_of HT_.out (by kernel_rfl)) (fun _ _ _ h => h) (Or.inl ⟨by rfl, ?_⟩) ?_ ?_
                  rotate_left
                  · intro w'
                    go_simp
                    with_reducible rfl
                  rotate_left
                  · simp only [Act.put, List.setIfInBounds_toArray, List.set_cons_zero, List.set_cons_succ, i64_w, i32_w]
                    rfl
                  refine pure_ (i := 6) (N := (some 208)) (v := ?_) (a' := ?_) #[true, true, true, true, true, true, true, false, false, false, false, false, false, false, false, false, false, false, false, false, false, false, false, false, false] rfl rfl (any_of HT_.out (by kernel_rfl)) (fun _ _ _ h => h) (Or.inl ⟨by rfl, ?_⟩) ?_ ?_
                  rotate_left
                  · intro w'
                    go_simp
                    with_reducible rfl
                  rotate_left
                  · simp only [Act.put, List.setIfInBounds_toArray, List.set_cons_zero, List.set_cons_succ, i64_w, i32_w]
                    rfl
                  refine pure_ (i := 7) (N := (some 209)) (v := ?_) (a' := ?_) #[true, true, true, true, true, true, true, true, false, false, false, false, false, false, false, false, false, false, false, false, false, false, false, false, false] rfl rfl (any_of HT_.out (by kernel_rfl)) (fun _ _ _ h => h) (Or.inl ⟨by rfl, ?_⟩) ?_ ?_
                  rotate_left
                  · intro w'
                    go_simp
                    with_reducible rfl
                  rotate_left
                  · simp only [Act.put, List.setIfInBounds_toArray, List.set_cons_zero, List.set_cons_succ, i64_w, i32_w]
                    rfl
                  refine take_ (i := 8) (N := (some 210)) (v := ?_) (a' := ?_) #[true, true, true, true, true, true, true, true, true, false, false, false, false, false, false, false, false, false, false, false, false, false, false, false, false] rfl rfl (take_ofW HT_.out HW_.out (by kernel_rfl)) (fun _ _ _ h => h) (Or.inl ⟨by rfl, ?_⟩) hHeld ?_ ?_
                  rotate_left
                  · intro w' s0
                    (try dsimp only at s0)
                    go_simp
                    with_reducible rfl
                  rotate_left
                  · simp only [Act.put, List.setIfInBounds_toArray, List.set_cons_zero, List.set_cons_succ, i64_w, i32_w]
                    rfl
                  refine take_ (i := 9) (N := (some 211)) (v := ?_) (a' := ?_) #[true, true, true, true, true, true, true, true, true, true, false, false, false, false, false, false, false, false, false, false, false, false, false, false, false] rfl rfl (take_ofW HT_.out HW_.out (by kernel_rfl)) (fun _ _ _ h => h) (Or.inl ⟨by rfl, ?_⟩) hHeld ?_ ?_
                  rotate_left
                  · intro w' s0
                    (try dsimp only at s0)
                    go_simp
                    with_reducible rfl
                  rotate_left
                  · simp only [Act.put, List.setIfInBounds_toArray, List.set_cons_zero, List.set_cons_succ, i64_w, i32_w]
                    rfl
                  refine pure_ (i := 10) (N := (some 212)) (v := ?_) (a' := ?_) #[true, true, true, true, true, true, true, true, true, true, true, false, false, false, false, false, false, false, false, false, false, false, false, false, false] rfl rfl (any_of HT_.out (by kernel_rfl)) (fun _ _ _ h => h) (Or.inl ⟨by rfl, ?_⟩) ?_ ?_
                  rotate_left
                  · intro w'
                    go_simp
                    with_reducible rfl
                  rotate_left
                  · simp only [Act.put, List.setIfInBounds_toArray, List.set_cons_zero, List.set_cons_succ, i64_w, i32_w]
                    rfl
                  refine pure_ (i := 11) (N := (some 213)) (v := ?_) (a' := ?_) #[true, true, true, true, true, true, true, true, true, true, true, true, false, false, false, false, false, false, false, false, false, false, false, false, false] rfl rfl (any_of HT_.out (by kernel_rfl)) (fun _ _ _ h => h) (Or.inl ⟨by rfl, ?_⟩) ?_ ?_
                  rotate_left
                  · intro w'
                    go_simp
                    with_reducible rfl
                  rotate_left
                  · simp only [Act.put, List.setIfInBounds_toArray, List.set_cons_zero, List.set_cons_succ, i64_w, i32_w]
                    rfl
                  refine pure_ (i := 12) (N := (some 214)) (v := ?_) (a' := ?_) #[true, true, true, true, true, true, true, true, true, true, true, true, true, false, false, false, false, false, false, false, false, false, false, false, false] rfl rfl (any_of HT_.out (by kernel_rfl)) (fun _ _ _ h => h) (Or.inl ⟨by rfl, ?_⟩) ?_ ?_
                  rotate_left
                  · intro w'
                    go_simp
                    with_reducible rfl
                  rotate_left
                  · simp only [Act.put, List.setIfInBounds_toArray, List.set_cons_zero, List.set_cons_succ, i64_w, i32_w]
                    rfl
                  refine pure_ (i := 13) (N := (some 215)) (v := ?_) (a' := ?_) #[true, true, true, true, true, true, true, true, true, true, true, true, true, true, false, false, false, false, false, false, false, false, false, false, false] rfl rfl (any_of HT_.out (by kernel_rfl)) (fun _ _ _ h => h) (Or.inl ⟨by rfl, ?_⟩) ?_ ?_
                  rotate_left
                  · intro w'
                    go_simp
                    with_reducible rfl
                  rotate_left
                  · simp only [Act.put, List.setIfInBounds_toArray, List.set_cons_zero, List.set_cons_succ, i64_w, i32_w]
                    rfl
                  refine pure_ (i := 14) (N := (some 216)) (v := ?_) (a' := ?_) #[true, true, true, true, true, true, true, true, true, true, true, true, true, true, true, false, false, false, false, false, false, false, false, false, false] rfl rfl (any_of HT_.out (by kernel_rfl)) (fun _ _ _ h => h) (Or.inl ⟨by rfl, ?_⟩) ?_ ?_
                  rotate_left
                  · intro w'
                    go_simp
                    with_reducible rfl
                  rotate_left
                  · simp only [Act.put, List.setIfInBounds_toArray, List.set_cons_zero, List.set_cons_succ, i64_w, i32_w]
                    rfl
                  refine pure_ (i := 15) (N := (some 217)) (v := ?_) (a' := ?_) #[true, true, true, true, true, true, true, true, true, true, true, true, true, true, true, true, false, false, false, false, false, false, false, false, false] rfl rfl (any_of HT_.out (by kernel_rfl)) (fun _ _ _ h => h) (Or.inl ⟨by rfl, ?_⟩) ?_ ?_
                  rotate_left
                  · intro w'
                    go_simp
                    with_reducible rfl
                  rotate_left
                  · simp only [Act.put, List.setIfInBounds_toArray, List.set_cons_zero, List.set_cons_succ, i64_w, i32_w]
                    rfl
                  refine take_ (i := 16) (N := (some 218)) (v := ?_) (a' := ?_) #[true, true, true, true, true, true, true, true, true, true, true, true, true, true, true, true, true, false, false, false, false, false, false, false, false] rfl rfl (take_ofW HT_.out HW_.out (by kernel_rfl)) (fun _ _ _ h => h) (Or.inl ⟨by rfl, ?_⟩) hHeld ?_ ?_
                  rotate_left
                  · intro w' s0
                    (try dsimp only at s0)
                    go_simp
                    with_reducible rfl
                  rotate_left
                  · simp only [Act.put, List.setIfInBounds_toArray, List.set_cons_zero, List.set_cons_succ, i64_w, i32_w]
                    rfl
                  refine take_ (i := 17) (N := (some 219)) (v := ?_) (a' := ?_) #[true, true, true, true, true, true, true, true, true, true, true, true, true, true, true, true, true, true, false, false, false, false, false, false, false] rfl rfl (take_ofW HT_.out HW_.out (by kernel_rfl)) (fun _ _ _ h => h) (Or.inl ⟨by rfl, ?_⟩) hHeld ?_ ?_
                  rotate_left
                  · intro w' s0
                    (try dsimp only at s0)
                    go_simp
                    with_reducible rfl
                  rotate_left
                  · simp only [Act.put, List.setIfInBounds_toArray, List.set_cons_zero, List.set_cons_succ, i64_w, i32_w]
                    rfl
                  refine pure_ (i := 18) (N := (some 220)) (v := ?_) (a' := ?_) #[true, true, true, true, true, true, true, true, true, true, true, true, true, true, true, true, true, true, true, false, false, false, false, false, false] rfl rfl (any_of HT_.out (by kernel_rfl)) (fun _ _ _ h => h) (Or.inl ⟨by rfl, ?_⟩) ?_ ?_
                  rotate_left
                  · intro w'
                    go_simp
                    with_reducible rfl
                  rotate_left
                  · simp only [Act.put, List.setIfInBounds_toArray, List.set_cons_zero, List.set_cons_succ, i64_w, i32_w]
                    rfl
                  refine pure_ (i := 19) (N := (some 221)) (v := ?_) (a' := ?_) #[true, true, true, true, true, true, true, true, true, true, true, true, true, true, true, true, true, true, true, true, false, false, false, false, false] rfl rfl (any_of HT_.out (by kernel_rfl)) (fun _ _ _ h => h) (Or.inl ⟨by rfl, ?_⟩) ?_ ?_
                  rotate_left
                  · intro w'
                    go_simp
                    with_reducible rfl
                  rotate_left
                  · simp only [Act.put, List.setIfInBounds_toArray, List.set_cons_zero, List.set_cons_succ, i64_w, i32_w]
                    rfl
                  refine pure_ (i := 20) (N := (some 222)) (v := ?_) (a' := ?_) #[true, true, true, true, true, true, true, true, true, true, true, true, true, true, true, true, true, true, true, true, true, false, false, false, false] rfl rfl (any_of HT_.out (by kernel_rfl)) (fun _ _ _ h => h) (Or.inl ⟨by rfl, ?_⟩) ?_ ?_
                  rotate_left
                  · intro w'
                    go_simp
                    with_reducible rfl
                  rotate_left
                  · simp only [Act.put, List.setIfInBounds_toArray, List.set_cons_zero, List.set_cons_succ, i64_w, i32_w]
                    rfl
                  refine take_ (i := 21) (N := (some 223)) (v := ?_) (a' := ?_) #[true, true, true, true, true, true, true, true, true, true, true, true, true, true, true, true, true, true, true, true, true, true, false, false, false] rfl rfl (take_ofW HT_.out HW_.out (by kernel_rfl)) (fun _ _ _ h => h) (Or.inl ⟨by rfl, ?_⟩) hHeld ?_ ?_
                  rotate_left
                  · intro w' s0
                    (try dsimp only at s0)
                    go_simp
                    with_reducible rfl
                  rotate_left
                  · simp only [Act.put, List.setIfInBounds_toArray, List.set_cons_zero, List.set_cons_succ, i64_w, i32_w]
                    rfl
                  refine take_ (i := 22) (N := (some 224)) (v := ?_) (a' := ?_) #[true, true, true, true, true, true, true, true, true, true, true, true, true, true, true, true, true, true, true, true, true, true, true, false, false] rfl rfl (take_ofW HT_.out HW_.out (by kernel_rfl)) (fun _ _ _ h => h) (Or.inl ⟨by rfl, ?_⟩) hHeld ?_ ?_
                  rotate_left
                  · intro w' s0
                    (try dsimp only at s0)
                    go_simp
                    with_reducible rfl
                  rotate_left
                  · simp only [Act.put, List.setIfInBounds_toArray, List.set_cons_zero, List.set_cons_succ, i64_w, i32_w]
                    rfl
                  refine pure_ (i := 23) (N := (some 225)) (v := ?_) (a' := ?_) #[true, true, true, true, true, true, true, true, true, true, true, true, true, true, true, true, true, true, true, true, true, true, true, true, false] rfl rfl (any_of HT_.out (by kernel_rfl)) (fun _ _ _ h => h) (Or.inl ⟨by rfl, ?_⟩) ?_ ?_
                  rotate_left
                  · intro w'
                    go_simp
                    with_reducible rfl
                  rotate_left
                  · simp only [Act.put, List.setIfInBounds_toArray, List.set_cons_zero, List.set_cons_succ, i64_w, i32_w]
                    rfl
                  refine pure_ (i := 24) (N := (some 226)) (v := ?_) (a' := ?_) #[true, true, true, true, true, true, true, true, true, true, true, true, true, true, true, true, true, true, true, true, true, true, true, true, true] rfl rfl (any_of HT_.out (by kernel_rfl)) (fun _ _ _ h => h) (Or.inl ⟨by rfl, ?_⟩) ?_ ?_
                  rotate_left
                  · intro w'
                    go_simp
                    with_reducible rfl
                  rotate_left
                  · simp only [Act.put, List.setIfInBounds_toArray, List.set_cons_zero, List.set_cons_succ, i64_w, i32_w]
                    rfl
                  refine done_ (done_of HT_.out (by kernel_rfl)) ?_
                  have HSe := Aside0.mk (HS42.out.step HB43.out).drop
                  clear hHeld HK HB43 HS42 c9b0 c9b1
                  go_wp2
                  go_roundg (n - i - 1)
                  case measure => have := HI.out; have := HI1.out; omega
                  case rel => exact ⟨i + 1, (by have hi_ := HI1.out; have hl_ := hnm; first | rfl | (simp; done)), ⟨by have := HI.out; have := HI1.out; omega⟩, _, HSe⟩
                · have hib : decide (i < n) = false := decide_eq_false hi
                  clear hi
                  go_wp2
                  go_roundg (2 - k - 1)
                  case measure => have := HK0.out; have := HKK.out; omega
                  case rel => exact ⟨k + 1, (by have hi_ := HKK.out; first | rfl | (simp; done)), ⟨by have := HK0.out; have := HKK.out; omega⟩, sc.withR r, ⟨HS.out.up1.drop.up1⟩, HCN, ⟨by show sc.c < _; rw [HCC.out]; decide⟩, ⟨fun i hi => by rw [crash_none _ _ (show (sc.withR r).W = fun _ => [] from HW0.out)]; exact HL.out i hi⟩⟩
            · have hkb : decide ((k : Int) < 2) = false := decide_eq_false (by omega)
              go_wp2
              go_ret
              exact ⟨rfl, HS.out.below⟩
end Go.Proofs.Ytddnhcnkjcdfgaa.M
