-- DiskTurns: the walk
import Derived.Test.YtddnhcnkjcdfgaaFa
import Derived.Test.YtddnhcnkjcdfgaaRo
namespace Go.Proofs.Ytddnhcnkjcdfgaa.M
open Go.RowKit Go.Maps Go.Proofs.YtddnhcnkjcdfgaaW.PrintWords Go.Proofs.YtddnhcnkjcdfgaaW.PrintLast Go.Proofs.YtddnhcnkjcdfgaaW.PrintMore
open Go.Proofs.Ytddnhcnkjcdfgaa.P
set_option linter.unusedVariables false
set_option linter.unusedSimpArgs false
/-- The disk behind all writes. -/
def tZ (n : Nat) (o1 o2 : List S30) : DS := puts (puts (DS.fresh n (List.replicate n zeros)) o1 o1.length).flush o2 o2.length
theorem tZ_n (n : Nat) (o1 o2 : List S30) : (tZ n o1 o2).n = n := by
  unfold tZ
  rw [puts_n]
  show (puts _ o1 o1.length).n = n
  rw [puts_n]
  rfl
theorem tZ_c (n : Nat) (o1 o2 : List S30) : (tZ n o1 o2).c = o2.length := by
  unfold tZ
  rw [puts_c]
  show 0 + _ = _
  omega
def tst (n : Nat) (o1 o2 : List S30) (x k : Nat) : DS := if x < k then tZ n o1 o2 else DS.fresh n (List.replicate n zeros)
/-- The three disks behind k rounds, and what else lies there. -/
def tL (n : Nat) (o1 o2 : List S30) (g0 g1 g2 ba : Nat) (B1 : Option Addr) (d1 : Nat) (B2 : Option Addr) (d2 k : Nat) : List Th :=
  [dkT g0 (tst n o1 o2 0 k), dkT g1 (tst n o1 o2 1 k), dkT g2 (tst n o1 o2 2 k), cellsT ba #[.pointer (some ⟨g0, 0, none⟩), .pointer (some ⟨g1, 0, none⟩), .pointer (some ⟨g2, 0, none⟩)] 23, rowsT k30 30 (.slice B1 o1.length d1) o1, rowsT k30 30 (.slice B2 o2.length d2) o2]
theorem tL_at (w : World) (n : Nat) (o1 o2 : List S30) (g0 g1 g2 ba : Nat) (B1 : Option Addr) (d1 : Nat) (B2 : Option Addr) (d2 k : Nat) (hk : k < 3) :
    ∃ gq R, (#[Value.pointer (some ⟨g0, 0, none⟩), .pointer (some ⟨g1, 0, none⟩), .pointer (some ⟨g2, 0, none⟩)][k]? = some (.pointer (some ⟨gq, 0, none⟩))) ∧
    (∀ W, Sep w W (tL n o1 o2 g0 g1 g2 ba B1 d1 B2 d2 k) → Sep w W (dkT gq (DS.fresh n (List.replicate n zeros)) :: rowsT k30 30 (.slice B1 o1.length d1) o1 :: rowsT k30 30 (.slice B2 o2.length d2) o2 :: cellsT ba #[.pointer (some ⟨g0, 0, none⟩), .pointer (some ⟨g1, 0, none⟩), .pointer (some ⟨g2, 0, none⟩)] 23 :: R)) ∧
    (∀ W, Sep w W (dkT gq (tZ n o1 o2) :: rowsT k30 30 (.slice B1 o1.length d1) o1 :: rowsT k30 30 (.slice B2 o2.length d2) o2 :: cellsT ba #[.pointer (some ⟨g0, 0, none⟩), .pointer (some ⟨g1, 0, none⟩), .pointer (some ⟨g2, 0, none⟩)] 23 :: R) → Sep w W (tL n o1 o2 g0 g1 g2 ba B1 d1 B2 d2 (k + 1))) := by
  rcases k with _ | _ | _ | k
  · exact ⟨g0, [dkT g1 (tst n o1 o2 1 0), dkT g2 (tst n o1 o2 2 0)], rfl, fun W h => h.sel 6 [0, 4, 5, 3, 1, 2] _ rfl (by decide) rfl, fun W h => h.sel 6 [0, 4, 5, 3, 1, 2] _ rfl (by decide) rfl⟩
  · exact ⟨g1, [dkT g0 (tst n o1 o2 0 1), dkT g2 (tst n o1 o2 2 1)], rfl, fun W h => h.sel 6 [1, 4, 5, 3, 0, 2] _ rfl (by decide) rfl, fun W h => h.sel 6 [4, 0, 5, 3, 1, 2] _ rfl (by decide) rfl⟩
  · exact ⟨g2, [dkT g0 (tst n o1 o2 0 2), dkT g1 (tst n o1 o2 1 2)], rfl, fun W h => h.sel 6 [2, 4, 5, 3, 0, 1] _ rfl (by decide) rfl, fun W h => h.sel 6 [4, 5, 0, 3, 1, 2] _ rfl (by decide) rfl⟩
  · omega
theorem blk_cell_at {w : World} {g t : Nat} {cs : Array Value} (h : w.heap[g]? = some (.cells cs t (0, 0))) (j : Nat) (hj : j < cs.size) : w.cell? ⟨g, j, none⟩ = cs[j]? := by
  exact blk_cell h j
def turns13_T : Bool × List (List Nat × List Nat) := (true, [([], []), ([], []), ([0, 1], [0, 1]), ([2], [2]), ([], []), ([], []), ([4, 5], [4, 5]), ([6], [6]), ([7], [7]), ([], []), ([], []), ([9, 10], [9, 10]), ([11], [11]), ([12], [12]), ([3, 8, 13], [3, 8, 13])])
def turns13_B : List Nat := [0, 0, 3, 7, 0, 0, 48, 112, 240, 0, 0, 1536, 3584, 7680, 16383]
theorem turns13_tab : rtab .any (opsOf Try.f10 13) = turns13_T := by kernel_rfl
theorem turns13_bits : waitsOk turns13_T.2 turns13_B = true := by kernel_rfl
def turns18_T : Bool × List (List Nat × List Nat) := (true, [([], []), ([], []), ([0, 1], [0, 1]), ([2], [2]), ([], []), ([], []), ([4, 5], [4, 5]), ([6], [6]), ([7], [7]), ([], []), ([], []), ([9, 10], [9, 10]), ([11], [11]), ([12], [12]), ([3, 8, 13], [3, 8, 13])])
def turns18_B : List Nat := [0, 0, 3, 7, 0, 0, 48, 112, 240, 0, 0, 1536, 3584, 7680, 16383]
theorem turns18_tab : rtab .any (opsOf Try.f10 18) = turns18_T := by kernel_rfl
theorem turns18_bits : waitsOk turns18_T.2 turns18_B = true := by kernel_rfl
def turns31_T : Bool × List (List Nat × List Nat) := (true, [([], []), ([0], [0]), ([1], [1]), ([2], [2]), ([3, 2], [2, 3]), ([2], [2]), ([4, 5, 2], [2, 4, 5]), ([2, 6], [2, 6]), ([7, 2], [7]), ([8], [8]), ([8], [8]), ([8], [8]), ([9, 10, 11, 8, 8], [8, 9, 10, 11]), ([12, 8], [8, 12]), ([8, 13], [8, 13]), ([14, 12], [14]), ([15], [15]), ([16, 15, 15], [15, 16]), ([15], [15]), ([17, 18, 15], [15, 17, 18]), ([15, 19], [15, 19])])
def turns31_B : List Nat := [0, 1, 3, 7, 15, 7, 63, 127, 255, 511, 511, 511, 4095, 8191, 16383, 32767, 65535, 131071, 65535, 524287, 1048575]
theorem turns31_tab : rtab .any (opsOf Try.f10 31) = turns31_T := by kernel_rfl
theorem turns31_bits : waitsOk turns31_T.2 turns31_B = true := by kernel_rfl
def turns35_T : Bool × List (List Nat × List Nat) := (true, [([], []), ([0], [0]), ([1], [1]), ([2], [2]), ([2], [2]), ([2], [2]), ([3, 4, 5, 2, 2], [2, 3, 4, 5]), ([6, 2], [2, 6]), ([2, 7], [2, 7]), ([8, 6], [8]), ([9], [9]), ([10, 9], [9, 10]), ([9], [9]), ([11, 12, 9], [9, 11, 12]), ([9, 13], [9, 13]), ([14, 9], [14]), ([15], [15]), ([15], [15]), ([16, 17, 15], [15, 16, 17]), ([18, 15], [15, 18]), ([15], [15]), ([15], [15]), ([20, 21, 15], [15, 20, 21]), ([22, 15], [15, 22]), ([15], [15]), ([19, 23, 24, 15, 15], [15, 19, 23, 24]), ([25, 15], [15, 25]), ([15, 26], [15, 26])])
def turns35_B : List Nat := [0, 1, 3, 7, 7, 7, 63, 127, 255, 511, 1023, 2047, 1023, 8191, 16383, 32767, 65535, 65535, 262143, 524287, 65535, 65535, 3211263, 7405567, 65535, 33554431, 67108863, 134217727]
theorem turns35_tab : rtab .any (opsOf Try.f10 35) = turns35_T := by kernel_rfl
theorem turns35_bits : waitsOk turns35_T.2 turns35_B = true := by kernel_rfl
def turns40_T : Bool × List (List Nat × List Nat) := (true, [([], []), ([], []), ([0, 1], [0, 1]), ([2], [2]), ([3], [3]), ([3], [3]), ([4, 5, 3], [3, 4, 5]), ([6, 3], [3, 6]), ([7, 3], [3, 7]), ([3], [3]), ([3], [3]), ([9, 10, 3], [3, 9, 10]), ([11, 3], [3, 11]), ([12, 3], [3, 12]), ([8, 13, 3], [3, 8, 13]), ([3, 14], [3, 14])])
def turns40_B : List Nat := [0, 0, 3, 7, 15, 15, 63, 127, 255, 15, 15, 1551, 3599, 7695, 16383, 32767]
theorem turns40_tab : rtab .any (opsOf Try.f10 40) = turns40_T := by kernel_rfl
theorem turns40_bits : waitsOk turns40_T.2 turns40_B = true := by kernel_rfl
set_option maxHeartbeats 8000000 in
set_option maxRecDepth 100000 in
theorem turns_calls (k1 k2 k3 : Nat) (a0 : Int) (A1 : Option Addr) (c1 : Nat) (l1 : List S30) (A2 : Option Addr) (c2 : Nat) (l2 : List S30) (a3 a4 : Int) (A5 : Option Addr) (c5 : Nat) (fs : List Int) (w : World)
    (hr1 : Kd.C k30 w A1 l1.length l1) (hc1 : l1.length ≤ c1) (hr2 : Kd.C k30 w A2 l2.length l2) (hc2 : l2.length ≤ c2) (hr5 : Kd.C (Kd.int .i64) w A5 fs.length fs) (hc5 : fs.length ≤ c5)
    (n : Nat) (o1 o2 : List S30) (h1 : kilnlaw3_made.f k1 a0 l1 = some (0, (n : Int), o1)) (h2 : kilnlaw3_made.f k2 a0 l2 = some (0, (n : Int), o2)) (h3 : kilnlaw3_made.f k3 a0 [] = some (0, (n : Int), [])) (hn2 : 2 ≤ n) (hnm : n ≤ 64) (hl1 : o1.length ≤ 100) (hl2 : o2.length ≤ 100) (hg1 : Good n o1) (hg2 : Good n o2)
    (i bit : Nat) (hi : i < n) (hbit : bit < 4096) (hm3 : kilnlaw3_mod.f a3 (n : Int) = some (i : Int)) (hm4 : kilnlaw3_mod.f a4 4096 = some (bit : Int))
    (ho2 : ∃ k, R.kilnlaw3_other.f k ((tZ n o1 o2).cur i) (((tZ n o1 o2).reads.turn i bit).cur i) (bit : Int) = some true)
    (ho3 : ∃ k, R.kilnlaw3_other.f k ((tZ n o1 o2).L.getD i []) (((tZ n o1 o2).reads.turn i bit).L.getD i []) (bit : Int) = some true)
    (hsm : ∀ j, j < n → j ≠ i → ((tZ n o1 o2).reads.turn i bit).L.getD j [] = (tZ n o1 o2).L.getD j [])
    (hbk : (strOfNums ((((tZ n o1 o2).reads.turn i bit).reads.turn i bit).cur i)).toList = (strOfNums ((tZ n o1 o2).cur i)).toList)
    (hsi : ∃ k, R.kilnref3_SameImage.f k (((tZ n o1 o2).reads.turn i bit).reads.turn i bit).L (tZ n o1 o2).L = some true)
    (ho1 : ∃ k, R.kilnlaw3_other.f k ((((tZ n o1 o2).turn i bit).crash fs).cur i) (((tZ n o1 o2).crash fs).cur i) (bit : Int) = some true) :
    Calls Try.prog 10 #[.int .i64 a0, .slice A1 l1.length c1, .slice A2 l2.length c2, .int .i64 a3, .int .i64 a4, .slice A5 fs.length c5] w fun e w' => e = .returned (.bool true) ∧ Below w.heap.size w w' := by
  have HM1 := Aside0.mk (Sep.made (Sep.refl w) k1 a0 A1 c1 l1 n o1 hn2 hnm hr1 hc1 h1)
  have HM2 := Aside0.mk (fun W (L : List Th) (h : Sep w W L) => Sep.made h k2 a0 A2 c2 l2 n o2 hn2 hnm (Kd.C_below hr2 h.below) hc2 h2)
  have HM3 := Aside0.mk (fun W (L : List Th) (h : Sep w W L) => (show Calls Try.prog 15 #[.int .i64 a0, .slice none 0 0] W _ from Sep.made h k3 a0 none 0 [] n [] hn2 hnm (Kd.C_nil _ _) (Nat.le_refl _) h3))
  have HG1 := Aside0.mk hg1
  have HG2 := Aside0.mk hg2
  have HR5 := Aside0.mk hr5
  have HO1 := Aside0.mk ho1
  have HO2 := Aside0.mk ho2
  have HO3 := Aside0.mk ho3
  have HSM := Aside0.mk hsm
  have HBK := Aside0.mk hbk
  have HSI := Aside0.mk hsi
  clear ho2 ho3 hsm hbk hsi
  have HI := Aside0.mk hi
  have HBIT := Aside0.mk hbit
  have HMa := Aside0.mk (fun W => kilnlaw3_mod.calls a3 (n : Int) (i : Int) W hm3)
  have HMb := Aside0.mk (fun W => kilnlaw3_mod.calls a4 4096 (bit : Int) W hm4)
  have hin0 : (0 : Int) ≤ (i : Int) := by omega
  have hin1 : (i : Int) < (n : Int) := by omega
  clear hr1 hc1 hr2 hc2 hr5 hc5 h1 h2 h3 hg1 hg2 ho1 hi hbit hm3 hm4
  go_enter Try.func10, Try.ntmps10
  go_upto_region 6 with (first
    | (go_at_call 15; (with_reducible refine HM1.out.mono ?_); rintro e w1 ⟨B1, d1, g0, rfl, h⟩; have HS1 := Aside0.mk h; clear h)
    | (go_at_call 15; (with_reducible refine (HM2.out _ _ HS1.out).mono ?_); rintro e w2 ⟨B2, d2, g1, rfl, h⟩; have HS2 := Aside0.mk h; clear h)
    | (go_at_call 15; (with_reducible refine (HM3.out _ _ HS2.out).mono ?_); rintro e w3 ⟨B3, d3, g2, rfl, h⟩; have HS3 := Aside0.mk h; clear h))
  clear HM1 HM2 HM3 HS1 HS2
  go_wp2
  have HS4 := Aside0.mk ((HS3.out.push_alloc #[.pointer (some ⟨g0, 0, none⟩), .pointer (some ⟨g1, 0, none⟩), .pointer (some ⟨g2, 0, none⟩)] 23).sel 7 [5, 3, 1, 0, 6, 4] (tL n o1 o2 g0 g1 g2 w3.heap.size B1 d1 B2 d2 0) rfl (by decide) rfl)
  clear HS3
  generalize w3.alloc (.cells #[.pointer (some ⟨g0, 0, none⟩), .pointer (some ⟨g1, 0, none⟩), .pointer (some ⟨g2, 0, none⟩)] 23) = w4 at HS4 ⊢
  generalize w3.heap.size = ba at HS4 ⊢
  go_loopg [21] 3 (fun kq v21 wr => ∃ k : Nat, v21 = .int .i64 k ∧ Aside0 (k + kq = 3) ∧ Aside0 (Sep w wr (tL n o1 o2 g0 g1 g2 ba B1 d1 B2 d2 k)))
  case atStart => exact ⟨0, rfl, ⟨Nat.zero_add _⟩, HS4⟩
  case round =>
    clear HS4
    obtain ⟨k, rfl, HK, HS⟩ := hrel
    rename World => wo
    have hk4 : k ≤ 3 := by have := HK.out; omega
    by_cases hk : k < 3
    · have hkb : decide ((k : Int) < 3) = true := decide_eq_true (by omega)
      have hk0 : (0 : Int) ≤ (k : Int) := by omega
      have hk1 : (k : Int) < 3 := by omega
      obtain ⟨gq, R, hpk, hin, hout⟩ := tL_at w n o1 o2 g0 g1 g2 ba B1 d1 B2 d2 k hk
      have HPK := Aside0.mk hpk
      have HOUT := Aside0.mk hout
      have HKK := Aside0.mk hk
      have HSi := Aside0.mk (hin wo HS.out)
      clear hpk hin hout hk HS
      go_wp2
      go_loopg [22] o1.length (fun kq v22 wr => ∃ j : Nat, v22 = .int .i64 j ∧ Aside0 (j + kq = o1.length) ∧ Aside0 (Sep w wr (dkT gq (puts (DS.fresh n (List.replicate n zeros)) o1 j) :: rowsT k30 30 (.slice B1 o1.length d1) o1 :: rowsT k30 30 (.slice B2 o2.length d2) o2 :: cellsT ba #[.pointer (some ⟨g0, 0, none⟩), .pointer (some ⟨g1, 0, none⟩), .pointer (some ⟨g2, 0, none⟩)] 23 :: R)))
      case atStart => exact ⟨0, rfl, ⟨Nat.zero_add _⟩, HSi⟩
      case round =>
        clear HSi
        obtain ⟨j, rfl, HJ, HS⟩ := hrel
        by_cases hj : j < o1.length
        · have hjb : decide (j < o1.length) = true := decide_eq_true hj
          have hj0 : (0 : Int) ≤ (j : Int) := by omega
          have hj1 : (j : Int) < (o1.length : Int) := by omega
          obtain ⟨⟨i, hi, hf0⟩, h5⟩ := HG1.out.at_ j hj
          obtain ⟨go, b1, cc, e1, hx0, hx1, hwr⟩ := HS.out.write_row j hj h5 i (by rw [puts_n]; exact hi) hf0 (by rw [puts_c]; show 0 + j < _; omega)
          subst e1
          have HWR := Aside0.mk hwr
          have HRN := Aside0.mk (show (rd_T30 o1 (j : Int)).f0.toNat = i from by rw [hf0]; rfl)
          have hca : wr.cell? ⟨ba, k, none⟩ = some (.pointer (some ⟨gq, 0, none⟩)) := by
            rw [← HPK.out]
            exact blk_cell_at HS.out.up3.cells.1 k (by simp; have := HKK.out; omega)
          have HJ1 := Aside0.mk hj
          clear hj hi hf0 h5 hwr
          go_upto_region 13 with (fail)
          have HB := Aside0.mk (below_drew1 (Below.refl wr.heap.size wr))
          refine start_ (n := 15) (S := fun W => W.cell? ⟨ba, k, none⟩ = some (.pointer (some ⟨gq, 0, none⟩)) ∧ W.cell? ⟨go, j * 2, none⟩ = some (.int .i64 (i : Int)) ∧ W.cell? ⟨go, j * 2 + 1, none⟩ = some (.slice (some ⟨b1, 0, none⟩) 512 cc)) (ds := [14]) #[false, false, false, false, false, false, false, false, false, false, false, false, false, false, false] (by kernel_rfl) rfl rfl (⟨hca, hx0, hx1⟩) (fun hHeld => ?_); refine with_tabW turns13_tab turns13_bits (fun HT_ HW_ => ?_)
          generalize wr.drew = wd at hHeld HB ⊢
          refine pure_ (i := 0) (N := (some 80)) (v := ?_) (a' := ?_) #[true, false, false, false, false, false, false, false, false, false, false, false, false, false, false] rfl rfl (any_of HT_.out (by kernel_rfl)) (fun _ _ _ h => h) (Or.inl ⟨by rfl, ?_⟩) ?_ ?_
          rotate_left
          · intro w'
            go_simp
            with_reducible rfl
          rotate_left
          · simp only [Act.put, List.setIfInBounds_toArray, List.set_cons_zero, List.set_cons_succ, i64_w, i32_w]
            rfl
          refine pure_ (i := 1) (N := (some 81)) (v := ?_) (a' := ?_) #[true, true, false, false, false, false, false, false, false, false, false, false, false, false, false] rfl rfl (any_of HT_.out (by kernel_rfl)) (fun _ _ _ h => h) (Or.inl ⟨by rfl, ?_⟩) ?_ ?_
          rotate_left
          · intro w'
            go_simp
            with_reducible rfl
          rotate_left
          · simp only [Act.put, List.setIfInBounds_toArray, List.set_cons_zero, List.set_cons_succ, i64_w, i32_w]
            rfl
          refine pure_ (i := 2) (N := (some 82)) (v := ?_) (a' := ?_) #[true, true, true, false, false, false, false, false, false, false, false, false, false, false, false] rfl rfl (any_of HT_.out (by kernel_rfl)) (fun _ _ _ h => h) (Or.inl ⟨by rfl, ?_⟩) ?_ ?_
          rotate_left
          · intro w'
            go_simp
            with_reducible rfl
          rotate_left
          · simp only [Act.put, List.setIfInBounds_toArray, List.set_cons_zero, List.set_cons_succ, i64_w, i32_w]
            rfl
          refine take_ (i := 3) (N := (some 83)) (v := ?_) (a' := ?_) #[true, true, true, true, false, false, false, false, false, false, false, false, false, false, false] rfl rfl (take_ofW HT_.out HW_.out (by kernel_rfl)) (fun _ _ _ h => h) (Or.inl ⟨by rfl, ?_⟩) hHeld ?_ ?_
          rotate_left
          · intro w' s0
            (try dsimp only at s0)
            go_simp
            with_reducible rfl
          rotate_left
          · simp only [Act.put, List.setIfInBounds_toArray, List.set_cons_zero, List.set_cons_succ, i64_w, i32_w]
            rfl
          refine pure_ (i := 4) (N := (some 84)) (v := ?_) (a' := ?_) #[true, true, true, true, true, false, false, false, false, false, false, false, false, false, false] rfl rfl (any_of HT_.out (by kernel_rfl)) (fun _ _ _ h => h) (Or.inl ⟨by rfl, ?_⟩) ?_ ?_
          rotate_left
          · intro w'
            go_simp
            with_reducible rfl
          rotate_left
          · simp only [Act.put, List.setIfInBounds_toArray, List.set_cons_zero, List.set_cons_succ, i64_w, i32_w]
            rfl
          refine pure_ (i := 5) (N := (some 85)) (v := ?_) (a' := ?_) #[true, true, true, true, true, true, false, false, false, false, false, false, false, false, false] rfl rfl (any_of HT_.out (by kernel_rfl)) (fun _ _ _ h => h) (Or.inl ⟨by rfl, ?_⟩) ?_ ?_
          rotate_left
          · intro w'
            go_simp
            with_reducible rfl
          rotate_left
          · simp only [Act.put, List.setIfInBounds_toArray, List.set_cons_zero, List.set_cons_succ, i64_w, i32_w]
            rfl
          refine pure_ (i := 6) (N := (some 86)) (v := ?_) (a' := ?_) #[true, true, true, true, true, true, true, false, false, false, false, false, false, false, false] rfl rfl (any_of HT_.out (by kernel_rfl)) (fun _ _ _ h => h) (Or.inl ⟨by rfl, ?_⟩) ?_ ?_
          rotate_left
          · intro w'
            go_simp
            with_reducible rfl
          rotate_left
          · simp only [Act.put, List.setIfInBounds_toArray, List.set_cons_zero, List.set_cons_succ, i64_w, i32_w]
            rfl
          refine pure_ (i := 7) (N := (some 87)) (v := ?_) (a' := ?_) #[true, true, true, true, true, true, true, true, false, false, false, false, false, false, false] rfl rfl (any_of HT_.out (by kernel_rfl)) (fun _ _ _ h => h) (Or.inl ⟨by rfl, ?_⟩) ?_ ?_
          rotate_left
          · intro w'
            go_simp
            with_reducible rfl
          rotate_left
          · simp only [Act.put, List.setIfInBounds_toArray, List.set_cons_zero, List.set_cons_succ, i64_w, i32_w]
            rfl
          refine take_ (i := 8) (N := (some 88)) (v := ?_) (a' := ?_) #[true, true, true, true, true, true, true, true, true, false, false, false, false, false, false] rfl rfl (take_ofW HT_.out HW_.out (by kernel_rfl)) (fun _ _ _ h => h) (Or.inl ⟨by rfl, ?_⟩) hHeld ?_ ?_
          rotate_left
          · intro w' s0
            (try dsimp only at s0)
            go_simp
            with_reducible rfl
          rotate_left
          · simp only [Act.put, List.setIfInBounds_toArray, List.set_cons_zero, List.set_cons_succ, i64_w, i32_w]
            rfl
          refine pure_ (i := 9) (N := (some 89)) (v := ?_) (a' := ?_) #[true, true, true, true, true, true, true, true, true, true, false, false, false, false, false] rfl rfl (any_of HT_.out (by kernel_rfl)) (fun _ _ _ h => h) (Or.inl ⟨by rfl, ?_⟩) ?_ ?_
          rotate_left
          · intro w'
            go_simp
            with_reducible rfl
          rotate_left
          · simp only [Act.put, List.setIfInBounds_toArray, List.set_cons_zero, List.set_cons_succ, i64_w, i32_w]
            rfl
          refine pure_ (i := 10) (N := (some 90)) (v := ?_) (a' := ?_) #[true, true, true, true, true, true, true, true, true, true, true, false, false, false, false] rfl rfl (any_of HT_.out (by kernel_rfl)) (fun _ _ _ h => h) (Or.inl ⟨by rfl, ?_⟩) ?_ ?_
          rotate_left
          · intro w'
            go_simp
            with_reducible rfl
          rotate_left
          · simp only [Act.put, List.setIfInBounds_toArray, List.set_cons_zero, List.set_cons_succ, i64_w, i32_w]
            rfl
          refine pure_ (i := 11) (N := (some 91)) (v := ?_) (a' := ?_) #[true, true, true, true, true, true, true, true, true, true, true, true, false, false, false] rfl rfl (any_of HT_.out (by kernel_rfl)) (fun _ _ _ h => h) (Or.inl ⟨by rfl, ?_⟩) ?_ ?_
          rotate_left
          · intro w'
            go_simp
            with_reducible rfl
          rotate_left
          · simp only [Act.put, List.setIfInBounds_toArray, List.set_cons_zero, List.set_cons_succ, i64_w, i32_w]
            rfl
          refine pure_ (i := 12) (N := (some 92)) (v := ?_) (a' := ?_) #[true, true, true, true, true, true, true, true, true, true, true, true, true, false, false] rfl rfl (any_of HT_.out (by kernel_rfl)) (fun _ _ _ h => h) (Or.inl ⟨by rfl, ?_⟩) ?_ ?_
          rotate_left
          · intro w'
            go_simp
            with_reducible rfl
          rotate_left
          · simp only [Act.put, List.setIfInBounds_toArray, List.set_cons_zero, List.set_cons_succ, i64_w, i32_w]
            rfl
          refine take_ (i := 13) (N := (some 93)) (v := ?_) (a' := ?_) #[true, true, true, true, true, true, true, true, true, true, true, true, true, true, false] rfl rfl (take_ofW HT_.out HW_.out (by kernel_rfl)) (fun _ _ _ h => h) (Or.inl ⟨by rfl, ?_⟩) hHeld ?_ ?_
          rotate_left
          · intro w' s0
            (try dsimp only at s0)
            go_simp
            with_reducible rfl
          rotate_left
          · simp only [Act.put, List.setIfInBounds_toArray, List.set_cons_zero, List.set_cons_succ, i64_w, i32_w]
            rfl
          refine last_ (i := 14) (N := (some 94)) #[true, true, true, true, true, true, true, true, true, true, true, true, true, true, true] rfl rfl (one_of HT_.out (by kernel_rfl)) (by decide) (fun K hK => ?_)
          refine goes_ Try.func16 (by kernel_rfl) rfl #[.pointer (some ⟨gq, 0, none⟩), .int .i64 (i : Int), .slice (some ⟨b1, 0, none⟩) 512 cc] (by rfl) rfl rfl (by (try simp only [List.map_toArray, List.map_cons, List.map_nil]); first | done | rfl) ?_
          with_reducible refine (HWR.out _ HB.out).mono ?_
          rintro e w5 ⟨rfl, h⟩
          have HS5 := Aside0.mk h
          clear h
          refine ⟨_, rfl, ?_⟩
          refine hK.out _ _ ?_
          clear hK K
          refine norm_ (a' := ?_) ?_ ?_
          rotate_left
          · show Act.put _ (some 94) _ = _
            simp only [Act.put, List.setIfInBounds_toArray, List.set_cons_zero, List.set_cons_succ, i64_w, i32_w]
            rfl
          refine done_ (done_of HT_.out (by kernel_rfl)) ?_
          have HSn := Aside0.mk (show Sep w w5 (dkT gq (puts (DS.fresh n (List.replicate n zeros)) o1 (j + 1)) :: _) from by
            unfold puts
            rw [HRN.out]
            exact HS5.out)
          clear hHeld HB HWR hca hx0 hx1 HS5
          go_wp2
          go_roundg (o1.length - j - 1)
          case measure => have := HJ.out; have := HJ1.out; omega
          case rel => exact ⟨j + 1, (by have hi_ := HJ1.out; have hl_ := hl1; first | rfl | (simp; done)), ⟨by have := HJ.out; have := HJ1.out; omega⟩, HSn⟩
        · have hjb : decide (j < o1.length) = false := decide_eq_false hj
          obtain rfl : j = o1.length := by have := HJ.out; omega
          clear hj
          have hca : wr.cell? ⟨ba, k, none⟩ = some (.pointer (some ⟨gq, 0, none⟩)) := by
            rw [← HPK.out]
            exact blk_cell_at HS.out.up3.cells.1 k (by simp; have := HKK.out; omega)
          have HFL := Aside0.mk HS.out.sw12.flush
          clear HS
          go_wp2_with (go_at_call 17; (with_reducible refine HFL.out.mono ?_); rintro e w6 ⟨⟨v6, rfl⟩, h⟩; have HS6 := Aside0.mk h; clear h)
          clear HFL hca
          obtain ⟨s1, hs1⟩ : ∃ x, x = (puts (DS.fresh n (List.replicate n zeros)) o1 o1.length).flush := ⟨_, rfl⟩
          rw [← hs1] at HS6
          have HS1 := Aside0.mk hs1
          have hs1n : s1.n = n := by rw [hs1]; show (puts _ o1 o1.length).n = n; rw [puts_n]; rfl
          have hs1c : s1.c = 0 := by rw [hs1]; rfl
          have HN1 := Aside0.mk (And.intro hs1n hs1c)
          clear hs1 hs1n hs1c
          go_loopg [23] o2.length (fun kq v23 wr => ∃ j : Nat, v23 = .int .i64 j ∧ Aside0 (j + kq = o2.length) ∧ Aside0 (Sep w wr (dkT gq (puts s1 o2 j) :: rowsT k30 30 (.slice B2 o2.length d2) o2 :: rowsT k30 30 (.slice B1 o1.length d1) o1 :: cellsT ba #[.pointer (some ⟨g0, 0, none⟩), .pointer (some ⟨g1, 0, none⟩), .pointer (some ⟨g2, 0, none⟩)] 23 :: R)))
          case atStart => exact ⟨0, rfl, ⟨Nat.zero_add _⟩, HS6⟩
          case round =>
            clear HS6
            obtain ⟨j, rfl, HJ2, HS⟩ := hrel
            rename World => wr
            by_cases hj : j < o2.length
            · have hjb : decide (j < o2.length) = true := decide_eq_true hj
              have hj0 : (0 : Int) ≤ (j : Int) := by omega
              have hj1 : (j : Int) < (o2.length : Int) := by omega
              obtain ⟨⟨i, hi, hf0⟩, h5⟩ := HG2.out.at_ j hj
              obtain ⟨go, b1, cc, e1, hx0, hx1, hwr⟩ := HS.out.write_row j hj h5 i (by rw [puts_n, HN1.out.1]; exact hi) hf0 (by rw [puts_c, HN1.out.2]; omega)
              subst e1
              have HWR := Aside0.mk hwr
              have HRN := Aside0.mk (show (rd_T30 o2 (j : Int)).f0.toNat = i from by rw [hf0]; rfl)
              have hca : wr.cell? ⟨ba, k, none⟩ = some (.pointer (some ⟨gq, 0, none⟩)) := by
                rw [← HPK.out]
                exact blk_cell_at HS.out.up3.cells.1 k (by simp; have := HKK.out; omega)
              have HJ1 := Aside0.mk hj
              clear hj hi hf0 h5 hwr
              go_upto_region 18 with (fail)
              have HB := Aside0.mk (below_drew1 (Below.refl wr.heap.size wr))
              refine start_ (n := 15) (S := fun W => W.cell? ⟨ba, k, none⟩ = some (.pointer (some ⟨gq, 0, none⟩)) ∧ W.cell? ⟨go, j * 2, none⟩ = some (.int .i64 (i : Int)) ∧ W.cell? ⟨go, j * 2 + 1, none⟩ = some (.slice (some ⟨b1, 0, none⟩) 512 cc)) (ds := [14]) #[false, false, false, false, false, false, false, false, false, false, false, false, false, false, false] (by kernel_rfl) rfl rfl (⟨hca, hx0, hx1⟩) (fun hHeld => ?_); refine with_tabW turns18_tab turns18_bits (fun HT_ HW_ => ?_)
              generalize wr.drew = wd at hHeld HB ⊢
              refine pure_ (i := 0) (N := (some 106)) (v := ?_) (a' := ?_) #[true, false, false, false, false, false, false, false, false, false, false, false, false, false, false] rfl rfl (any_of HT_.out (by kernel_rfl)) (fun _ _ _ h => h) (Or.inl ⟨by rfl, ?_⟩) ?_ ?_
              rotate_left
              · intro w'
                go_simp
                with_reducible rfl
              rotate_left
              · simp only [Act.put, List.setIfInBounds_toArray, List.set_cons_zero, List.set_cons_succ, i64_w, i32_w]
                rfl
              refine pure_ (i := 1) (N := (some 107)) (v := ?_) (a' := ?_) #[true, true, false, false, false, false, false, false, false, false, false, false, false, false, false] rfl rfl (any_of HT_.out (by kernel_rfl)) (fun _ _ _ h => h) (Or.inl ⟨by rfl, ?_⟩) ?_ ?_
              rotate_left
              · intro w'
                go_simp
                with_reducible rfl
              rotate_left
              · simp only [Act.put, List.setIfInBounds_toArray, List.set_cons_zero, List.set_cons_succ, i64_w, i32_w]
                rfl
              refine pure_ (i := 2) (N := (some 108)) (v := ?_) (a' := ?_) #[true, true, true, false, false, false, false, false, false, false, false, false, false, false, false] rfl rfl (any_of HT_.out (by kernel_rfl)) (fun _ _ _ h => h) (Or.inl ⟨by rfl, ?_⟩) ?_ ?_
              rotate_left
              · intro w'
                go_simp
                with_reducible rfl
              rotate_left
              · simp only [Act.put, List.setIfInBounds_toArray, List.set_cons_zero, List.set_cons_succ, i64_w, i32_w]
                rfl
              refine take_ (i := 3) (N := (some 109)) (v := ?_) (a' := ?_) #[true, true, true, true, false, false, false, false, false, false, false, false, false, false, false] rfl rfl (take_ofW HT_.out HW_.out (by kernel_rfl)) (fun _ _ _ h => h) (Or.inl ⟨by rfl, ?_⟩) hHeld ?_ ?_
              rotate_left
              · intro w' s0
                (try dsimp only at s0)
                go_simp
                with_reducible rfl
              rotate_left
              · simp only [Act.put, List.setIfInBounds_toArray, List.set_cons_zero, List.set_cons_succ, i64_w, i32_w]
                rfl
              refine pure_ (i := 4) (N := (some 110)) (v := ?_) (a' := ?_) #[true, true, true, true, true, false, false, false, false, false, false, false, false, false, false] rfl rfl (any_of HT_.out (by kernel_rfl)) (fun _ _ _ h => h) (Or.inl ⟨by rfl, ?_⟩) ?_ ?_
              rotate_left
              · intro w'
                go_simp
                with_reducible rfl
              rotate_left
              · simp only [Act.put, List.setIfInBounds_toArray, List.set_cons_zero, List.set_cons_succ, i64_w, i32_w]
                rfl
              refine pure_ (i := 5) (N := (some 111)) (v := ?_) (a' := ?_) #[true, true, true, true, true, true, false, false, false, false, false, false, false, false, false] rfl rfl (any_of HT_.out (by kernel_rfl)) (fun _ _ _ h => h) (Or.inl ⟨by rfl, ?_⟩) ?_ ?_
              rotate_left
              · intro w'
                go_simp
                with_reducible rfl
              rotate_left
              · simp only [Act.put, List.setIfInBounds_toArray, List.set_cons_zero, List.set_cons_succ, i64_w, i32_w]
                rfl
              refine pure_ (i := 6) (N := (some 112)) (v := ?_) (a' := ?_) #[true, true, true, true, true, true, true, false, false, false, false, false, false, false, false] rfl rfl (any_of HT_.out (by kernel_rfl)) (fun _ _ _ h => h) (Or.inl ⟨by rfl, ?_⟩) ?_ ?_
              rotate_left
              · intro w'
                go_simp
                with_reducible rfl
              rotate_left
              · simp only [Act.put, List.setIfInBounds_toArray, List.set_cons_zero, List.set_cons_succ, i64_w, i32_w]
                rfl
              refine pure_ (i := 7) (N := (some 113)) (v := ?_) (a' := ?_) #[true, true, true, true, true, true, true, true, false, false, false, false, false, false, false] rfl rfl (any_of HT_.out (by kernel_rfl)) (fun _ _ _ h => h) (Or.inl ⟨by rfl, ?_⟩) ?_ ?_
              rotate_left
              · intro w'
                go_simp
                with_reducible rfl
              rotate_left
              · simp only [Act.put, List.setIfInBounds_toArray, List.set_cons_zero, List.set_cons_succ, i64_w, i32_w]
                rfl
              refine take_ (i := 8) (N := (some 114)) (v := ?_) (a' := ?_) #[true, true, true, true, true, true, true, true, true, false, false, false, false, false, false] rfl rfl (take_ofW HT_.out HW_.out (by kernel_rfl)) (fun _ _ _ h => h) (Or.inl ⟨by rfl, ?_⟩) hHeld ?_ ?_
              rotate_left
              · intro w' s0
                (try dsimp only at s0)
                go_simp
                with_reducible rfl
              rotate_left
              · simp only [Act.put, List.setIfInBounds_toArray, List.set_cons_zero, List.set_cons_succ, i64_w, i32_w]
                rfl
              refine pure_ (i := 9) (N := (some 115)) (v := ?_) (a' := ?_) #[true, true, true, true, true, true, true, true, true, true, false, false, false, false, false] rfl rfl (any_of HT_.out (by kernel_rfl)) (fun _ _ _ h => h) (Or.inl ⟨by rfl, ?_⟩) ?_ ?_
              rotate_left
              · intro w'
                go_simp
                with_reducible rfl
              rotate_left
              · simp only [Act.put, List.setIfInBounds_toArray, List.set_cons_zero, List.set_cons_succ, i64_w, i32_w]
                rfl
              refine pure_ (i := 10) (N := (some 116)) (v := ?_) (a' := ?_) #[true, true, true, true, true, true, true, true, true, true, true, false, false, false, false] rfl rfl (any_of HT_.out (by kernel_rfl)) (fun _ _ _ h => h) (Or.inl ⟨by rfl, ?_⟩) ?_ ?_
              rotate_left
              · intro w'
                go_simp
                with_reducible rfl
              rotate_left
              · simp only [Act.put, List.setIfInBounds_toArray, List.set_cons_zero, List.set_cons_succ, i64_w, i32_w]
                rfl
              refine pure_ (i := 11) (N := (some 117)) (v := ?_) (a' := ?_) #[true, true, true, true, true, true, true, true, true, true, true, true, false, false, false] rfl rfl (any_of HT_.out (by kernel_rfl)) (fun _ _ _ h => h) (Or.inl ⟨by rfl, ?_⟩) ?_ ?_
              rotate_left
              · intro w'
                go_simp
                with_reducible rfl
              rotate_left
              · simp only [Act.put, List.setIfInBounds_toArray, List.set_cons_zero, List.set_cons_succ, i64_w, i32_w]
                rfl
              refine pure_ (i := 12) (N := (some 118)) (v := ?_) (a' := ?_) #[true, true, true, true, true, true, true, true, true, true, true, true, true, false, false] rfl rfl (any_of HT_.out (by kernel_rfl)) (fun _ _ _ h => h) (Or.inl ⟨by rfl, ?_⟩) ?_ ?_
              rotate_left
              · intro w'
                go_simp
                with_reducible rfl
              rotate_left
              · simp only [Act.put, List.setIfInBounds_toArray, List.set_cons_zero, List.set_cons_succ, i64_w, i32_w]
                rfl
              refine take_ (i := 13) (N := (some 119)) (v := ?_) (a' := ?_) #[true, true, true, true, true, true, true, true, true, true, true, true, true, true, false] rfl rfl (take_ofW HT_.out HW_.out (by kernel_rfl)) (fun _ _ _ h => h) (Or.inl ⟨by rfl, ?_⟩) hHeld ?_ ?_
              rotate_left
              · intro w' s0
                (try dsimp only at s0)
                go_simp
                with_reducible rfl
              rotate_left
              · simp only [Act.put, List.setIfInBounds_toArray, List.set_cons_zero, List.set_cons_succ, i64_w, i32_w]
                rfl
              refine last_ (i := 14) (N := (some 120)) #[true, true, true, true, true, true, true, true, true, true, true, true, true, true, true] rfl rfl (one_of HT_.out (by kernel_rfl)) (by decide) (fun K hK => ?_)
              refine goes_ Try.func16 (by kernel_rfl) rfl #[.pointer (some ⟨gq, 0, none⟩), .int .i64 (i : Int), .slice (some ⟨b1, 0, none⟩) 512 cc] (by rfl) rfl rfl (by (try simp only [List.map_toArray, List.map_cons, List.map_nil]); first | done | rfl) ?_
              with_reducible refine (HWR.out _ HB.out).mono ?_
              rintro e w5 ⟨rfl, h⟩
              have HS5 := Aside0.mk h
              clear h
              refine ⟨_, rfl, ?_⟩
              refine hK.out _ _ ?_
              clear hK K
              refine norm_ (a' := ?_) ?_ ?_
              rotate_left
              · show Act.put _ (some 120) _ = _
                simp only [Act.put, List.setIfInBounds_toArray, List.set_cons_zero, List.set_cons_succ, i64_w, i32_w]
                rfl
              refine done_ (done_of HT_.out (by kernel_rfl)) ?_
              have HSn := Aside0.mk (show Sep w w5 (dkT gq (puts s1 o2 (j + 1)) :: _) from by
                unfold puts
                rw [HRN.out]
                exact HS5.out)
              clear hHeld HB HWR hca hx0 hx1 HS5
              go_wp2
              go_roundg (o2.length - j - 1)
              case measure => have := HJ2.out; have := HJ1.out; omega
              case rel => exact ⟨j + 1, (by have hi_ := HJ1.out; have hl_ := hl2; first | rfl | (simp; done)), ⟨by have := HJ2.out; have := HJ1.out; omega⟩, HSn⟩
            · have hjb : decide (j < o2.length) = false := decide_eq_false hj
              obtain rfl : j = o2.length := by have := HJ2.out; omega
              clear hj
              have HSo := Aside0.mk (HOUT.out _ (show Sep w _ (dkT gq (tZ n o1 o2) :: _) from by
                unfold tZ
                rw [← HS1.out]
                exact HS.out.sw12))
              go_wp2
              go_roundg (3 - k - 1)
              case measure => have := HK.out; have := HKK.out; omega
              case rel => exact ⟨k + 1, (by have hi_ := HKK.out; first | rfl | (simp; done)), ⟨by have := HK.out; have := HKK.out; omega⟩, HSo⟩
    · have hkb : decide ((k : Int) < 3) = false := decide_eq_false (by omega)
      obtain rfl : k = 3 := by omega
      clear hk
      have HS7 := Aside0.mk (show Sep w wo [dkT g0 (tZ n o1 o2), dkT g1 (tZ n o1 o2), dkT g2 (tZ n o1 o2)] from HS.out.sel 6 [0, 1, 2] _ rfl (by decide) rfl)
      clear HS
      have HZn := Aside0.mk (tZ_n n o1 o2)
      have HZc := Aside0.mk (show (tZ n o1 o2).c < 1073741824 from by rw [tZ_c]; omega)
      generalize tZ n o1 o2 = Z at *
      have HT1 := Aside0.mk (fun W (h : Sep w W [dkT g0 Z, dkT g1 Z, dkT g2 Z]) => Sep.turn h.up1 i bit (by rw [HZn.out]; exact HI.out) HBIT.out)
      have HC1 := Aside0.mk (fun W (h : Sep w W [dkT g1 (Z.turn i bit), dkT g0 Z, dkT g2 Z]) => Sep.crash_arg h (show (Z.turn i bit).c < 1073741824 from HZc.out) A5 c5 fs HR5.out)
      have HC2 := Aside0.mk (fun W (h : Sep w W [dkT g1 ((Z.turn i bit).crash fs), dkT g0 Z, dkT g2 Z]) => Sep.crash_arg h.up2 HZc.out A5 c5 fs HR5.out)
      have HR1 := Aside0.mk (fun W (h : Sep w W [dkT g2 (Z.crash fs), dkT g1 ((Z.turn i bit).crash fs), dkT g0 Z]) => Sep.read h.up1 i (show i < Z.n from by rw [HZn.out]; exact HI.out))
      have HR2 := Aside0.mk (fun W v (h : Sep w W [ownT (Kd.int .u8) 5 v (((Z.turn i bit).crash fs).cur i), dkT g1 ((Z.turn i bit).crash fs).reads, dkT g2 (Z.crash fs), dkT g0 Z]) => Sep.read h.up2 i (show i < Z.n from by rw [HZn.out]; exact HI.out))
      go_upto_region 24 with (first
        | (go_at_call 20; (with_reducible refine (HMa.out _).mono ?_); rintro e w1 ⟨rfl, nd3, rfl⟩)
        | (go_at_call 20; (with_reducible refine (HMb.out _).mono ?_); rintro e w1 ⟨rfl, nd4, rfl⟩)
        | (go_at_call 33; (with_reducible refine (HT1.out _ (HS7.out.step (by repeat (first | exact Below.refl _ _ | apply below_drew1 | apply pw_below_drewN | apply below_alloc)))).mono ?_); rintro e w8 ⟨rfl, h⟩; have HS8 := Aside0.mk h; clear h)
        | (go_at_call 30; (with_reducible refine (HC1.out _ (HS8.out.step (by repeat (first | exact Below.refl _ _ | apply below_drew1 | apply pw_below_drewN | apply below_alloc)))).mono ?_); rintro e w9 ⟨⟨v9, rfl⟩, h⟩; have HS9 := Aside0.mk h; clear h)
        | (go_at_call 30; (with_reducible refine (HC2.out _ (HS9.out.step (by repeat (first | exact Below.refl _ _ | apply below_drew1 | apply pw_below_drewN | apply below_alloc)))).mono ?_); rintro e w10 ⟨⟨v10, rfl⟩, h⟩; have HS10 := Aside0.mk h; clear h)
        | (go_at_call 25; (with_reducible refine (HR1.out _ (HS10.out.step (by repeat (first | exact Below.refl _ _ | apply below_drew1 | apply pw_below_drewN | apply below_alloc)))).mono ?_); rintro e w11 ⟨v11, rfl, h⟩; obtain ⟨A11, c11, e11⟩ := h.own_slice; subst e11; have HS11 := Aside0.mk h; clear h)
        | (go_at_call 25; (with_reducible refine (HR2.out _ _ (HS11.out.step (by repeat (first | exact Below.refl _ _ | apply below_drew1 | apply pw_below_drewN | apply below_alloc)))).mono ?_); rintro e w12 ⟨v12, rfl, h⟩; obtain ⟨A12, c12, e12⟩ := h.own_slice; subst e12; have HS12 := Aside0.mk h; clear h))
      clear HT1 HC1 HC2 HR1 HR2 HS7 HS8 HS9 HS10 HS11
      obtain ⟨ko1, hko1⟩ := HO1.out
      have HOT := Aside0.mk (fun W (hW : Below w12.heap.size w12 W) => (show Calls Try.prog 34 _ W _ from R.kilnlaw3_other.calls ko1 A11 c11 _ A12 c12 _ (bit : Int) true W (HS12.out.step hW).up2.own_C.1 (HS12.out.step hW).up2.own_C.2 (HS12.out.step hW).own_C.1 (HS12.out.step hW).own_C.2 hko1))
      clear hko1
      have HS13 := Aside0.mk (show Sep w w12 [dkT g0 Z] from HS12.out.sel 5 [4] _ rfl (by decide) rfl)
      have HIM := Aside0.mk (fun W (h : Sep w W [dkT g0 Z]) => (show Calls Try.prog 26 #[.pointer (some ⟨g0, 0, none⟩)] W (fun e w' => ∃ go c, e = .returned (.slice (some ⟨go, 0, none⟩) n c) ∧ Sep w w' [rowsT KB 28 (.slice (some ⟨go, 0, none⟩) n c) Z.L, dkT g0 Z]) from by
        have h_ := Sep.image h
        rw [HZn.out] at h_
        exact h_))
      have HRd := Aside0.mk (fun W v (h : Sep w W [rowsT KB 28 v Z.L, dkT g0 Z]) => Sep.read h.up1 i (show i < Z.n from by rw [HZn.out]; exact HI.out))
      obtain ⟨r1, hr1⟩ : ∃ x, x = Z.reads.r := ⟨_, rfl⟩
      obtain ⟨q1, hq1⟩ : ∃ x, x = Z.wr := ⟨_, rfl⟩
      obtain ⟨f1, hf1⟩ : ∃ x, x = Z.fl := ⟨_, rfl⟩
      have HAc := Aside0.mk (fun W v v2 (h : Sep w W [ownT (Kd.int .u8) 5 v (Z.cur i), dkT g0 Z.reads, rowsT KB 28 v2 Z.L]) => (show Calls Try.prog 35 #[.pointer (some ⟨g0, 0, none⟩)] W (fun e w' => e = .returned (.agg #[.int .i64 r1, .int .i64 q1, .int .i64 f1]) ∧ Sep w w' [dkT g0 Z.reads, ownT (Kd.int .u8) 5 v (Z.cur i), rowsT KB 28 v2 Z.L]) from by rw [hr1, hq1, hf1]; exact Sep.acts h.up1))
      have HTu := Aside0.mk (fun W v v2 t (h : Sep w W (dkT g0 Z.reads :: t :: [ownT (Kd.int .u8) 5 v (Z.cur i), rowsT KB 28 v2 Z.L])) => Sep.turn h i bit (show i < Z.n from by rw [HZn.out]; exact HI.out) HBIT.out)
      have HAd := Aside0.mk (fun W v v2 t (h : Sep w W (dkT g0 (Z.reads.turn i bit) :: t :: [ownT (Kd.int .u8) 5 v (Z.cur i), rowsT KB 28 v2 Z.L])) => (show Calls Try.prog 35 #[.pointer (some ⟨g0, 0, none⟩)] W (fun e w' => e = .returned (.agg #[.int .i64 r1, .int .i64 q1, .int .i64 f1]) ∧ Sep w w' (dkT g0 (Z.reads.turn i bit) :: t :: [ownT (Kd.int .u8) 5 v (Z.cur i), rowsT KB 28 v2 Z.L])) from by rw [hr1, hq1, hf1]; exact Sep.acts h))
      clear hr1 hq1 hf1
      go_upto_region 31 with (first
        | (go_at_call 20; (with_reducible refine (HMa.out _).mono ?_); rintro e w1 ⟨rfl, nd3, rfl⟩)
        | (go_at_call 20; (with_reducible refine (HMb.out _).mono ?_); rintro e w1 ⟨rfl, nd4, rfl⟩)
        | (go_at_call 34; (with_reducible refine (HOT.out _ (by repeat (first | exact Below.refl _ _ | apply below_drew1 | apply pw_below_drewN | apply below_alloc))).mono ?_); rintro e w1 ⟨rfl, nd5, rfl⟩)
        | (go_at_call 26; (with_reducible refine (HIM.out _ (HS13.out.step (by repeat (first | exact Below.refl _ _ | apply below_drew1 | apply pw_below_drewN | apply below_alloc)))).mono ?_); rintro e w14 ⟨bw, cw, rfl, h⟩; have HS14 := Aside0.mk h; clear h)
        | (go_at_call 25; (with_reducible refine (HRd.out _ _ (HS14.out.step (by repeat (first | exact Below.refl _ _ | apply below_drew1 | apply pw_below_drewN | apply below_alloc)))).mono ?_); rintro e w15 ⟨v15, rfl, h⟩; obtain ⟨A15, c15, e15⟩ := h.own_slice; subst e15; have HS15 := Aside0.mk h; clear h)
        | (go_at_call 35; (with_reducible refine (HAc.out _ _ _ (HS15.out.step (by repeat (first | exact Below.refl _ _ | apply below_drew1 | apply pw_below_drewN | apply below_alloc)))).mono ?_); rintro e w16 ⟨rfl, h⟩; have HS16 := Aside0.mk h; clear h))
      have HS17 := Aside0.mk (HS16.out.push_alloc #[.int .i64 r1, .int .i64 q1, .int .i64 f1] 63)
      clear HIM HRd HAc HOT HS12 HS13 HS14 HS15 HS16
      generalize w16.alloc (.cells #[.int .i64 r1, .int .i64 q1, .int .i64 f1] 63) = w17 at HS17 ⊢
      generalize w16.heap.size = ns at HS17 ⊢
      have HS18 := Aside0.mk (HS17.out.step (below_drew1 (Below.refl w17.heap.size w17)))
      clear HS17
      have hrr : (r1 == r1) = true := beq_iff_eq.mpr rfl
      have hqq : (q1 == q1) = true := beq_iff_eq.mpr rfl
      have hff : (f1 == f1) = true := beq_iff_eq.mpr rfl
      refine start_ (n := 21) (S := fun W => W.cell? ⟨ns, 0, none⟩ = some (.int .i64 r1) ∧ W.cell? ⟨ns, 1, none⟩ = some (.int .i64 q1) ∧ W.cell? ⟨ns, 2, none⟩ = some (.int .i64 f1)) (ds := []) #[false, false, false, false, false, false, false, false, false, false, false, false, false, false, false, false, false, false, false, false, false] (by kernel_rfl) rfl rfl (⟨blk_cell HS18.out.cells.1 0, blk_cell HS18.out.cells.1 1, blk_cell HS18.out.cells.1 2⟩) (fun hHeld => ?_); refine with_tabW turns31_tab turns31_bits (fun HT_ HW_ => ?_)
      generalize w17.drew = w18 at hHeld HS18 ⊢
      refine pure_ (i := 0) (N := (some 171)) (v := ?_) (a' := ?_) #[true, false, false, false, false, false, false, false, false, false, false, false, false, false, false, false, false, false, false, false, false] rfl rfl (any_of HT_.out (by kernel_rfl)) (fun _ _ _ h => h) (Or.inl ⟨by rfl, ?_⟩) ?_ ?_
      rotate_left
      · intro w'
        go_simp
        with_reducible rfl
      rotate_left
      · simp only [Act.put, List.setIfInBounds_toArray, List.set_cons_zero, List.set_cons_succ, i64_w, i32_w]
        rfl
      refine pure_ (i := 1) (N := (some 172)) (v := ?_) (a' := ?_) #[true, true, false, false, false, false, false, false, false, false, false, false, false, false, false, false, false, false, false, false, false] rfl rfl (any_of HT_.out (by kernel_rfl)) (fun _ _ _ h => h) (Or.inl ⟨by rfl, ?_⟩) ?_ ?_
      rotate_left
      · intro w'
        go_simp
        with_reducible rfl
      rotate_left
      · simp only [Act.put, List.setIfInBounds_toArray, List.set_cons_zero, List.set_cons_succ, i64_w, i32_w]
        rfl
      refine pure_ (i := 2) (N := (some 173)) (v := ?_) (a' := ?_) #[true, true, true, false, false, false, false, false, false, false, false, false, false, false, false, false, false, false, false, false, false] rfl rfl (any_of HT_.out (by kernel_rfl)) (fun _ _ _ h => h) (Or.inl ⟨by rfl, ?_⟩) ?_ ?_
      rotate_left
      · intro w'
        go_simp
        with_reducible rfl
      rotate_left
      · simp only [Act.put, List.setIfInBounds_toArray, List.set_cons_zero, List.set_cons_succ, i64_w, i32_w]
        rfl
      refine pure_ (i := 3) (N := (some 174)) (v := ?_) (a' := ?_) #[true, true, true, true, false, false, false, false, false, false, false, false, false, false, false, false, false, false, false, false, false] rfl rfl (any_of HT_.out (by kernel_rfl)) (fun _ _ _ h => h) (Or.inl ⟨by rfl, ?_⟩) ?_ ?_
      rotate_left
      · intro w'
        go_simp
        with_reducible rfl
      rotate_left
      · simp only [Act.put, List.setIfInBounds_toArray, List.set_cons_zero, List.set_cons_succ, i64_w, i32_w]
        rfl
      refine pure_ (i := 4) (N := (some 175)) (v := ?_) (a' := ?_) #[true, true, true, true, true, false, false, false, false, false, false, false, false, false, false, false, false, false, false, false, false] rfl rfl (any_of HT_.out (by kernel_rfl)) (fun _ _ _ h => h) (Or.inl ⟨by rfl, ?_⟩) ?_ ?_
      rotate_left
      · intro w'
        go_simp
        with_reducible rfl
      rotate_left
      · simp only [Act.put, List.setIfInBounds_toArray, List.set_cons_zero, List.set_cons_succ, i64_w, i32_w]
        rfl
      refine pure_ (i := 5) (N := (some 176)) (v := ?_) (a' := ?_) #[true, true, true, true, true, true, false, false, false, false, false, false, false, false, false, false, false, false, false, false, false] rfl rfl (any_of HT_.out (by kernel_rfl)) (fun _ _ _ h => h) (Or.inl ⟨by rfl, ?_⟩) ?_ ?_
      rotate_left
      · intro w'
        go_simp
        with_reducible rfl
      rotate_left
      · simp only [Act.put, List.setIfInBounds_toArray, List.set_cons_zero, List.set_cons_succ, i64_w, i32_w]
        rfl
      refine pure_ (i := 6) (N := (some 177)) (v := ?_) (a' := ?_) #[true, true, true, true, true, true, true, false, false, false, false, false, false, false, false, false, false, false, false, false, false] rfl rfl (any_of HT_.out (by kernel_rfl)) (fun _ _ _ h => h) (Or.inl ⟨by rfl, ?_⟩) ?_ ?_
      rotate_left
      · intro w'
        go_simp
        with_reducible rfl
      rotate_left
      · simp only [Act.put, List.setIfInBounds_toArray, List.set_cons_zero, List.set_cons_succ, i64_w, i32_w]
        rfl
      refine pure_ (i := 7) (N := (some 178)) (v := ?_) (a' := ?_) #[true, true, true, true, true, true, true, true, false, false, false, false, false, false, false, false, false, false, false, false, false] rfl rfl (any_of HT_.out (by kernel_rfl)) (fun _ _ _ h => h) (Or.inl ⟨by rfl, ?_⟩) ?_ ?_
      rotate_left
      · intro w'
        go_simp
        with_reducible rfl
      rotate_left
      · simp only [Act.put, List.setIfInBounds_toArray, List.set_cons_zero, List.set_cons_succ, i64_w, i32_w]
        rfl
      refine pure_ (i := 8) (N := (some 179)) (v := ?_) (a' := ?_) #[true, true, true, true, true, true, true, true, true, false, false, false, false, false, false, false, false, false, false, false, false] rfl rfl (any_of HT_.out (by kernel_rfl)) (fun _ _ _ h => h) (Or.inl ⟨by rfl, ?_⟩) ?_ ?_
      rotate_left
      · intro w'
        go_simp
        with_reducible rfl
      rotate_left
      · simp only [Act.put, List.setIfInBounds_toArray, List.set_cons_zero, List.set_cons_succ, i64_w, i32_w]
        rfl
      refine pure_ (i := 9) (N := (some 180)) (v := ?_) (a' := ?_) #[true, true, true, true, true, true, true, true, true, true, false, false, false, false, false, false, false, false, false, false, false] rfl rfl (any_of HT_.out (by kernel_rfl)) (fun _ _ _ h => h) (Or.inl ⟨by rfl, ?_⟩) ?_ ?_
      rotate_left
      · intro w'
        go_simp
        with_reducible rfl
      rotate_left
      · simp only [Act.put, List.setIfInBounds_toArray, List.set_cons_zero, List.set_cons_succ, i64_w, i32_w]
        rfl
      refine pure_ (i := 10) (N := (some 181)) (v := ?_) (a' := ?_) #[true, true, true, true, true, true, true, true, true, true, true, false, false, false, false, false, false, false, false, false, false] rfl rfl (any_of HT_.out (by kernel_rfl)) (fun _ _ _ h => h) (Or.inl ⟨by rfl, ?_⟩) ?_ ?_
      rotate_left
      · intro w'
        go_simp
        with_reducible rfl
      rotate_left
      · simp only [Act.put, List.setIfInBounds_toArray, List.set_cons_zero, List.set_cons_succ, i64_w, i32_w]
        rfl
      refine pure_ (i := 11) (N := (some 182)) (v := ?_) (a' := ?_) #[true, true, true, true, true, true, true, true, true, true, true, true, false, false, false, false, false, false, false, false, false] rfl rfl (any_of HT_.out (by kernel_rfl)) (fun _ _ _ h => h) (Or.inl ⟨by rfl, ?_⟩) ?_ ?_
      rotate_left
      · intro w'
        go_simp
        with_reducible rfl
      rotate_left
      · simp only [Act.put, List.setIfInBounds_toArray, List.set_cons_zero, List.set_cons_succ, i64_w, i32_w]
        rfl
      refine one_ (i := 12) (N := (some 183)) #[true, true, true, true, true, true, true, true, true, true, true, true, true, false, false, false, false, false, false, false, false] rfl rfl (one_of HT_.out (by kernel_rfl)) (by decide) (fun K hK => ?_)
      refine goes_ Try.func33 (by kernel_rfl) rfl #[.pointer (some ⟨g0, 0, none⟩), .int .i64 (i : Int), .int .i64 (bit : Int)] (by rfl) rfl rfl (by (try simp only [List.map_toArray, List.map_cons, List.map_nil]); first | done | rfl) ?_
      with_reducible refine (HTu.out _ _ _ _ HS18.out.up1).mono ?_
      rintro e w19 ⟨rfl, h⟩
      have HS19 := Aside0.mk h
      clear h
      refine ⟨_, rfl, ?_⟩
      refine hK.out _ _ (⟨blk_cell HS19.out.up1.cells.1 0, blk_cell HS19.out.up1.cells.1 1, blk_cell HS19.out.up1.cells.1 2⟩) (fun hHeld => ?_)
      clear hK K
      refine norm_ (a' := ?_) ?_ ?_
      rotate_left
      · show Act.put _ (some 183) _ = _
        simp only [Act.put, List.setIfInBounds_toArray, List.set_cons_zero, List.set_cons_succ, i64_w, i32_w]
        rfl
      refine pure_ (i := 13) (N := (some 184)) (v := ?_) (a' := ?_) #[true, true, true, true, true, true, true, true, true, true, true, true, true, true, false, false, false, false, false, false, false] rfl rfl (any_of HT_.out (by kernel_rfl)) (fun _ _ _ h => h) (Or.inl ⟨by rfl, ?_⟩) ?_ ?_
      rotate_left
      · intro w'
        go_simp
        with_reducible rfl
      rotate_left
      · simp only [Act.put, List.setIfInBounds_toArray, List.set_cons_zero, List.set_cons_succ, i64_w, i32_w]
        rfl
      refine pure_ (i := 14) (N := (some 185)) (v := ?_) (a' := ?_) #[true, true, true, true, true, true, true, true, true, true, true, true, true, true, true, false, false, false, false, false, false] rfl rfl (any_of HT_.out (by kernel_rfl)) (fun _ _ _ h => h) (Or.inl ⟨by rfl, ?_⟩) ?_ ?_
      rotate_left
      · intro w'
        go_simp
        with_reducible rfl
      rotate_left
      · simp only [Act.put, List.setIfInBounds_toArray, List.set_cons_zero, List.set_cons_succ, i64_w, i32_w]
        rfl
      refine pure_ (i := 15) (N := (some 186)) (v := ?_) (a' := ?_) #[true, true, true, true, true, true, true, true, true, true, true, true, true, true, true, true, false, false, false, false, false] rfl rfl (any_of HT_.out (by kernel_rfl)) (fun _ _ _ h => h) (Or.inl ⟨by rfl, ?_⟩) ?_ ?_
      rotate_left
      · intro w'
        go_simp
        with_reducible rfl
      rotate_left
      · simp only [Act.put, List.setIfInBounds_toArray, List.set_cons_zero, List.set_cons_succ, i64_w, i32_w]
        rfl
      refine pure_ (i := 16) (N := (some 187)) (v := ?_) (a' := ?_) #[true, true, true, true, true, true, true, true, true, true, true, true, true, true, true, true, true, false, false, false, false] rfl rfl (any_of HT_.out (by kernel_rfl)) (fun _ _ _ h => h) (Or.inl ⟨by rfl, ?_⟩) ?_ ?_
      rotate_left
      · intro w'
        go_simp
        with_reducible rfl
      rotate_left
      · simp only [Act.put, List.setIfInBounds_toArray, List.set_cons_zero, List.set_cons_succ, i64_w, i32_w]
        rfl
      refine take_ (i := 18) (N := (some 189)) (v := ?_) (a' := ?_) #[true, true, true, true, true, true, true, true, true, true, true, true, true, true, true, true, true, false, true, false, false] rfl rfl (take_ofW HT_.out HW_.out (by kernel_rfl)) (fun _ _ _ h => h) (Or.inl ⟨by rfl, ?_⟩) hHeld ?_ ?_
      rotate_left
      · intro w' s0
        (try dsimp only at s0)
        go_simp
        with_reducible rfl
      rotate_left
      · simp only [Act.put, List.setIfInBounds_toArray, List.set_cons_zero, List.set_cons_succ, i64_w, i32_w]
        rfl
      refine one_ (i := 17) (N := (some 188)) #[true, true, true, true, true, true, true, true, true, true, true, true, true, true, true, true, true, true, true, false, false] rfl rfl (one_of HT_.out (by kernel_rfl)) (by decide) (fun K hK => ?_)
      refine goes_ Try.func35 (by kernel_rfl) rfl #[.pointer (some ⟨g0, 0, none⟩)] (by rfl) rfl rfl (by (try simp only [List.map_toArray, List.map_cons, List.map_nil]); first | done | rfl) ?_
      with_reducible refine (HAd.out _ _ _ _ HS19.out).mono ?_
      rintro e w20 ⟨rfl, h⟩
      have HS20 := Aside0.mk h
      clear h
      refine ⟨_, rfl, ?_⟩
      refine hK.out _ _ (⟨blk_cell HS20.out.up1.cells.1 0, blk_cell HS20.out.up1.cells.1 1, blk_cell HS20.out.up1.cells.1 2⟩) (fun hHeld => ?_)
      clear hK K
      refine norm_ (a' := ?_) ?_ ?_
      rotate_left
      · show Act.put _ (some 188) _ = _
        simp only [Act.put, List.setIfInBounds_toArray, List.set_cons_zero, List.set_cons_succ, i64_w, i32_w]
        rfl
      refine pure_ (i := 19) (N := (some 190)) (v := ?_) (a' := ?_) #[true, true, true, true, true, true, true, true, true, true, true, true, true, true, true, true, true, true, true, true, false] rfl rfl (any_of HT_.out (by kernel_rfl)) (fun _ _ _ h => h) (Or.inl ⟨by rfl, ?_⟩) ?_ ?_
      rotate_left
      · intro w'
        go_simp
        with_reducible rfl
      rotate_left
      · simp only [Act.put, List.setIfInBounds_toArray, List.set_cons_zero, List.set_cons_succ, i64_w, i32_w]
        rfl
      refine pure_ (i := 20) (N := (some 191)) (v := ?_) (a' := ?_) #[true, true, true, true, true, true, true, true, true, true, true, true, true, true, true, true, true, true, true, true, true] rfl rfl (any_of HT_.out (by kernel_rfl)) (fun _ _ _ h => h) (Or.inl ⟨by rfl, ?_⟩) ?_ ?_
      rotate_left
      · intro w'
        go_simp
        with_reducible rfl
      rotate_left
      · simp only [Act.put, List.setIfInBounds_toArray, List.set_cons_zero, List.set_cons_succ, i64_w, i32_w]
        rfl
      refine done_ (done_of HT_.out (by kernel_rfl)) ?_
      clear hHeld hrr hqq hff HS18 HS19 HTu HAd
      obtain ⟨Y, hY⟩ : ∃ x, x = Z.reads.turn i bit := ⟨_, rfl⟩
      have HYn := Aside0.mk (show Y.n = n from by rw [hY]; exact HZn.out)
      rw [← hY] at HS20 HO2 HO3 HSM HBK HSI
      clear hY
      have HIM2 := Aside0.mk (fun W t v v2 (h : Sep w W [dkT g0 Y, t, ownT (Kd.int .u8) 5 v (Z.cur i), rowsT KB 28 v2 Z.L]) => (show Calls Try.prog 26 #[.pointer (some ⟨g0, 0, none⟩)] W (fun e w' => ∃ go c, e = .returned (.slice (some ⟨go, 0, none⟩) n c) ∧ Sep w w' [rowsT KB 28 (.slice (some ⟨go, 0, none⟩) n c) Y.L, dkT g0 Y, t, ownT (Kd.int .u8) 5 v (Z.cur i), rowsT KB 28 v2 Z.L]) from by
        have h_ := Sep.image h
        rw [HYn.out] at h_
        exact h_))
      have HRd2 := Aside0.mk (fun W t v v2 v3 (h : Sep w W [rowsT KB 28 v3 Y.L, dkT g0 Y, t, ownT (Kd.int .u8) 5 v (Z.cur i), rowsT KB 28 v2 Z.L]) => Sep.read h.up1 i (show i < Y.n from by rw [HYn.out]; exact HI.out))
      go_upto_region 35 with (first
        | (go_at_call 26; (with_reducible refine (HIM2.out _ _ _ _ (HS20.out.step (by repeat (first | exact Below.refl _ _ | apply below_drew1 | apply pw_below_drewN | apply below_alloc)))).mono ?_); rintro e w21 ⟨bn, cn, rfl, h⟩; have HS21 := Aside0.mk h; clear h)
        | (go_at_call 25; (with_reducible refine (HRd2.out _ _ _ _ _ (HS21.out.step (by repeat (first | exact Below.refl _ _ | apply below_drew1 | apply pw_below_drewN | apply below_alloc)))).mono ?_); rintro e w22 ⟨v22, rfl, h⟩; obtain ⟨A22, c22, e22⟩ := h.own_slice; subst e22; have HS22 := Aside0.mk h; clear h))
      clear HIM2 HRd2 HS20 HS21
      have HSw := Aside0.mk (show Sep w w22 [ownT KB 28 (.slice (some ⟨bw, 0, none⟩) n cw) Z.L] from (show Sep w w22 [rowsT KB 28 (.slice (some ⟨bw, 0, none⟩) n cw) Z.L] from HS22.out.sel 6 [5] _ rfl (by decide) rfl).rows_own)
      have HSn := Aside0.mk (show Sep w w22 [ownT KB 28 (.slice (some ⟨bn, 0, none⟩) n cn) Y.L] from (show Sep w w22 [rowsT KB 28 (.slice (some ⟨bn, 0, none⟩) n cn) Y.L] from HS22.out.sel 6 [2] _ rfl (by decide) rfl).rows_own)
      have HSb := Aside0.mk (show Sep w w22 [ownT (Kd.int .u8) 5 (.slice A15 (Z.cur i).length c15) (Z.cur i)] from HS22.out.sel 6 [4] _ rfl (by decide) rfl)
      obtain ⟨Aw, cw_, hw1, _, hw2, hw3⟩ := HSw.out.slot i HI.out
      obtain ⟨An, cn_, hn1, _, hn2_, hn3⟩ := HSn.out.slot i HI.out
      have HK35 := Aside0.mk (fun W (hW : Below w22.heap.size w22 W) => (show W.cell? ⟨bw, i, none⟩ = some (.slice Aw (Z.L.getD i []).length cw_) ∧ W.cell? ⟨bn, i, none⟩ = some (.slice An (Y.L.getD i []).length cn_) from
        ⟨(hW.cell (World.block_lt_of_cell? w22 _ hw1)).trans hw1, (hW.cell (World.block_lt_of_cell? w22 _ hn1)).trans hn1⟩))
      obtain ⟨ko2, hko2⟩ := HO2.out
      obtain ⟨ko3, hko3⟩ := HO3.out
      have HOa := Aside0.mk (fun W (hW : Below w22.heap.size w22 W) => (show Calls Try.prog 34 _ W _ from R.kilnlaw3_other.calls ko2 A15 c15 _ A22 c22 _ (bit : Int) true W (HSb.out.step hW).own_C.1 (HSb.out.step hW).own_C.2 (HS22.out.step hW).own_C.1 (HS22.out.step hW).own_C.2 hko2))
      have HOb := Aside0.mk (fun W (hW : Below w22.heap.size w22 W) => (show Calls Try.prog 34 _ W _ from R.kilnlaw3_other.calls ko3 Aw cw_ _ An cn_ _ (bit : Int) true W (Kd.C_below hw2 hW) hw3 (Kd.C_below hn2_ hW) hn3 hko3))
      have hnn : ((n : Int) != (n : Int)) = false := bne_eq_false_iff_eq.mpr rfl
      have HB23 := Aside0.mk (below_drew1 (Below.refl w22.heap.size w22))
      clear hko2 hko3 hw1 hw2 hw3 hn1 hn2_ hn3
      refine start_ (n := 28) (S := fun W => W.cell? ⟨bw, i, none⟩ = some (.slice Aw (Z.L.getD i []).length cw_) ∧ W.cell? ⟨bn, i, none⟩ = some (.slice An (Y.L.getD i []).length cn_)) (ds := []) #[false, false, false, false, false, false, false, false, false, false, false, false, false, false, false, false, false, false, false, false, false, false, false, false, false, false, false, false] (by kernel_rfl) rfl rfl (HK35.out _ HB23.out) (fun hHeld => ?_); refine with_tabW turns35_tab turns35_bits (fun HT_ HW_ => ?_)
      generalize w22.drew = w23 at hHeld HB23 ⊢
      refine pure_ (i := 0) (N := (some 200)) (v := ?_) (a' := ?_) #[true, false, false, false, false, false, false, false, false, false, false, false, false, false, false, false, false, false, false, false, false, false, false, false, false, false, false, false] rfl rfl (any_of HT_.out (by kernel_rfl)) (fun _ _ _ h => h) (Or.inl ⟨by rfl, ?_⟩) ?_ ?_
      rotate_left
      · intro w'
        go_simp
        with_reducible rfl
      rotate_left
      · simp only [Act.put, List.setIfInBounds_toArray, List.set_cons_zero, List.set_cons_succ, i64_w, i32_w]
        rfl
      refine pure_ (i := 1) (N := (some 201)) (v := ?_) (a' := ?_) #[true, true, false, false, false, false, false, false, false, false, false, false, false, false, false, false, false, false, false, false, false, false, false, false, false, false, false, false] rfl rfl (any_of HT_.out (by kernel_rfl)) (fun _ _ _ h => h) (Or.inl ⟨by rfl, ?_⟩) ?_ ?_
      rotate_left
      · intro w'
        go_simp
        with_reducible rfl
      rotate_left
      · simp only [Act.put, List.setIfInBounds_toArray, List.set_cons_zero, List.set_cons_succ, i64_w, i32_w]
        rfl
      refine pure_ (i := 2) (N := (some 202)) (v := ?_) (a' := ?_) #[true, true, true, false, false, false, false, false, false, false, false, false, false, false, false, false, false, false, false, false, false, false, false, false, false, false, false, false] rfl rfl (any_of HT_.out (by kernel_rfl)) (fun _ _ _ h => h) (Or.inl ⟨by rfl, ?_⟩) ?_ ?_
      rotate_left
      · intro w'
        go_simp
        with_reducible rfl
      rotate_left
      · simp only [Act.put, List.setIfInBounds_toArray, List.set_cons_zero, List.set_cons_succ, i64_w, i32_w]
        rfl
      refine pure_ (i := 3) (N := (some 203)) (v := ?_) (a' := ?_) #[true, true, true, true, false, false, false, false, false, false, false, false, false, false, false, false, false, false, false, false, false, false, false, false, false, false, false, false] rfl rfl (any_of HT_.out (by kernel_rfl)) (fun _ _ _ h => h) (Or.inl ⟨by rfl, ?_⟩) ?_ ?_
      rotate_left
      · intro w'
        go_simp
        with_reducible rfl
      rotate_left
      · simp only [Act.put, List.setIfInBounds_toArray, List.set_cons_zero, List.set_cons_succ, i64_w, i32_w]
        rfl
      refine pure_ (i := 4) (N := (some 204)) (v := ?_) (a' := ?_) #[true, true, true, true, true, false, false, false, false, false, false, false, false, false, false, false, false, false, false, false, false, false, false, false, false, false, false, false] rfl rfl (any_of HT_.out (by kernel_rfl)) (fun _ _ _ h => h) (Or.inl ⟨by rfl, ?_⟩) ?_ ?_
      rotate_left
      · intro w'
        go_simp
        with_reducible rfl
      rotate_left
      · simp only [Act.put, List.setIfInBounds_toArray, List.set_cons_zero, List.set_cons_succ, i64_w, i32_w]
        rfl
      refine pure_ (i := 5) (N := (some 205)) (v := ?_) (a' := ?_) #[true, true, true, true, true, true, false, false, false, false, false, false, false, false, false, false, false, false, false, false, false, false, false, false, false, false, false, false] rfl rfl (any_of HT_.out (by kernel_rfl)) (fun _ _ _ h => h) (Or.inl ⟨by rfl, ?_⟩) ?_ ?_
      rotate_left
      · intro w'
        go_simp
        with_reducible rfl
      rotate_left
      · simp only [Act.put, List.setIfInBounds_toArray, List.set_cons_zero, List.set_cons_succ, i64_w, i32_w]
        rfl
      refine one_ (i := 6) (N := (some 206)) #[true, true, true, true, true, true, true, false, false, false, false, false, false, false, false, false, false, false, false, false, false, false, false, false, false, false, false, false] rfl rfl (one_of HT_.out (by kernel_rfl)) (by decide) (fun K hK => ?_)
      refine goes_ Try.func34 (by kernel_rfl) rfl #[.slice A15 (Z.cur i).length c15, .slice A22 (Y.cur i).length c22, .int .i64 (bit : Int)] (by rfl) rfl rfl (by (try simp only [List.map_toArray, List.map_cons, List.map_nil]); first | done | rfl) ?_
      with_reducible refine (HOa.out _ HB23.out).mono ?_
      rintro e w24 ⟨rfl, hd⟩
      have HB24 := Aside0.mk (show Below w22.heap.size w22 w24 from by obtain ⟨nd, rfl⟩ := hd; exact pw_below_drewN HB23.out nd)
      clear hd
      refine ⟨_, rfl, ?_⟩
      refine hK.out _ _ (HK35.out _ HB24.out) (fun hHeld => ?_)
      clear hK K
      refine norm_ (a' := ?_) ?_ ?_
      rotate_left
      · show Act.put _ (some 206) _ = _
        simp only [Act.put, List.setIfInBounds_toArray, List.set_cons_zero, List.set_cons_succ, i64_w, i32_w]
        rfl
      refine pure_ (i := 7) (N := (some 207)) (v := ?_) (a' := ?_) #[true, true, true, true, true, true, true, true, false, false, false, false, false, false, false, false, false, false, false, false, false, false, false, false, false, false, false, false] rfl rfl (any_of HT_.out (by kernel_rfl)) (fun _ _ _ h => h) (Or.inl ⟨by rfl, ?_⟩) ?_ ?_
      rotate_left
      · intro w'
        go_simp
        with_reducible rfl
      rotate_left
      · simp only [Act.put, List.setIfInBounds_toArray, List.set_cons_zero, List.set_cons_succ, i64_w, i32_w]
        rfl
      refine pure_ (i := 8) (N := (some 208)) (v := ?_) (a' := ?_) #[true, true, true, true, true, true, true, true, true, false, false, false, false, false, false, false, false, false, false, false, false, false, false, false, false, false, false, false] rfl rfl (any_of HT_.out (by kernel_rfl)) (fun _ _ _ h => h) (Or.inl ⟨by rfl, ?_⟩) ?_ ?_
      rotate_left
      · intro w'
        go_simp
        with_reducible rfl
      rotate_left
      · simp only [Act.put, List.setIfInBounds_toArray, List.set_cons_zero, List.set_cons_succ, i64_w, i32_w]
        rfl
      refine pure_ (i := 9) (N := (some 209)) (v := ?_) (a' := ?_) #[true, true, true, true, true, true, true, true, true, true, false, false, false, false, false, false, false, false, false, false, false, false, false, false, false, false, false, false] rfl rfl (any_of HT_.out (by kernel_rfl)) (fun _ _ _ h => h) (Or.inl ⟨by rfl, ?_⟩) ?_ ?_
      rotate_left
      · intro w'
        go_simp
        with_reducible rfl
      rotate_left
      · simp only [Act.put, List.setIfInBounds_toArray, List.set_cons_zero, List.set_cons_succ, i64_w, i32_w]
        rfl
      refine pure_ (i := 10) (N := (some 210)) (v := ?_) (a' := ?_) #[true, true, true, true, true, true, true, true, true, true, true, false, false, false, false, false, false, false, false, false, false, false, false, false, false, false, false, false] rfl rfl (any_of HT_.out (by kernel_rfl)) (fun _ _ _ h => h) (Or.inl ⟨by rfl, ?_⟩) ?_ ?_
      rotate_left
      · intro w'
        go_simp
        with_reducible rfl
      rotate_left
      · simp only [Act.put, List.setIfInBounds_toArray, List.set_cons_zero, List.set_cons_succ, i64_w, i32_w]
        rfl
      refine pure_ (i := 11) (N := (some 211)) (v := ?_) (a' := ?_) #[true, true, true, true, true, true, true, true, true, true, true, true, false, false, false, false, false, false, false, false, false, false, false, false, false, false, false, false] rfl rfl (any_of HT_.out (by kernel_rfl)) (fun _ _ _ h => h) (Or.inl ⟨by rfl, ?_⟩) ?_ ?_
      rotate_left
      · intro w'
        go_simp
        with_reducible rfl
      rotate_left
      · simp only [Act.put, List.setIfInBounds_toArray, List.set_cons_zero, List.set_cons_succ, i64_w, i32_w]
        rfl
      refine pure_ (i := 12) (N := (some 212)) (v := ?_) (a' := ?_) #[true, true, true, true, true, true, true, true, true, true, true, true, true, false, false, false, false, false, false, false, false, false, false, false, false, false, false, false] rfl rfl (any_of HT_.out (by kernel_rfl)) (fun _ _ _ h => h) (Or.inl ⟨by rfl, ?_⟩) ?_ ?_
      rotate_left
      · intro w'
        go_simp
        with_reducible rfl
      rotate_left
      · simp only [Act.put, List.setIfInBounds_toArray, List.set_cons_zero, List.set_cons_succ, i64_w, i32_w]
        rfl
      refine pure_ (i := 13) (N := (some 213)) (v := ?_) (a' := ?_) #[true, true, true, true, true, true, true, true, true, true, true, true, true, true, false, false, false, false, false, false, false, false, false, false, false, false, false, false] rfl rfl (any_of HT_.out (by kernel_rfl)) (fun _ _ _ h => h) (Or.inl ⟨by rfl, ?_⟩) ?_ ?_
      rotate_left
      · intro w'
        go_simp
        with_reducible rfl
      rotate_left
      · simp only [Act.put, List.setIfInBounds_toArray, List.set_cons_zero, List.set_cons_succ, i64_w, i32_w]
        rfl
      refine pure_ (i := 14) (N := (some 214)) (v := ?_) (a' := ?_) #[true, true, true, true, true, true, true, true, true, true, true, true, true, true, true, false, false, false, false, false, false, false, false, false, false, false, false, false] rfl rfl (any_of HT_.out (by kernel_rfl)) (fun _ _ _ h => h) (Or.inl ⟨by rfl, ?_⟩) ?_ ?_
      rotate_left
      · intro w'
        go_simp
        with_reducible rfl
      rotate_left
      · simp only [Act.put, List.setIfInBounds_toArray, List.set_cons_zero, List.set_cons_succ, i64_w, i32_w]
        rfl
      refine pure_ (i := 15) (N := (some 215)) (v := ?_) (a' := ?_) #[true, true, true, true, true, true, true, true, true, true, true, true, true, true, true, true, false, false, false, false, false, false, false, false, false, false, false, false] rfl rfl (any_of HT_.out (by kernel_rfl)) (fun _ _ _ h => h) (Or.inl ⟨by rfl, ?_⟩) ?_ ?_
      rotate_left
      · intro w'
        go_simp
        with_reducible rfl
      rotate_left
      · simp only [Act.put, List.setIfInBounds_toArray, List.set_cons_zero, List.set_cons_succ, i64_w, i32_w]
        rfl
      refine pure_ (i := 16) (N := (some 216)) (v := ?_) (a' := ?_) #[true, true, true, true, true, true, true, true, true, true, true, true, true, true, true, true, true, false, false, false, false, false, false, false, false, false, false, false] rfl rfl (any_of HT_.out (by kernel_rfl)) (fun _ _ _ h => h) (Or.inl ⟨by rfl, ?_⟩) ?_ ?_
      rotate_left
      · intro w'
        go_simp
        with_reducible rfl
      rotate_left
      · simp only [Act.put, List.setIfInBounds_toArray, List.set_cons_zero, List.set_cons_succ, i64_w, i32_w]
        rfl
      refine pure_ (i := 17) (N := (some 217)) (v := ?_) (a' := ?_) #[true, true, true, true, true, true, true, true, true, true, true, true, true, true, true, true, true, true, false, false, false, false, false, false, false, false, false, false] rfl rfl (any_of HT_.out (by kernel_rfl)) (fun _ _ _ h => h) (Or.inl ⟨by rfl, ?_⟩) ?_ ?_
      rotate_left
      · intro w'
        go_simp
        with_reducible rfl
      rotate_left
      · simp only [Act.put, List.setIfInBounds_toArray, List.set_cons_zero, List.set_cons_succ, i64_w, i32_w]
        rfl
      refine pure_ (i := 18) (N := (some 218)) (v := ?_) (a' := ?_) #[true, true, true, true, true, true, true, true, true, true, true, true, true, true, true, true, true, true, true, false, false, false, false, false, false, false, false, false] rfl rfl (any_of HT_.out (by kernel_rfl)) (fun _ _ _ h => h) (Or.inl ⟨by rfl, ?_⟩) ?_ ?_
      rotate_left
      · intro w'
        go_simp
        with_reducible rfl
      rotate_left
      · simp only [Act.put, List.setIfInBounds_toArray, List.set_cons_zero, List.set_cons_succ, i64_w, i32_w]
        rfl
      refine take_ (i := 19) (N := (some 219)) (v := ?_) (a' := ?_) #[true, true, true, true, true, true, true, true, true, true, true, true, true, true, true, true, true, true, true, true, false, false, false, false, false, false, false, false] rfl rfl (take_ofW HT_.out HW_.out (by kernel_rfl)) (fun _ _ _ h => h) (Or.inl ⟨by rfl, ?_⟩) hHeld ?_ ?_
      rotate_left
      · intro w' s0
        (try dsimp only at s0)
        go_simp
        with_reducible rfl
      rotate_left
      · simp only [Act.put, List.setIfInBounds_toArray, List.set_cons_zero, List.set_cons_succ, i64_w, i32_w]
        rfl
      refine pure_ (i := 20) (N := (some 220)) (v := ?_) (a' := ?_) #[true, true, true, true, true, true, true, true, true, true, true, true, true, true, true, true, true, true, true, true, true, false, false, false, false, false, false, false] rfl rfl (any_of HT_.out (by kernel_rfl)) (fun _ _ _ h => h) (Or.inl ⟨by rfl, ?_⟩) ?_ ?_
      rotate_left
      · intro w'
        go_simp
        with_reducible rfl
      rotate_left
      · simp only [Act.put, List.setIfInBounds_toArray, List.set_cons_zero, List.set_cons_succ, i64_w, i32_w]
        rfl
      refine pure_ (i := 21) (N := (some 221)) (v := ?_) (a' := ?_) #[true, true, true, true, true, true, true, true, true, true, true, true, true, true, true, true, true, true, true, true, true, true, false, false, false, false, false, false] rfl rfl (any_of HT_.out (by kernel_rfl)) (fun _ _ _ h => h) (Or.inl ⟨by rfl, ?_⟩) ?_ ?_
      rotate_left
      · intro w'
        go_simp
        with_reducible rfl
      rotate_left
      · simp only [Act.put, List.setIfInBounds_toArray, List.set_cons_zero, List.set_cons_succ, i64_w, i32_w]
        rfl
      refine pure_ (i := 22) (N := (some 222)) (v := ?_) (a' := ?_) #[true, true, true, true, true, true, true, true, true, true, true, true, true, true, true, true, true, true, true, true, true, true, true, false, false, false, false, false] rfl rfl (any_of HT_.out (by kernel_rfl)) (fun _ _ _ h => h) (Or.inl ⟨by rfl, ?_⟩) ?_ ?_
      rotate_left
      · intro w'
        go_simp
        with_reducible rfl
      rotate_left
      · simp only [Act.put, List.setIfInBounds_toArray, List.set_cons_zero, List.set_cons_succ, i64_w, i32_w]
        rfl
      refine take_ (i := 23) (N := (some 223)) (v := ?_) (a' := ?_) #[true, true, true, true, true, true, true, true, true, true, true, true, true, true, true, true, true, true, true, true, true, true, true, true, false, false, false, false] rfl rfl (take_ofW HT_.out HW_.out (by kernel_rfl)) (fun _ _ _ h => h) (Or.inl ⟨by rfl, ?_⟩) hHeld ?_ ?_
      rotate_left
      · intro w' s0
        (try dsimp only at s0)
        go_simp
        with_reducible rfl
      rotate_left
      · simp only [Act.put, List.setIfInBounds_toArray, List.set_cons_zero, List.set_cons_succ, i64_w, i32_w]
        rfl
      refine pure_ (i := 24) (N := (some 224)) (v := ?_) (a' := ?_) #[true, true, true, true, true, true, true, true, true, true, true, true, true, true, true, true, true, true, true, true, true, true, true, true, true, false, false, false] rfl rfl (any_of HT_.out (by kernel_rfl)) (fun _ _ _ h => h) (Or.inl ⟨by rfl, ?_⟩) ?_ ?_
      rotate_left
      · intro w'
        go_simp
        with_reducible rfl
      rotate_left
      · simp only [Act.put, List.setIfInBounds_toArray, List.set_cons_zero, List.set_cons_succ, i64_w, i32_w]
        rfl
      refine one_ (i := 25) (N := (some 225)) #[true, true, true, true, true, true, true, true, true, true, true, true, true, true, true, true, true, true, true, true, true, true, true, true, true, true, false, false] rfl rfl (one_of HT_.out (by kernel_rfl)) (by decide) (fun K hK => ?_)
      refine goes_ Try.func34 (by kernel_rfl) rfl #[.slice Aw (Z.L.getD i []).length cw_, .slice An (Y.L.getD i []).length cn_, .int .i64 (bit : Int)] (by rfl) rfl rfl (by (try simp only [List.map_toArray, List.map_cons, List.map_nil]); first | done | rfl) ?_
      with_reducible refine (HOb.out _ HB24.out).mono ?_
      rintro e w25 ⟨rfl, hd⟩
      have HB25 := Aside0.mk (show Below w22.heap.size w22 w25 from by obtain ⟨nd, rfl⟩ := hd; exact pw_below_drewN HB24.out nd)
      clear hd
      refine ⟨_, rfl, ?_⟩
      refine hK.out _ _ (HK35.out _ HB25.out) (fun hHeld => ?_)
      clear hK K
      refine norm_ (a' := ?_) ?_ ?_
      rotate_left
      · show Act.put _ (some 225) _ = _
        simp only [Act.put, List.setIfInBounds_toArray, List.set_cons_zero, List.set_cons_succ, i64_w, i32_w]
        rfl
      refine pure_ (i := 26) (N := (some 226)) (v := ?_) (a' := ?_) #[true, true, true, true, true, true, true, true, true, true, true, true, true, true, true, true, true, true, true, true, true, true, true, true, true, true, true, false] rfl rfl (any_of HT_.out (by kernel_rfl)) (fun _ _ _ h => h) (Or.inl ⟨by rfl, ?_⟩) ?_ ?_
      rotate_left
      · intro w'
        go_simp
        with_reducible rfl
      rotate_left
      · simp only [Act.put, List.setIfInBounds_toArray, List.set_cons_zero, List.set_cons_succ, i64_w, i32_w]
        rfl
      refine pure_ (i := 27) (N := (some 227)) (v := ?_) (a' := ?_) #[true, true, true, true, true, true, true, true, true, true, true, true, true, true, true, true, true, true, true, true, true, true, true, true, true, true, true, true] rfl rfl (any_of HT_.out (by kernel_rfl)) (fun _ _ _ h => h) (Or.inl ⟨by rfl, ?_⟩) ?_ ?_
      rotate_left
      · intro w'
        go_simp
        with_reducible rfl
      rotate_left
      · simp only [Act.put, List.setIfInBounds_toArray, List.set_cons_zero, List.set_cons_succ, i64_w, i32_w]
        rfl
      refine done_ (done_of HT_.out (by kernel_rfl)) ?_
      clear hHeld HK35 HOa HOb HB23 HB24 HSw HSn HSb HO1 HO2 HO3
      have HS26 := Aside0.mk (show Sep w w25 [dkT g0 Y.reads, ownT (Kd.int .u8) 5 (.slice A15 (Z.cur i).length c15) (Z.cur i), rowsT KB 28 (.slice (some ⟨bn, 0, none⟩) n cn) Y.L, rowsT KB 28 (.slice (some ⟨bw, 0, none⟩) n cw) Z.L] from (HS22.out.step HB25.out).sel 6 [1, 4, 2, 5] _ rfl (by decide) rfl)
      clear HS22 HB25
      go_wp2
      go_loopg [35] n (fun kq v35 wr => ∃ j : Nat, v35 = .int .i64 j ∧ Aside0 (j + kq = n) ∧ Aside0 (Sep w wr [dkT g0 Y.reads, ownT (Kd.int .u8) 5 (.slice A15 (Z.cur i).length c15) (Z.cur i), rowsT KB 28 (.slice (some ⟨bn, 0, none⟩) n cn) Y.L, rowsT KB 28 (.slice (some ⟨bw, 0, none⟩) n cw) Z.L]))
      case atStart => exact ⟨0, rfl, ⟨Nat.zero_add _⟩, HS26⟩
      case round =>
        clear HS26
        obtain ⟨j, rfl, HJ, HS⟩ := hrel
        rename World => wq
        by_cases hj : j < n
        · have hjb : decide (j < n) = true := decide_eq_true hj
          have hj0 : (0 : Int) ≤ (j : Int) := by omega
          have hj1 : (j : Int) < (n : Int) := by omega
          have HJ1 := Aside0.mk hj
          have HB := Aside0.mk (below_drew1 (Below.refl wq.heap.size wq))
          by_cases hji : j = i
          · have hne : ((j : Int) != (i : Int)) = false := bne_eq_false_iff_eq.mpr (by omega)
            clear hj hji
            go_upto_region 40 with (fail)
            refine start_ (n := 16) (S := fun _ => True) (ds := []) #[false, false, false, false, false, false, false, false, false, false, false, false, false, false, false, false] (by kernel_rfl) rfl rfl (trivial) (fun hHeld => ?_); refine with_tabW turns40_tab turns40_bits (fun HT_ HW_ => ?_)
            generalize wq.drew = wd at hHeld HB ⊢
            refine pure_ (i := 0) (N := (some 233)) (v := ?_) (a' := ?_) #[true, false, false, false, false, false, false, false, false, false, false, false, false, false, false, false] rfl rfl (any_of HT_.out (by kernel_rfl)) (fun _ _ _ h => h) (Or.inl ⟨by rfl, ?_⟩) ?_ ?_
            rotate_left
            · intro w'
              go_simp
              with_reducible rfl
            rotate_left
            · simp only [Act.put, List.setIfInBounds_toArray, List.set_cons_zero, List.set_cons_succ, i64_w, i32_w]
              rfl
            refine pure_ (i := 1) (N := (some 234)) (v := ?_) (a' := ?_) #[true, true, false, false, false, false, false, false, false, false, false, false, false, false, false, false] rfl rfl (any_of HT_.out (by kernel_rfl)) (fun _ _ _ h => h) (Or.inl ⟨by rfl, ?_⟩) ?_ ?_
            rotate_left
            · intro w'
              go_simp
              with_reducible rfl
            rotate_left
            · simp only [Act.put, List.setIfInBounds_toArray, List.set_cons_zero, List.set_cons_succ, i64_w, i32_w]
              rfl
            refine pure_ (i := 2) (N := (some 235)) (v := ?_) (a' := ?_) #[true, true, true, false, false, false, false, false, false, false, false, false, false, false, false, false] rfl rfl (any_of HT_.out (by kernel_rfl)) (fun _ _ _ h => h) (Or.inl ⟨by rfl, ?_⟩) ?_ ?_
            rotate_left
            · intro w'
              go_simp
              with_reducible rfl
            rotate_left
            · simp only [Act.put, List.setIfInBounds_toArray, List.set_cons_zero, List.set_cons_succ, i64_w, i32_w]
              rfl
            refine pure_ (i := 3) (N := (some 236)) (v := ?_) (a' := ?_) #[true, true, true, true, false, false, false, false, false, false, false, false, false, false, false, false] rfl rfl (any_of HT_.out (by kernel_rfl)) (fun _ _ _ h => h) (Or.inl ⟨by rfl, ?_⟩) ?_ ?_
            rotate_left
            · intro w'
              go_simp
              with_reducible rfl
            rotate_left
            · simp only [Act.put, List.setIfInBounds_toArray, List.set_cons_zero, List.set_cons_succ, i64_w, i32_w]
              rfl
            refine pure_ (i := 4) (N := (some 237)) (v := undef) (a' := ?_) #[true, true, true, true, true, false, false, false, false, false, false, false, false, false, false, false] rfl rfl (any_of HT_.out (by kernel_rfl)) (fun _ _ _ h => h) (Or.inr ⟨by rfl, rfl⟩) ?_ ?_
            rotate_left
            · simp only [Act.put, List.setIfInBounds_toArray, List.set_cons_zero, List.set_cons_succ, i64_w, i32_w]
              rfl
            refine pure_ (i := 5) (N := (some 238)) (v := undef) (a' := ?_) #[true, true, true, true, true, true, false, false, false, false, false, false, false, false, false, false] rfl rfl (any_of HT_.out (by kernel_rfl)) (fun _ _ _ h => h) (Or.inr ⟨by rfl, rfl⟩) ?_ ?_
            rotate_left
            · simp only [Act.put, List.setIfInBounds_toArray, List.set_cons_zero, List.set_cons_succ, i64_w, i32_w]
              rfl
            refine pure_ (i := 6) (N := (some 239)) (v := undef) (a' := ?_) #[true, true, true, true, true, true, true, false, false, false, false, false, false, false, false, false] rfl rfl (any_of HT_.out (by kernel_rfl)) (fun _ _ _ h => h) (Or.inr ⟨by rfl, rfl⟩) ?_ ?_
            rotate_left
            · simp only [Act.put, List.setIfInBounds_toArray, List.set_cons_zero, List.set_cons_succ, i64_w, i32_w]
              rfl
            refine pure_ (i := 7) (N := (some 240)) (v := undef) (a' := ?_) #[true, true, true, true, true, true, true, true, false, false, false, false, false, false, false, false] rfl rfl (any_of HT_.out (by kernel_rfl)) (fun _ _ _ h => h) (Or.inr ⟨by rfl, rfl⟩) ?_ ?_
            rotate_left
            · simp only [Act.put, List.setIfInBounds_toArray, List.set_cons_zero, List.set_cons_succ, i64_w, i32_w]
              rfl
            refine pure_ (i := 8) (N := (some 241)) (v := undef) (a' := ?_) #[true, true, true, true, true, true, true, true, true, false, false, false, false, false, false, false] rfl rfl (any_of HT_.out (by kernel_rfl)) (fun _ _ _ h => h) (Or.inr ⟨by rfl, rfl⟩) ?_ ?_
            rotate_left
            · simp only [Act.put, List.setIfInBounds_toArray, List.set_cons_zero, List.set_cons_succ, i64_w, i32_w]
              rfl
            refine pure_ (i := 9) (N := (some 242)) (v := undef) (a' := ?_) #[true, true, true, true, true, true, true, true, true, true, false, false, false, false, false, false] rfl rfl (any_of HT_.out (by kernel_rfl)) (fun _ _ _ h => h) (Or.inr ⟨by rfl, rfl⟩) ?_ ?_
            rotate_left
            · simp only [Act.put, List.setIfInBounds_toArray, List.set_cons_zero, List.set_cons_succ, i64_w, i32_w]
              rfl
            refine pure_ (i := 10) (N := (some 243)) (v := undef) (a' := ?_) #[true, true, true, true, true, true, true, true, true, true, true, false, false, false, false, false] rfl rfl (any_of HT_.out (by kernel_rfl)) (fun _ _ _ h => h) (Or.inr ⟨by rfl, rfl⟩) ?_ ?_
            rotate_left
            · simp only [Act.put, List.setIfInBounds_toArray, List.set_cons_zero, List.set_cons_succ, i64_w, i32_w]
              rfl
            refine pure_ (i := 11) (N := (some 244)) (v := undef) (a' := ?_) #[true, true, true, true, true, true, true, true, true, true, true, true, false, false, false, false] rfl rfl (any_of HT_.out (by kernel_rfl)) (fun _ _ _ h => h) (Or.inr ⟨by rfl, rfl⟩) ?_ ?_
            rotate_left
            · simp only [Act.put, List.setIfInBounds_toArray, List.set_cons_zero, List.set_cons_succ, i64_w, i32_w]
              rfl
            refine pure_ (i := 12) (N := (some 245)) (v := undef) (a' := ?_) #[true, true, true, true, true, true, true, true, true, true, true, true, true, false, false, false] rfl rfl (any_of HT_.out (by kernel_rfl)) (fun _ _ _ h => h) (Or.inr ⟨by rfl, rfl⟩) ?_ ?_
            rotate_left
            · simp only [Act.put, List.setIfInBounds_toArray, List.set_cons_zero, List.set_cons_succ, i64_w, i32_w]
              rfl
            refine pure_ (i := 13) (N := (some 246)) (v := undef) (a' := ?_) #[true, true, true, true, true, true, true, true, true, true, true, true, true, true, false, false] rfl rfl (any_of HT_.out (by kernel_rfl)) (fun _ _ _ h => h) (Or.inr ⟨by rfl, rfl⟩) ?_ ?_
            rotate_left
            · simp only [Act.put, List.setIfInBounds_toArray, List.set_cons_zero, List.set_cons_succ, i64_w, i32_w]
              rfl
            refine pure_ (i := 14) (N := (some 247)) (v := undef) (a' := ?_) #[true, true, true, true, true, true, true, true, true, true, true, true, true, true, true, false] rfl rfl (any_of HT_.out (by kernel_rfl)) (fun _ _ _ h => h) (Or.inr ⟨by rfl, rfl⟩) ?_ ?_
            rotate_left
            · simp only [Act.put, List.setIfInBounds_toArray, List.set_cons_zero, List.set_cons_succ, i64_w, i32_w]
              rfl
            refine pure_ (i := 15) (N := (some 248)) (v := ?_) (a' := ?_) #[true, true, true, true, true, true, true, true, true, true, true, true, true, true, true, true] rfl rfl (any_of HT_.out (by kernel_rfl)) (fun _ _ _ h => h) (Or.inl ⟨by rfl, ?_⟩) ?_ ?_
            rotate_left
            · intro w'
              go_simp
              with_reducible rfl
            rotate_left
            · simp only [Act.put, List.setIfInBounds_toArray, List.set_cons_zero, List.set_cons_succ, i64_w, i32_w]
              rfl
            refine done_ (done_of HT_.out (by kernel_rfl)) ?_
            have HSe := Aside0.mk (HS.out.step HB.out)
            clear hHeld HB HS
            go_wp2
            go_roundg (n - j - 1)
            case measure => have := HJ.out; have := HJ1.out; omega
            case rel => exact ⟨j + 1, (by have hi_ := HJ1.out; have hl_ := hnm; first | rfl | (simp; done)), ⟨by have := HJ.out; have := HJ1.out; omega⟩, HSe⟩
          · have hne : ((j : Int) != (i : Int)) = true := bne_iff_ne.mpr (by omega)
            have hst := HSM.out j hj hji
            obtain ⟨t, ht⟩ : ∃ x, x = Z.L.getD j [] := ⟨_, rfl⟩
            obtain ⟨A2_, c2_, hw1, _, hw2, _⟩ := (show Sep w wq [rowsT KB 28 (.slice (some ⟨bw, 0, none⟩) n cw) Z.L] from HS.out.sel 4 [3] _ rfl (by decide) rfl).rows_own.slot j hj
            obtain ⟨A1_, c1_, hn1, _, hn2_, _⟩ := (show Sep w wq [rowsT KB 28 (.slice (some ⟨bn, 0, none⟩) n cn) Y.L] from HS.out.sel 4 [2] _ rfl (by decide) rfl).rows_own.slot j hj
            rw [hst] at hn1 hn2_
            rw [← ht] at hw1 hw2 hn1 hn2_
            have HK40 := Aside0.mk (fun W (hW : Below wq.heap.size wq W) => (show (W.cell? ⟨bn, j, none⟩ = some (.slice A1_ t.length c1_) ∧ (convert 28 9 (.slice A1_ t.length c1_)).run Try.prog W = .ok (.string (strOfNums t)) W) ∧ (W.cell? ⟨bw, j, none⟩ = some (.slice A2_ t.length c2_) ∧ (convert 28 9 (.slice A2_ t.length c2_)).run Try.prog W = .ok (.string (strOfNums t)) W) from
              ⟨⟨(hW.cell (World.block_lt_of_cell? wq _ hn1)).trans hn1, Kd.C_string (P := Try.prog) (A := A1_) (c := c1_) Try.underlying28 Try.underlying5 Try.underlying9 (Kd.C_below hn2_ hW)⟩, (hW.cell (World.block_lt_of_cell? wq _ hw1)).trans hw1, Kd.C_string (P := Try.prog) (A := A2_) (c := c2_) Try.underlying28 Try.underlying5 Try.underlying9 (Kd.C_below hw2 hW)⟩))
            have c9b0 : ((strOfNums t).toList == (strOfNums t).toList) = true := beq_iff_eq.mpr rfl
            have c9b1 : ((strOfNums t).toList != (strOfNums t).toList) = false := bne_eq_false_iff_eq.mpr rfl
            clear hj hji hst ht hw1 hw2 hn1 hn2_
            go_upto_region 40 with (fail)
            refine start_ (n := 16) (S := fun W => (W.cell? ⟨bn, j, none⟩ = some (.slice A1_ t.length c1_) ∧ (convert 28 9 (.slice A1_ t.length c1_)).run Try.prog W = .ok (.string (strOfNums t)) W) ∧ (W.cell? ⟨bw, j, none⟩ = some (.slice A2_ t.length c2_) ∧ (convert 28 9 (.slice A2_ t.length c2_)).run Try.prog W = .ok (.string (strOfNums t)) W)) (ds := []) #[false, false, false, false, false, false, false, false, false, false, false, false, false, false, false, false] (by kernel_rfl) rfl rfl (HK40.out _ HB.out) (fun hHeld => ?_); refine with_tabW turns40_tab turns40_bits (fun HT_ HW_ => ?_)
            generalize wq.drew = wd at hHeld HB ⊢
            refine pure_ (i := 0) (N := (some 233)) (v := ?_) (a' := ?_) #[true, false, false, false, false, false, false, false, false, false, false, false, false, false, false, false] rfl rfl (any_of HT_.out (by kernel_rfl)) (fun _ _ _ h => h) (Or.inl ⟨by rfl, ?_⟩) ?_ ?_
            rotate_left
            · intro w'
              go_simp
              with_reducible rfl
            rotate_left
            · simp only [Act.put, List.setIfInBounds_toArray, List.set_cons_zero, List.set_cons_succ, i64_w, i32_w]
              rfl
            refine pure_ (i := 1) (N := (some 234)) (v := ?_) (a' := ?_) #[true, true, false, false, false, false, false, false, false, false, false, false, false, false, false, false] rfl rfl (any_of HT_.out (by kernel_rfl)) (fun _ _ _ h => h) (Or.inl ⟨by rfl, ?_⟩) ?_ ?_
            rotate_left
            · intro w'
              go_simp
              with_reducible rfl
            rotate_left
            · simp only [Act.put, List.setIfInBounds_toArray, List.set_cons_zero, List.set_cons_succ, i64_w, i32_w]
              rfl
            refine pure_ (i := 2) (N := (some 235)) (v := ?_) (a' := ?_) #[true, true, true, false, false, false, false, false, false, false, false, false, false, false, false, false] rfl rfl (any_of HT_.out (by kernel_rfl)) (fun _ _ _ h => h) (Or.inl ⟨by rfl, ?_⟩) ?_ ?_
            rotate_left
            · intro w'
              go_simp
              with_reducible rfl
            rotate_left
            · simp only [Act.put, List.setIfInBounds_toArray, List.set_cons_zero, List.set_cons_succ, i64_w, i32_w]
              rfl
            refine pure_ (i := 3) (N := (some 236)) (v := ?_) (a' := ?_) #[true, true, true, true, false, false, false, false, false, false, false, false, false, false, false, false] rfl rfl (any_of HT_.out (by kernel_rfl)) (fun _ _ _ h => h) (Or.inl ⟨by rfl, ?_⟩) ?_ ?_
            rotate_left
            · intro w'
              go_simp
              with_reducible rfl
            rotate_left
            · simp only [Act.put, List.setIfInBounds_toArray, List.set_cons_zero, List.set_cons_succ, i64_w, i32_w]
              rfl
            refine pure_ (i := 4) (N := (some 237)) (v := ?_) (a' := ?_) #[true, true, true, true, true, false, false, false, false, false, false, false, false, false, false, false] rfl rfl (any_of HT_.out (by kernel_rfl)) (fun _ _ _ h => h) (Or.inl ⟨by rfl, ?_⟩) ?_ ?_
            rotate_left
            · intro w'
              go_simp
              with_reducible rfl
            rotate_left
            · simp only [Act.put, List.setIfInBounds_toArray, List.set_cons_zero, List.set_cons_succ, i64_w, i32_w]
              rfl
            refine pure_ (i := 5) (N := (some 238)) (v := ?_) (a' := ?_) #[true, true, true, true, true, true, false, false, false, false, false, false, false, false, false, false] rfl rfl (any_of HT_.out (by kernel_rfl)) (fun _ _ _ h => h) (Or.inl ⟨by rfl, ?_⟩) ?_ ?_
            rotate_left
            · intro w'
              go_simp
              with_reducible rfl
            rotate_left
            · simp only [Act.put, List.setIfInBounds_toArray, List.set_cons_zero, List.set_cons_succ, i64_w, i32_w]
              rfl
            refine pure_ (i := 6) (N := (some 239)) (v := ?_) (a' := ?_) #[true, true, true, true, true, true, true, false, false, false, false, false, false, false, false, false] rfl rfl (any_of HT_.out (by kernel_rfl)) (fun _ _ _ h => h) (Or.inl ⟨by rfl, ?_⟩) ?_ ?_
            rotate_left
            · intro w'
              go_simp
              with_reducible rfl
            rotate_left
            · simp only [Act.put, List.setIfInBounds_toArray, List.set_cons_zero, List.set_cons_succ, i64_w, i32_w]
              rfl
            refine take_ (i := 7) (N := (some 240)) (v := ?_) (a' := ?_) #[true, true, true, true, true, true, true, true, false, false, false, false, false, false, false, false] rfl rfl (take_ofW HT_.out HW_.out (by kernel_rfl)) (fun _ _ _ h => h) (Or.inl ⟨by rfl, ?_⟩) hHeld ?_ ?_
            rotate_left
            · intro w' s0
              (try dsimp only at s0)
              go_simp
              with_reducible rfl
            rotate_left
            · simp only [Act.put, List.setIfInBounds_toArray, List.set_cons_zero, List.set_cons_succ, i64_w, i32_w]
              rfl
            refine take_ (i := 8) (N := (some 241)) (v := ?_) (a' := ?_) #[true, true, true, true, true, true, true, true, true, false, false, false, false, false, false, false] rfl rfl (take_ofW HT_.out HW_.out (by kernel_rfl)) (fun _ _ _ h => h) (Or.inl ⟨by rfl, ?_⟩) hHeld ?_ ?_
            rotate_left
            · intro w' s0
              (try dsimp only at s0)
              go_simp
              with_reducible rfl
            rotate_left
            · simp only [Act.put, List.setIfInBounds_toArray, List.set_cons_zero, List.set_cons_succ, i64_w, i32_w]
              rfl
            refine pure_ (i := 9) (N := (some 242)) (v := ?_) (a' := ?_) #[true, true, true, true, true, true, true, true, true, true, false, false, false, false, false, false] rfl rfl (any_of HT_.out (by kernel_rfl)) (fun _ _ _ h => h) (Or.inl ⟨by rfl, ?_⟩) ?_ ?_
            rotate_left
            · intro w'
              go_simp
              with_reducible rfl
            rotate_left
            · simp only [Act.put, List.setIfInBounds_toArray, List.set_cons_zero, List.set_cons_succ, i64_w, i32_w]
              rfl
            refine pure_ (i := 10) (N := (some 243)) (v := ?_) (a' := ?_) #[true, true, true, true, true, true, true, true, true, true, true, false, false, false, false, false] rfl rfl (any_of HT_.out (by kernel_rfl)) (fun _ _ _ h => h) (Or.inl ⟨by rfl, ?_⟩) ?_ ?_
            rotate_left
            · intro w'
              go_simp
              with_reducible rfl
            rotate_left
            · simp only [Act.put, List.setIfInBounds_toArray, List.set_cons_zero, List.set_cons_succ, i64_w, i32_w]
              rfl
            refine pure_ (i := 11) (N := (some 244)) (v := ?_) (a' := ?_) #[true, true, true, true, true, true, true, true, true, true, true, true, false, false, false, false] rfl rfl (any_of HT_.out (by kernel_rfl)) (fun _ _ _ h => h) (Or.inl ⟨by rfl, ?_⟩) ?_ ?_
            rotate_left
            · intro w'
              go_simp
              with_reducible rfl
            rotate_left
            · simp only [Act.put, List.setIfInBounds_toArray, List.set_cons_zero, List.set_cons_succ, i64_w, i32_w]
              rfl
            refine take_ (i := 12) (N := (some 245)) (v := ?_) (a' := ?_) #[true, true, true, true, true, true, true, true, true, true, true, true, true, false, false, false] rfl rfl (take_ofW HT_.out HW_.out (by kernel_rfl)) (fun _ _ _ h => h) (Or.inl ⟨by rfl, ?_⟩) hHeld ?_ ?_
            rotate_left
            · intro w' s0
              (try dsimp only at s0)
              go_simp
              with_reducible rfl
            rotate_left
            · simp only [Act.put, List.setIfInBounds_toArray, List.set_cons_zero, List.set_cons_succ, i64_w, i32_w]
              rfl
            refine take_ (i := 13) (N := (some 246)) (v := ?_) (a' := ?_) #[true, true, true, true, true, true, true, true, true, true, true, true, true, true, false, false] rfl rfl (take_ofW HT_.out HW_.out (by kernel_rfl)) (fun _ _ _ h => h) (Or.inl ⟨by rfl, ?_⟩) hHeld ?_ ?_
            rotate_left
            · intro w' s0
              (try dsimp only at s0)
              go_simp
              with_reducible rfl
            rotate_left
            · simp only [Act.put, List.setIfInBounds_toArray, List.set_cons_zero, List.set_cons_succ, i64_w, i32_w]
              rfl
            refine pure_ (i := 14) (N := (some 247)) (v := ?_) (a' := ?_) #[true, true, true, true, true, true, true, true, true, true, true, true, true, true, true, false] rfl rfl (any_of HT_.out (by kernel_rfl)) (fun _ _ _ h => h) (Or.inl ⟨by rfl, ?_⟩) ?_ ?_
            rotate_left
            · intro w'
              go_simp
              with_reducible rfl
            rotate_left
            · simp only [Act.put, List.setIfInBounds_toArray, List.set_cons_zero, List.set_cons_succ, i64_w, i32_w]
              rfl
            refine pure_ (i := 15) (N := (some 248)) (v := ?_) (a' := ?_) #[true, true, true, true, true, true, true, true, true, true, true, true, true, true, true, true] rfl rfl (any_of HT_.out (by kernel_rfl)) (fun _ _ _ h => h) (Or.inl ⟨by rfl, ?_⟩) ?_ ?_
            rotate_left
            · intro w'
              go_simp
              with_reducible rfl
            rotate_left
            · simp only [Act.put, List.setIfInBounds_toArray, List.set_cons_zero, List.set_cons_succ, i64_w, i32_w]
              rfl
            refine done_ (done_of HT_.out (by kernel_rfl)) ?_
            have HSe := Aside0.mk (HS.out.step HB.out)
            clear hHeld HB HS HK40 c9b0 c9b1
            go_wp2
            go_roundg (n - j - 1)
            case measure => have := HJ.out; have := HJ1.out; omega
            case rel => exact ⟨j + 1, (by have hi_ := HJ1.out; have hl_ := hnm; first | rfl | (simp; done)), ⟨by have := HJ.out; have := HJ1.out; omega⟩, HSe⟩
        · have hjb : decide (j < n) = false := decide_eq_false hj
          clear hj
          have HTu := Aside0.mk (Sep.turn HS.out i bit (show i < Y.n from by rw [HYn.out]; exact HI.out) HBIT.out)
          obtain ⟨Y2, hY2⟩ : ∃ x, x = Y.reads.turn i bit := ⟨_, rfl⟩
          have HY2n := Aside0.mk (show Y2.n = n from by rw [hY2]; exact HYn.out)
          rw [← hY2] at HTu HBK HSI
          clear hY2
          have HRd := Aside0.mk (fun W (L : List Th) (h : Sep w W (dkT g0 Y2 :: L)) => Sep.read h i (show i < Y2.n from by rw [HY2n.out]; exact HI.out))
          have HIM := Aside0.mk (fun W (L : List Th) (h : Sep w W (dkT g0 Y2.reads :: L)) => (show Calls Try.prog 26 #[.pointer (some ⟨g0, 0, none⟩)] W (fun e w' => ∃ go c, e = .returned (.slice (some ⟨go, 0, none⟩) n c) ∧ Sep w w' (rowsT KB 28 (.slice (some ⟨go, 0, none⟩) n c) Y2.L :: dkT g0 Y2.reads :: L)) from by
            have h_ := Sep.image h
            rw [show Y2.reads.n = n from HY2n.out] at h_
            exact h_))
          clear HS
          go_upto_region 45 with (first
            | (go_at_call 33; (with_reducible refine HTu.out.mono ?_); rintro e w30 ⟨rfl, h⟩; have HS30 := Aside0.mk h; clear h)
            | (go_at_call 25; (with_reducible refine (HRd.out _ _ (HS30.out.step (by repeat (first | exact Below.refl _ _ | apply below_drew1 | apply pw_below_drewN | apply below_alloc)))).mono ?_); rintro e w31 ⟨v31, rfl, h⟩; obtain ⟨A31, c31, e31⟩ := h.own_slice; subst e31; have HS31 := Aside0.mk h; clear h))
          clear HTu HRd HS30
          have hcv1 := (show (convert 28 9 (.slice A31 (Y2.cur i).length c31)).run Try.prog w31 = .ok (.string (strOfNums (Y2.cur i))) w31 from Kd.C_string (P := Try.prog) Try.underlying28 Try.underlying5 Try.underlying9 HS31.out.own_C.1)
          have hcv2 := (show (convert 28 9 (.slice A15 (Z.cur i).length c15)).run Try.prog w31 = .ok (.string (strOfNums (Z.cur i))) w31 from Kd.C_string (P := Try.prog) Try.underlying28 Try.underlying5 Try.underlying9 HS31.out.up2.own_C.1)
          have c9b0 : ((strOfNums (Y2.cur i)).toList == (strOfNums (Z.cur i)).toList) = true := beq_iff_eq.mpr HBK.out
          obtain ⟨ks, hks⟩ := HSI.out
          have HSMI := Aside0.mk (fun W go c (h : Sep w W [rowsT KB 28 (.slice (some ⟨go, 0, none⟩) n c) Y2.L, rowsT KB 28 (.slice (some ⟨bw, 0, none⟩) n cw) Z.L]) => (show Calls Try.prog 36 #[.slice (some ⟨go, 0, none⟩) n c, .slice (some ⟨bw, 0, none⟩) n cw] W (fun e w' => e = .returned (.bool true) ∧ Drawn0 W w') from by
            obtain ⟨_, _, r1⟩ := h.rows_own.own
            obtain ⟨_, _, r2⟩ := h.up1.rows_own.own
            obtain ⟨e1, f1, g1⟩ := Kd.R_reads' r1
            obtain ⟨e2, f2, g2⟩ := Kd.R_reads' r2
            have h_ := R.kilnref3_SameImage.calls ks (some ⟨go, 0, none⟩) c Y2.L (some ⟨bw, 0, none⟩) cw Z.L true W g1 (e1 ▸ f1) g2 (e2 ▸ f2) hks
            rw [← e1, ← e2] at h_
            exact h_))
          clear hks
          go_wp2_with (first
            | (go_at_call 26; (with_reducible refine (HIM.out _ _ HS31.out.up1).mono ?_); rintro e w32 ⟨go, c32, rfl, h⟩; have HS32 := Aside0.mk h; clear h)
            | (go_at_call 36; (with_reducible refine (HSMI.out _ _ _ (HS32.out.sel 6 [0, 5] _ rfl (by decide) rfl)).mono ?_); rintro e w33 ⟨rfl, hd⟩; have HB33 := Aside0.mk (show Below w32.heap.size w32 w33 from by obtain ⟨nd, rfl⟩ := hd; exact pw_below_drewN (Below.refl _ _) nd); clear hd))
          go_ret
          exact ⟨rfl, (HS32.out.step HB33.out).below⟩
end Go.Proofs.Ytddnhcnkjcdfgaa.M
