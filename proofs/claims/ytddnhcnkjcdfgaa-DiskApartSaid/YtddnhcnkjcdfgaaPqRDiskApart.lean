/- DiskApart: two disks know nothing of one another, whatever two scripts do to them by turns. -/
import Derived.Test.YtddnhcnkjcdfgaaPqZ4
import Derived.Test.YtddnhcnkjcdfgaaRows
import Derived.ChangeSlices
import Derived.SizedLaws
import Derived.ChangeArms
import Derived.WalkKit
import Derived.ProofKit
import Derived.OpenShut
import Derived.ShutString
import Derived.ChangeOld
import Derived.Below
import Derived.Deep.DeepHandedRow
import Derived.Lib.LaidTab
namespace Go.Proofs.Ytddnhcnkjcdfgaa.M
open Go.RowKit Go.Maps Go.Proofs.YtddnhcnkjcdfgaaW.PrintWords Go.Proofs.YtddnhcnkjcdfgaaW.PrintLast Go.Proofs.YtddnhcnkjcdfgaaW.PrintMore
open Go.Proofs.Ytddnhcnkjcdfgaa.P hiding S106 k106 rd_T106 at_T106
open Go.Proofs.Ytddnhcnkjcdfgaa.R
set_option linter.unusedVariables false
set_option linter.unusedSimpArgs false
variable {w0 : World} {L : List Th}
def does3n_T : Bool × List (List Nat × List Nat) := (true, [([], []), ([0], [0]), ([1], [1]), ([2], [2]), ([], []), ([4], [4]), ([3, 5], [3, 5]), ([6], [6]), ([7], [7]), ([7], [7]), ([7], [7]), ([], []), ([11, 8, 6, 0, 1, 2, 3, 4, 5, 6, 7, 8, 11], [8, 11]), ([9, 12, 0, 1, 2, 3, 4, 5, 6, 7, 8, 9, 11, 12], [9]), ([10, 13, 0, 1, 2, 3, 4, 5, 6, 7, 8, 9, 10, 11, 12, 13], [10])])
def does3n_B : List Nat := [0, 1, 3, 7, 0, 16, 63, 127, 255, 255, 255, 0, 2559, 7167, 16383]
theorem does3n_tab : rtab .any (opsOf Try.f38 3) = does3n_T := by kernel_rfl
theorem does3n_bits : waitsOk does3n_T.2 does3n_B = true := by kernel_rfl
def does4n_T : Bool × List (List Nat × List Nat) := (true, [([], []), ([0], [0]), ([1], [1]), ([2], [2]), ([], []), ([4], [4]), ([3, 5], [3, 5]), ([6], [6]), ([7], [7]), ([7], [7]), ([8, 6, 0, 1, 2, 3, 4, 5, 6, 7, 8], [8]), ([9, 10, 0, 1, 2, 3, 4, 5, 6, 7, 8, 9, 10], [9])])
def does4n_B : List Nat := [0, 1, 3, 7, 0, 16, 63, 127, 255, 255, 511, 2047]
theorem does4n_tab : rtab .any (opsOf Try.f38 4) = does4n_T := by kernel_rfl
theorem does4n_bits : waitsOk does4n_T.2 does4n_B = true := by kernel_rfl
set_option maxHeartbeats 8000000 in
set_option maxRecDepth 100000 in
theorem does_read_no (gp g : Nat) (s : DS) (A1 : Option Addr) (c1 : Nat) (A2 : Option Addr) (c2 : Nat) (l1 l2 : List S106) (w : World)
    (h : Sep w0 w (cellsT gp (prC g s (.slice A1 l1.length c1) (.slice A2 l2.length c2)) 78 :: dkT g s :: refT (.slice A1 l1.length c1) (.slice A2 l2.length c2) l1 l2 :: L)) (hl : l1.length + l2.length ≤ 1000000) (hR : Rl s l1 l2) (a : Int) (hi : ¬ (0 ≤ a ∧ a < (s.n : Int)))
    (t fl : Int) (dv fv : Value) :
    Calls Try.prog 38 #[.pointer (some ⟨gp, 0, none⟩), .agg #[.int .i64 0, .int .i64 a, .int .i64 t, dv, .int .i64 fl, fv]] w fun e w' => e = .returned (.bool true) ∧ ∃ A1' c1' A2' c2',
      Sep w0 w' (cellsT gp (prC g s (.slice A1' l1.length c1') (.slice A2' l2.length c2')) 78 :: dkT g s :: refT (.slice A1' l1.length c1') (.slice A2' l2.length c2') l1 l2 :: L) := by
  have HS0 := Aside0.mk (h.push_alloc #[.int .i64 0, .int .i64 a, .int .i64 t, dv, .int .i64 fl, fv] 73)
  have hk0 := read_no l1 l2 s.n a s.r s.wr s.fl hi 1
  generalize hk00 : 1 = k0 at hk0
  have HRF := Aside0.mk hk0
  have HI := Aside0.mk hi
  clear h hl hk0 hk00 hR hi
  go_enter Try.func38, Try.ntmps38
  go_upto_region 1 with (fail)
  generalize w.alloc (.cells #[.int .i64 0, .int .i64 a, .int .i64 t, dv, .int .i64 fl, fv] 73) = w1 at HS0 ⊢
  generalize w.heap.size = gb at HS0 ⊢
  have hk : w1.cell? ⟨gb, 0, none⟩ = some (.int .i64 0) := blk_cell HS0.out.cells.1 0
  go_upto_region 3 with (fail)
  have HS1 := Aside0.mk (HS0.out.step (below_drew1 (Below.refl w1.heap.size w1)))
  clear hk
  refine start_ (n := 15) (S := fun W => W.cell? ⟨gp, 1, none⟩ = some (.int .i64 (s.n : Int)) ∧ W.cell? ⟨gp, 2, none⟩ = some (.slice A1 l1.length c1) ∧ W.cell? ⟨gp, 3, none⟩ = some (.slice A2 l2.length c2) ∧ W.cell? ⟨gp, 4, none⟩ = some (.int .i64 s.r) ∧ W.cell? ⟨gp, 5, none⟩ = some (.int .i64 s.wr) ∧ W.cell? ⟨gp, 6, none⟩ = some (.int .i64 s.fl) ∧ W.cell? ⟨gb, 1, none⟩ = some (.int .i64 a)) (ds := [12]) (bb 15 0) (by kernel_rfl) rfl rfl ((pr_held HS1.out)) (fun hHeld => ?_); refine with_tabW does3n_tab does3n_bits (fun HT_ HW_ => ?_)
  generalize w1.drew = wd at hHeld HS1 ⊢
  refine pure_ (i := 0) (N := (some 25)) (v := ?_) (a' := ?_) (bb 15 1) rfl rfl (any_of HT_.out (by kernel_rfl)) (fun _ _ _ h => h) (Or.inl ⟨by rfl, ?_⟩) ?_ ?_
  rotate_left
  · intro w'
    go_simp
    with_reducible rfl
  rotate_left
  · simp only [Act.put, List.setIfInBounds_toArray, List.set_cons_zero, List.set_cons_succ, i64_w, i32_w]
    rfl
  refine pure_ (i := 1) (N := (some 26)) (v := ?_) (a' := ?_) (bb 15 3) rfl rfl (any_of HT_.out (by kernel_rfl)) (fun _ _ _ h => h) (Or.inl ⟨by rfl, ?_⟩) ?_ ?_
  rotate_left
  · intro w'
    go_simp
    with_reducible rfl
  rotate_left
  · simp only [Act.put, List.setIfInBounds_toArray, List.set_cons_zero, List.set_cons_succ, i64_w, i32_w]
    rfl
  refine pure_ (i := 2) (N := (some 27)) (v := ?_) (a' := ?_) (bb 15 7) rfl rfl (any_of HT_.out (by kernel_rfl)) (fun _ _ _ h => h) (Or.inl ⟨by rfl, ?_⟩) ?_ ?_
  rotate_left
  · intro w'
    go_simp
    with_reducible rfl
  rotate_left
  · simp only [Act.put, List.setIfInBounds_toArray, List.set_cons_zero, List.set_cons_succ, i64_w, i32_w]
    rfl
  refine take_ (i := 3) (N := (some 28)) (v := ?_) (a' := ?_) (bb 15 15) rfl rfl (take_ofW HT_.out HW_.out (by kernel_rfl)) (fun _ _ _ h => h) (Or.inl ⟨by rfl, ?_⟩) hHeld ?_ ?_
  rotate_left
  · intro w' s0
    (try dsimp only at s0)
    go_simp
    with_reducible rfl
  rotate_left
  · simp only [Act.put, List.setIfInBounds_toArray, List.set_cons_zero, List.set_cons_succ, i64_w, i32_w]
    rfl
  refine pure_ (i := 4) (N := (some 29)) (v := ?_) (a' := ?_) (bb 15 31) rfl rfl (any_of HT_.out (by kernel_rfl)) (fun _ _ _ h => h) (Or.inl ⟨by rfl, ?_⟩) ?_ ?_
  rotate_left
  · intro w'
    go_simp
    with_reducible rfl
  rotate_left
  · simp only [Act.put, List.setIfInBounds_toArray, List.set_cons_zero, List.set_cons_succ, i64_w, i32_w]
    rfl
  refine take_ (i := 5) (N := (some 30)) (v := ?_) (a' := ?_) (bb 15 63) rfl rfl (take_ofW HT_.out HW_.out (by kernel_rfl)) (fun _ _ _ h => h) (Or.inl ⟨by rfl, ?_⟩) hHeld ?_ ?_
  rotate_left
  · intro w' s0
    (try dsimp only at s0)
    go_simp
    with_reducible rfl
  rotate_left
  · simp only [Act.put, List.setIfInBounds_toArray, List.set_cons_zero, List.set_cons_succ, i64_w, i32_w]
    rfl
  clear HS0
  refine two_ (i := 6) (j := 11) (Ni := some 31) (Nj := some 5) (bb 15 127) (bb 15 2111) rfl rfl rfl rfl (two_of HT_.out (by kernel_rfl)) (by decide) (by decide) (fun K hK => ?_) (fun K hK => ?_)
  case refine_1 =>
    refine goes_ Try.func48 (by kernel_rfl) rfl #[.agg #[.int .i64 (s.n : Int), .slice A1 l1.length c1, .slice A2 l2.length c2, .int .i64 s.r, .int .i64 s.wr, .int .i64 s.fl], .int .i64 a] (by rfl) rfl rfl (by (try simp only [List.map_toArray, List.map_cons, List.map_nil]); first | done | rfl) ?_
    with_reducible refine (Sep.rRead HS1.out.up3 k0 _ _ _ _ _ _ _ _ _ _ _ _ _ HRF.out).mono ?_
    rintro e w2 ⟨A1', c1', A2', c2', A7, c7, rfl, h⟩
    have HS2 := Aside0.mk h
    clear h
    refine ⟨_, rfl, ?_⟩
    refine hK.out _ _ (pr_held HS2.out.up3.up3) (fun hHeld => ?_)
    clear hK K
    refine norm_ (a' := ?_) ?_ ?_
    rotate_left
    · show Act.put _ (some 31) _ = _
      simp only [Act.put, List.setIfInBounds_toArray, List.set_cons_zero, List.set_cons_succ, i64_w, i32_w]
      rfl
    refine pure_ (i := 7) (N := (some 24)) (v := ?_) (a' := ?_) (bb 15 255) rfl rfl (any_of HT_.out (by kernel_rfl)) (fun _ _ _ h => h) (Or.inl ⟨by rfl, ?_⟩) ?_ ?_
    rotate_left
    · intro w'
      go_simp
      with_reducible rfl
    rotate_left
    · simp only [Act.put, List.setIfInBounds_toArray, List.set_cons_zero, List.set_cons_succ, i64_w, i32_w]
      rfl
    refine pure_ (i := 8) (N := (some 32)) (v := ?_) (a' := ?_) (bb 15 511) rfl rfl (any_of HT_.out (by kernel_rfl)) (fun _ _ _ h => h) (Or.inl ⟨by rfl, ?_⟩) ?_ ?_
    rotate_left
    · intro w'
      go_simp
      with_reducible rfl
    rotate_left
    · simp only [Act.put, List.setIfInBounds_toArray, List.set_cons_zero, List.set_cons_succ, i64_w, i32_w]
      rfl
    refine pure_ (i := 9) (N := (some 33)) (v := ?_) (a' := ?_) (bb 15 1023) rfl rfl (any_of HT_.out (by kernel_rfl)) (fun _ _ _ h => h) (Or.inl ⟨by rfl, ?_⟩) ?_ ?_
    rotate_left
    · intro w'
      go_simp
      with_reducible rfl
    rotate_left
    · simp only [Act.put, List.setIfInBounds_toArray, List.set_cons_zero, List.set_cons_succ, i64_w, i32_w]
      rfl
    refine pure_ (i := 10) (N := (some 34)) (v := ?_) (a' := ?_) (bb 15 2047) rfl rfl (any_of HT_.out (by kernel_rfl)) (fun _ _ _ h => h) (Or.inl ⟨by rfl, ?_⟩) ?_ ?_
    rotate_left
    · intro w'
      go_simp
      with_reducible rfl
    rotate_left
    · simp only [Act.put, List.setIfInBounds_toArray, List.set_cons_zero, List.set_cons_succ, i64_w, i32_w]
      rfl
    refine one_ (i := 11) (N := (some 5)) (bb 15 4095) rfl rfl (one_of HT_.out (by kernel_rfl)) (by decide) (fun K hK => ?_)
    refine value_ (w1 := ?_) (v := ?_) (by rfl) rfl ?_ ?_
    rotate_left 2
    · go_simp
      constructor
      · rfl
      · rfl
    have HS3 := Aside0.mk (HS2.out.push_alloc #[.int .i64 0, .slice none 0 0, .slice none 0 0, .int .i64 0, .int .i64 0, .int .i64 0] 76)
    generalize w2.alloc (.cells #[.int .i64 0, .slice none 0 0, .slice none 0 0, .int .i64 0, .int .i64 0, .int .i64 0] 76) = w3 at HS3 ⊢
    generalize w2.heap.size = gd at HS3 ⊢
    have hz := blk_cell HS3.out.cells.1
    have hz0 : w3.cell? ⟨gd, 0, none⟩ = some (.int .i64 0) := hz 0
    have hz1 : w3.cell? ⟨gd, 1, none⟩ = some (.slice none 0 0) := hz 1
    have hz2 : w3.cell? ⟨gd, 2, none⟩ = some (.slice none 0 0) := hz 2
    have hz3 : w3.cell? ⟨gd, 3, none⟩ = some (.int .i64 0) := hz 3
    have hz4 : w3.cell? ⟨gd, 4, none⟩ = some (.int .i64 0) := hz 4
    have hz5 : w3.cell? ⟨gd, 5, none⟩ = some (.int .i64 0) := hz 5
    have hf := blk_frozen HS3.out.cells.1
    have hf0 := hf 0
    have hf1 := hf 1
    have hf2 := hf 2
    have hf3 := hf 3
    have hf4 := hf 4
    have hf5 := hf 5
    clear hz hf
    refine hK.out _ _ (pr_held HS3.out.up4.up4) (fun hHeld => ?_)
    clear hK K
    refine norm_ (a' := ?_) ?_ ?_
    rotate_left
    · show Act.put _ (some 5) _ = _
      simp only [Act.put, List.setIfInBounds_toArray, List.set_cons_zero, List.set_cons_succ, i64_w, i32_w]
      rfl
    refine last_ (i := 12) (N := none) (bb 15 8191) rfl rfl (one_of HT_.out (by kernel_rfl)) (by decide) (fun K hK => ?_)
    refine skip_ (w1 := ?_) (by rfl) rfl ?_ ?_
    rotate_left
    · go_simp
      first | rfl | (constructor <;> rfl)
    refine hK.out _ _ ?_
    clear hK K
    refine pure_ (i := 13) (N := (some 6)) (v := ?_) (a' := ?_) (bb 15 16383) rfl rfl (any_of HT_.out (by kernel_rfl)) (fun _ _ _ h => h) (Or.inl ⟨by rfl, ?_⟩) ?_ ?_
    rotate_left
    · intro w'
      go_simp
      with_reducible rfl
    rotate_left
    · simp only [Act.put, List.setIfInBounds_toArray, List.set_cons_zero, List.set_cons_succ, i64_w, i32_w]
      rfl
    refine pure_ (i := 14) (N := (some 7)) (v := ?_) (a' := ?_) (bb 15 32767) rfl rfl (any_of HT_.out (by kernel_rfl)) (fun _ _ _ h => h) (Or.inl ⟨by rfl, ?_⟩) ?_ ?_
    rotate_left
    · intro w'
      go_simp
      with_reducible rfl
    rotate_left
    · simp only [Act.put, List.setIfInBounds_toArray, List.set_cons_zero, List.set_cons_succ, i64_w, i32_w]
      rfl
    refine done_ (done_of HT_.out (by kernel_rfl)) ?_
    have HS4 := Aside0.mk (HS3.out.cset60 (.int .i64 (s.n : Int)) (.slice A1' l1.length c1') (.slice A2' l2.length c2') (.int .i64 s.r) (.int .i64 s.wr) (.int .i64 s.fl))
    clear HS1 HS2 HS3 HRF hHeld hz0 hz1 hz2 hz3 hz4 hz5 hf0 hf1 hf2 hf3 hf4 hf5
    generalize ((((((w3.setCell ⟨gd, 0, none⟩ (.int .i64 (s.n : Int))).setCell ⟨gd, 1, none⟩ (.slice A1' l1.length c1')).setCell ⟨gd, 2, none⟩ (.slice A2' l2.length c2')).setCell ⟨gd, 3, none⟩ (.int .i64 s.r)).setCell ⟨gd, 4, none⟩ (.int .i64 s.wr)).setCell ⟨gd, 5, none⟩ (.int .i64 s.fl)) = w4 at HS4 ⊢
    go_upto_region 4 with (fail)
    have HS5 := Aside0.mk (HS4.out.step (below_drew1 (Below.refl w4.heap.size w4)))
    clear HS4
    refine start_ (n := 12) (S := fun W => W.cell? ⟨gp, 0, none⟩ = some (.pointer (some ⟨g, 0, none⟩)) ∧ W.cell? ⟨gb, 1, none⟩ = some (.int .i64 a)) (ds := [6]) (bb 12 0) (by kernel_rfl) rfl rfl (⟨blk_cell HS5.out.up4.cells.1 0, blk_cell HS5.out.up3.cells.1 1⟩) (fun hHeld => ?_); refine with_tabW does4n_tab does4n_bits (fun HT_ HW_ => ?_)
    generalize w4.drew = wd4 at hHeld HS5 ⊢
    refine pure_ (i := 0) (N := (some 36)) (v := ?_) (a' := ?_) (bb 12 1) rfl rfl (any_of HT_.out (by kernel_rfl)) (fun _ _ _ h => h) (Or.inl ⟨by rfl, ?_⟩) ?_ ?_
    rotate_left
    · intro w'
      go_simp
      with_reducible rfl
    rotate_left
    · simp only [Act.put, List.setIfInBounds_toArray, List.set_cons_zero, List.set_cons_succ, i64_w, i32_w]
      rfl
    refine pure_ (i := 1) (N := (some 37)) (v := ?_) (a' := ?_) (bb 12 3) rfl rfl (any_of HT_.out (by kernel_rfl)) (fun _ _ _ h => h) (Or.inl ⟨by rfl, ?_⟩) ?_ ?_
    rotate_left
    · intro w'
      go_simp
      with_reducible rfl
    rotate_left
    · simp only [Act.put, List.setIfInBounds_toArray, List.set_cons_zero, List.set_cons_succ, i64_w, i32_w]
      rfl
    refine pure_ (i := 2) (N := (some 38)) (v := ?_) (a' := ?_) (bb 12 7) rfl rfl (any_of HT_.out (by kernel_rfl)) (fun _ _ _ h => h) (Or.inl ⟨by rfl, ?_⟩) ?_ ?_
    rotate_left
    · intro w'
      go_simp
      with_reducible rfl
    rotate_left
    · simp only [Act.put, List.setIfInBounds_toArray, List.set_cons_zero, List.set_cons_succ, i64_w, i32_w]
      rfl
    refine take_ (i := 3) (N := (some 39)) (v := ?_) (a' := ?_) (bb 12 15) rfl rfl (take_ofW HT_.out HW_.out (by kernel_rfl)) (fun _ _ _ h => h) (Or.inl ⟨by rfl, ?_⟩) hHeld ?_ ?_
    rotate_left
    · intro w' s0
      (try dsimp only at s0)
      go_simp
      with_reducible rfl
    rotate_left
    · simp only [Act.put, List.setIfInBounds_toArray, List.set_cons_zero, List.set_cons_succ, i64_w, i32_w]
      rfl
    refine pure_ (i := 4) (N := (some 40)) (v := ?_) (a' := ?_) (bb 12 31) rfl rfl (any_of HT_.out (by kernel_rfl)) (fun _ _ _ h => h) (Or.inl ⟨by rfl, ?_⟩) ?_ ?_
    rotate_left
    · intro w'
      go_simp
      with_reducible rfl
    rotate_left
    · simp only [Act.put, List.setIfInBounds_toArray, List.set_cons_zero, List.set_cons_succ, i64_w, i32_w]
      rfl
    refine take_ (i := 5) (N := (some 41)) (v := ?_) (a' := ?_) (bb 12 63) rfl rfl (take_ofW HT_.out HW_.out (by kernel_rfl)) (fun _ _ _ h => h) (Or.inl ⟨by rfl, ?_⟩) hHeld ?_ ?_
    rotate_left
    · intro w' s0
      (try dsimp only at s0)
      go_simp
      with_reducible rfl
    rotate_left
    · simp only [Act.put, List.setIfInBounds_toArray, List.set_cons_zero, List.set_cons_succ, i64_w, i32_w]
      rfl
    refine last_ (i := 6) (N := (some 42)) (bb 12 127) rfl rfl (one_of HT_.out (by kernel_rfl)) (by decide) (fun K hK => ?_)
    refine goes_ Try.func25 (by kernel_rfl) rfl #[.pointer (some ⟨g, 0, none⟩), .int .i64 a] (by rfl) rfl rfl (by (try simp only [List.map_toArray, List.map_cons, List.map_nil]); first | done | rfl) ?_
    with_reducible refine (Sep.read_none HS5.out.up5 a HI.out).mono ?_
    rintro e w5 ⟨rfl, hw⟩
    subst hw
    have HS6 := Aside0.mk (Sep.push_nil (d := Kd.int .u8) (e := 5) HS5.out.up5)
    refine ⟨_, rfl, ?_⟩
    refine hK.out _ _ ?_
    clear hK K
    refine norm_ (a' := ?_) ?_ ?_
    rotate_left
    · show Act.put _ (some 42) _ = _
      simp only [Act.put, List.setIfInBounds_toArray, List.set_cons_zero, List.set_cons_succ, i64_w, i32_w]
      rfl
    refine pure_ (i := 7) (N := (some 35)) (v := ?_) (a' := ?_) (bb 12 255) rfl rfl (any_of HT_.out (by kernel_rfl)) (fun _ _ _ h => h) (Or.inl ⟨by rfl, ?_⟩) ?_ ?_
    rotate_left
    · intro w'
      go_simp
      with_reducible rfl
    rotate_left
    · simp only [Act.put, List.setIfInBounds_toArray, List.set_cons_zero, List.set_cons_succ, i64_w, i32_w]
      rfl
    refine pure_ (i := 8) (N := (some 43)) (v := ?_) (a' := ?_) (bb 12 511) rfl rfl (any_of HT_.out (by kernel_rfl)) (fun _ _ _ h => h) (Or.inl ⟨by rfl, ?_⟩) ?_ ?_
    rotate_left
    · intro w'
      go_simp
      with_reducible rfl
    rotate_left
    · simp only [Act.put, List.setIfInBounds_toArray, List.set_cons_zero, List.set_cons_succ, i64_w, i32_w]
      rfl
    refine pure_ (i := 9) (N := (some 44)) (v := ?_) (a' := ?_) (bb 12 1023) rfl rfl (any_of HT_.out (by kernel_rfl)) (fun _ _ _ h => h) (Or.inl ⟨by rfl, ?_⟩) ?_ ?_
    rotate_left
    · intro w'
      go_simp
      with_reducible rfl
    rotate_left
    · simp only [Act.put, List.setIfInBounds_toArray, List.set_cons_zero, List.set_cons_succ, i64_w, i32_w]
      rfl
    refine pure_ (i := 10) (N := (some 8)) (v := ?_) (a' := ?_) (bb 12 2047) rfl rfl (any_of HT_.out (by kernel_rfl)) (fun _ _ _ h => h) (Or.inl ⟨by rfl, ?_⟩) ?_ ?_
    rotate_left
    · intro w'
      go_simp
      with_reducible rfl
    rotate_left
    · simp only [Act.put, List.setIfInBounds_toArray, List.set_cons_zero, List.set_cons_succ, i64_w, i32_w]
      rfl
    refine pure_ (i := 11) (N := (some 9)) (v := ?_) (a' := ?_) (bb 12 4095) rfl rfl (any_of HT_.out (by kernel_rfl)) (fun _ _ _ h => h) (Or.inl ⟨by rfl, ?_⟩) ?_ ?_
    rotate_left
    · intro w'
      go_simp
      with_reducible rfl
    rotate_left
    · simp only [Act.put, List.setIfInBounds_toArray, List.set_cons_zero, List.set_cons_succ, i64_w, i32_w]
      rfl
    refine done_ (done_of HT_.out (by kernel_rfl)) ?_
    clear HS5
    have hd := blk_cell HS6.out.up2.cells.1
    have hd0 : w5.cell? ⟨gd, 0, none⟩ = some (.int .i64 (s.n : Int)) := hd 0
    have hd1 : w5.cell? ⟨gd, 1, none⟩ = some (.slice A1' l1.length c1') := hd 1
    have hd2 : w5.cell? ⟨gd, 2, none⟩ = some (.slice A2' l2.length c2') := hd 2
    have hd3 : w5.cell? ⟨gd, 3, none⟩ = some (.int .i64 s.r) := hd 3
    have hd4 : w5.cell? ⟨gd, 4, none⟩ = some (.int .i64 s.wr) := hd 4
    have hd5 : w5.cell? ⟨gd, 5, none⟩ = some (.int .i64 s.fl) := hd 5
    have hp := blk_cell HS6.out.up6.cells.1
    have hp1 : w5.cell? ⟨gp, 1, none⟩ = some (.int .i64 (s.n : Int)) := hp 1
    have hp2 : w5.cell? ⟨gp, 2, none⟩ = some (.slice A1 l1.length c1) := hp 2
    have hp3 : w5.cell? ⟨gp, 3, none⟩ = some (.slice A2 l2.length c2) := hp 3
    have hp4 : w5.cell? ⟨gp, 4, none⟩ = some (.int .i64 s.r) := hp 4
    have hp5 : w5.cell? ⟨gp, 5, none⟩ = some (.int .i64 s.wr) := hp 5
    have hp6 : w5.cell? ⟨gp, 6, none⟩ = some (.int .i64 s.fl) := hp 6
    have hf := blk_frozen HS6.out.up6.cells.1
    have hf1 := hf 1
    have hf2 := hf 2
    have hf3 := hf 3
    have hf4 := hf 4
    have hf5 := hf 5
    have hf6 := hf 6
    clear hd hp hf
    go_upto_region 6 with (fail)
    clear hd0 hd1 hd2 hd3 hd4 hd5 hp1 hp2 hp3 hp4 hp5 hp6 hf1 hf2 hf3 hf4 hf5 hf6
    have HS7 := Aside0.mk (HS6.out.up6.cset6 (.int .i64 (s.n : Int)) (.slice A1' l1.length c1') (.slice A2' l2.length c2') (.int .i64 s.r) (.int .i64 s.wr) (.int .i64 s.fl))
    clear HS6
    generalize ((((((w5.setCell ⟨gp, 1, none⟩ (.int .i64 (s.n : Int))).setCell ⟨gp, 2, none⟩ (.slice A1' l1.length c1')).setCell ⟨gp, 3, none⟩ (.slice A2' l2.length c2')).setCell ⟨gp, 4, none⟩ (.int .i64 s.r)).setCell ⟨gp, 5, none⟩ (.int .i64 s.wr)).setCell ⟨gp, 6, none⟩ (.int .i64 s.fl)) = w6 at HS7 ⊢
    have hcv1 := (show (convert 28 9 (.slice none 0 0)).run Try.prog w6 = .ok (.string (strOfNums [])) w6 from Kd.C_string (P := Try.prog) Try.underlying28 Try.underlying5 Try.underlying9 HS7.out.up1.own_C.1)
    have hcv2 := (show (convert 28 9 (.slice A7 0 c7)).run Try.prog w6 = .ok (.string (strOfNums [])) w6 from Kd.C_string (P := Try.prog) Try.underlying28 Try.underlying5 Try.underlying9 HS7.out.up4.own_C.1)
    have c9b0 : ((strOfNums []).toList == (strOfNums []).toList) = true := beq_iff_eq.mpr rfl
    go_wp2
    go_ret
    exact ⟨rfl, A1', c1', A2', c2', HS7.out.up1.drop.up2.drop.up2.drop.up3.drop⟩
  case refine_2 =>
    refine value_ (w1 := ?_) (v := ?_) (by rfl) rfl ?_ ?_
    rotate_left 2
    · go_simp
      constructor
      · rfl
      · rfl
    have HS2 := Aside0.mk (HS1.out.push_alloc #[.int .i64 0, .slice none 0 0, .slice none 0 0, .int .i64 0, .int .i64 0, .int .i64 0] 76)
    generalize wd.alloc (.cells #[.int .i64 0, .slice none 0 0, .slice none 0 0, .int .i64 0, .int .i64 0, .int .i64 0] 76) = w2 at HS2 ⊢
    generalize wd.heap.size = gd at HS2 ⊢
    refine hK.out _ _ (pr_held HS2.out.up2.up2) (fun hHeld => ?_)
    clear hK K
    refine norm_ (a' := ?_) ?_ ?_
    rotate_left
    · show Act.put _ (some 5) _ = _
      simp only [Act.put, List.setIfInBounds_toArray, List.set_cons_zero, List.set_cons_succ, i64_w, i32_w]
      rfl
    refine one_ (i := 6) (N := (some 31)) (bb 15 2175) rfl rfl (one_of HT_.out (by kernel_rfl)) (by decide) (fun K hK => ?_)
    refine goes_ Try.func48 (by kernel_rfl) rfl #[.agg #[.int .i64 (s.n : Int), .slice A1 l1.length c1, .slice A2 l2.length c2, .int .i64 s.r, .int .i64 s.wr, .int .i64 s.fl], .int .i64 a] (by rfl) rfl rfl (by (try simp only [List.map_toArray, List.map_cons, List.map_nil]); first | done | rfl) ?_
    with_reducible refine (Sep.rRead HS2.out.up4 k0 _ _ _ _ _ _ _ _ _ _ _ _ _ HRF.out).mono ?_
    rintro e w3 ⟨A1', c1', A2', c2', A7, c7, rfl, h⟩
    have HS3 := Aside0.mk h.up2
    clear h
    have hz := blk_cell HS3.out.cells.1
    have hz0 : w3.cell? ⟨gd, 0, none⟩ = some (.int .i64 0) := hz 0
    have hz1 : w3.cell? ⟨gd, 1, none⟩ = some (.slice none 0 0) := hz 1
    have hz2 : w3.cell? ⟨gd, 2, none⟩ = some (.slice none 0 0) := hz 2
    have hz3 : w3.cell? ⟨gd, 3, none⟩ = some (.int .i64 0) := hz 3
    have hz4 : w3.cell? ⟨gd, 4, none⟩ = some (.int .i64 0) := hz 4
    have hz5 : w3.cell? ⟨gd, 5, none⟩ = some (.int .i64 0) := hz 5
    have hf := blk_frozen HS3.out.cells.1
    have hf0 := hf 0
    have hf1 := hf 1
    have hf2 := hf 2
    have hf3 := hf 3
    have hf4 := hf 4
    have hf5 := hf 5
    clear hz hf
    refine ⟨_, rfl, ?_⟩
    refine hK.out _ _ (pr_held HS3.out.up4.up4) (fun hHeld => ?_)
    clear hK K
    refine norm_ (a' := ?_) ?_ ?_
    rotate_left
    · show Act.put _ (some 31) _ = _
      simp only [Act.put, List.setIfInBounds_toArray, List.set_cons_zero, List.set_cons_succ, i64_w, i32_w]
      rfl
    refine pure_ (i := 7) (N := (some 24)) (v := ?_) (a' := ?_) (bb 15 2303) rfl rfl (any_of HT_.out (by kernel_rfl)) (fun _ _ _ h => h) (Or.inl ⟨by rfl, ?_⟩) ?_ ?_
    rotate_left
    · intro w'
      go_simp
      with_reducible rfl
    rotate_left
    · simp only [Act.put, List.setIfInBounds_toArray, List.set_cons_zero, List.set_cons_succ, i64_w, i32_w]
      rfl
    refine pure_ (i := 8) (N := (some 32)) (v := ?_) (a' := ?_) (bb 15 2559) rfl rfl (any_of HT_.out (by kernel_rfl)) (fun _ _ _ h => h) (Or.inl ⟨by rfl, ?_⟩) ?_ ?_
    rotate_left
    · intro w'
      go_simp
      with_reducible rfl
    rotate_left
    · simp only [Act.put, List.setIfInBounds_toArray, List.set_cons_zero, List.set_cons_succ, i64_w, i32_w]
      rfl
    refine pure_ (i := 9) (N := (some 33)) (v := ?_) (a' := ?_) (bb 15 3071) rfl rfl (any_of HT_.out (by kernel_rfl)) (fun _ _ _ h => h) (Or.inl ⟨by rfl, ?_⟩) ?_ ?_
    rotate_left
    · intro w'
      go_simp
      with_reducible rfl
    rotate_left
    · simp only [Act.put, List.setIfInBounds_toArray, List.set_cons_zero, List.set_cons_succ, i64_w, i32_w]
      rfl
    refine pure_ (i := 10) (N := (some 34)) (v := ?_) (a' := ?_) (bb 15 4095) rfl rfl (any_of HT_.out (by kernel_rfl)) (fun _ _ _ h => h) (Or.inl ⟨by rfl, ?_⟩) ?_ ?_
    rotate_left
    · intro w'
      go_simp
      with_reducible rfl
    rotate_left
    · simp only [Act.put, List.setIfInBounds_toArray, List.set_cons_zero, List.set_cons_succ, i64_w, i32_w]
      rfl
    refine last_ (i := 12) (N := none) (bb 15 8191) rfl rfl (one_of HT_.out (by kernel_rfl)) (by decide) (fun K hK => ?_)
    refine skip_ (w1 := ?_) (by rfl) rfl ?_ ?_
    rotate_left
    · go_simp
      first | rfl | (constructor <;> rfl)
    refine hK.out _ _ ?_
    clear hK K
    refine pure_ (i := 13) (N := (some 6)) (v := ?_) (a' := ?_) (bb 15 16383) rfl rfl (any_of HT_.out (by kernel_rfl)) (fun _ _ _ h => h) (Or.inl ⟨by rfl, ?_⟩) ?_ ?_
    rotate_left
    · intro w'
      go_simp
      with_reducible rfl
    rotate_left
    · simp only [Act.put, List.setIfInBounds_toArray, List.set_cons_zero, List.set_cons_succ, i64_w, i32_w]
      rfl
    refine pure_ (i := 14) (N := (some 7)) (v := ?_) (a' := ?_) (bb 15 32767) rfl rfl (any_of HT_.out (by kernel_rfl)) (fun _ _ _ h => h) (Or.inl ⟨by rfl, ?_⟩) ?_ ?_
    rotate_left
    · intro w'
      go_simp
      with_reducible rfl
    rotate_left
    · simp only [Act.put, List.setIfInBounds_toArray, List.set_cons_zero, List.set_cons_succ, i64_w, i32_w]
      rfl
    refine done_ (done_of HT_.out (by kernel_rfl)) ?_
    have HS4 := Aside0.mk (HS3.out.cset60 (.int .i64 (s.n : Int)) (.slice A1' l1.length c1') (.slice A2' l2.length c2') (.int .i64 s.r) (.int .i64 s.wr) (.int .i64 s.fl))
    clear HS1 HS2 HS3 HRF hHeld hz0 hz1 hz2 hz3 hz4 hz5 hf0 hf1 hf2 hf3 hf4 hf5
    generalize ((((((w3.setCell ⟨gd, 0, none⟩ (.int .i64 (s.n : Int))).setCell ⟨gd, 1, none⟩ (.slice A1' l1.length c1')).setCell ⟨gd, 2, none⟩ (.slice A2' l2.length c2')).setCell ⟨gd, 3, none⟩ (.int .i64 s.r)).setCell ⟨gd, 4, none⟩ (.int .i64 s.wr)).setCell ⟨gd, 5, none⟩ (.int .i64 s.fl)) = w4 at HS4 ⊢
    go_upto_region 4 with (fail)
    have HS5 := Aside0.mk (HS4.out.step (below_drew1 (Below.refl w4.heap.size w4)))
    clear HS4
    refine start_ (n := 12) (S := fun W => W.cell? ⟨gp, 0, none⟩ = some (.pointer (some ⟨g, 0, none⟩)) ∧ W.cell? ⟨gb, 1, none⟩ = some (.int .i64 a)) (ds := [6]) (bb 12 0) (by kernel_rfl) rfl rfl (⟨blk_cell HS5.out.up4.cells.1 0, blk_cell HS5.out.up3.cells.1 1⟩) (fun hHeld => ?_); refine with_tabW does4n_tab does4n_bits (fun HT_ HW_ => ?_)
    generalize w4.drew = wd4 at hHeld HS5 ⊢
    refine pure_ (i := 0) (N := (some 36)) (v := ?_) (a' := ?_) (bb 12 1) rfl rfl (any_of HT_.out (by kernel_rfl)) (fun _ _ _ h => h) (Or.inl ⟨by rfl, ?_⟩) ?_ ?_
    rotate_left
    · intro w'
      go_simp
      with_reducible rfl
    rotate_left
    · simp only [Act.put, List.setIfInBounds_toArray, List.set_cons_zero, List.set_cons_succ, i64_w, i32_w]
      rfl
    refine pure_ (i := 1) (N := (some 37)) (v := ?_) (a' := ?_) (bb 12 3) rfl rfl (any_of HT_.out (by kernel_rfl)) (fun _ _ _ h => h) (Or.inl ⟨by rfl, ?_⟩) ?_ ?_
    rotate_left
    · intro w'
      go_simp
      with_reducible rfl
    rotate_left
    · simp only [Act.put, List.setIfInBounds_toArray, List.set_cons_zero, List.set_cons_succ, i64_w, i32_w]
      rfl
    refine pure_ (i := 2) (N := (some 38)) (v := ?_) (a' := ?_) (bb 12 7) rfl rfl (any_of HT_.out (by kernel_rfl)) (fun _ _ _ h => h) (Or.inl ⟨by rfl, ?_⟩) ?_ ?_
    rotate_left
    · intro w'
      go_simp
      with_reducible rfl
    rotate_left
    · simp only [Act.put, List.setIfInBounds_toArray, List.set_cons_zero, List.set_cons_succ, i64_w, i32_w]
      rfl
    refine take_ (i := 3) (N := (some 39)) (v := ?_) (a' := ?_) (bb 12 15) rfl rfl (take_ofW HT_.out HW_.out (by kernel_rfl)) (fun _ _ _ h => h) (Or.inl ⟨by rfl, ?_⟩) hHeld ?_ ?_
    rotate_left
    · intro w' s0
      (try dsimp only at s0)
      go_simp
      with_reducible rfl
    rotate_left
    · simp only [Act.put, List.setIfInBounds_toArray, List.set_cons_zero, List.set_cons_succ, i64_w, i32_w]
      rfl
    refine pure_ (i := 4) (N := (some 40)) (v := ?_) (a' := ?_) (bb 12 31) rfl rfl (any_of HT_.out (by kernel_rfl)) (fun _ _ _ h => h) (Or.inl ⟨by rfl, ?_⟩) ?_ ?_
    rotate_left
    · intro w'
      go_simp
      with_reducible rfl
    rotate_left
    · simp only [Act.put, List.setIfInBounds_toArray, List.set_cons_zero, List.set_cons_succ, i64_w, i32_w]
      rfl
    refine take_ (i := 5) (N := (some 41)) (v := ?_) (a' := ?_) (bb 12 63) rfl rfl (take_ofW HT_.out HW_.out (by kernel_rfl)) (fun _ _ _ h => h) (Or.inl ⟨by rfl, ?_⟩) hHeld ?_ ?_
    rotate_left
    · intro w' s0
      (try dsimp only at s0)
      go_simp
      with_reducible rfl
    rotate_left
    · simp only [Act.put, List.setIfInBounds_toArray, List.set_cons_zero, List.set_cons_succ, i64_w, i32_w]
      rfl
    refine last_ (i := 6) (N := (some 42)) (bb 12 127) rfl rfl (one_of HT_.out (by kernel_rfl)) (by decide) (fun K hK => ?_)
    refine goes_ Try.func25 (by kernel_rfl) rfl #[.pointer (some ⟨g, 0, none⟩), .int .i64 a] (by rfl) rfl rfl (by (try simp only [List.map_toArray, List.map_cons, List.map_nil]); first | done | rfl) ?_
    with_reducible refine (Sep.read_none HS5.out.up5 a HI.out).mono ?_
    rintro e w5 ⟨rfl, hw⟩
    subst hw
    have HS6 := Aside0.mk (Sep.push_nil (d := Kd.int .u8) (e := 5) HS5.out.up5)
    refine ⟨_, rfl, ?_⟩
    refine hK.out _ _ ?_
    clear hK K
    refine norm_ (a' := ?_) ?_ ?_
    rotate_left
    · show Act.put _ (some 42) _ = _
      simp only [Act.put, List.setIfInBounds_toArray, List.set_cons_zero, List.set_cons_succ, i64_w, i32_w]
      rfl
    refine pure_ (i := 7) (N := (some 35)) (v := ?_) (a' := ?_) (bb 12 255) rfl rfl (any_of HT_.out (by kernel_rfl)) (fun _ _ _ h => h) (Or.inl ⟨by rfl, ?_⟩) ?_ ?_
    rotate_left
    · intro w'
      go_simp
      with_reducible rfl
    rotate_left
    · simp only [Act.put, List.setIfInBounds_toArray, List.set_cons_zero, List.set_cons_succ, i64_w, i32_w]
      rfl
    refine pure_ (i := 8) (N := (some 43)) (v := ?_) (a' := ?_) (bb 12 511) rfl rfl (any_of HT_.out (by kernel_rfl)) (fun _ _ _ h => h) (Or.inl ⟨by rfl, ?_⟩) ?_ ?_
    rotate_left
    · intro w'
      go_simp
      with_reducible rfl
    rotate_left
    · simp only [Act.put, List.setIfInBounds_toArray, List.set_cons_zero, List.set_cons_succ, i64_w, i32_w]
      rfl
    refine pure_ (i := 9) (N := (some 44)) (v := ?_) (a' := ?_) (bb 12 1023) rfl rfl (any_of HT_.out (by kernel_rfl)) (fun _ _ _ h => h) (Or.inl ⟨by rfl, ?_⟩) ?_ ?_
    rotate_left
    · intro w'
      go_simp
      with_reducible rfl
    rotate_left
    · simp only [Act.put, List.setIfInBounds_toArray, List.set_cons_zero, List.set_cons_succ, i64_w, i32_w]
      rfl
    refine pure_ (i := 10) (N := (some 8)) (v := ?_) (a' := ?_) (bb 12 2047) rfl rfl (any_of HT_.out (by kernel_rfl)) (fun _ _ _ h => h) (Or.inl ⟨by rfl, ?_⟩) ?_ ?_
    rotate_left
    · intro w'
      go_simp
      with_reducible rfl
    rotate_left
    · simp only [Act.put, List.setIfInBounds_toArray, List.set_cons_zero, List.set_cons_succ, i64_w, i32_w]
      rfl
    refine pure_ (i := 11) (N := (some 9)) (v := ?_) (a' := ?_) (bb 12 4095) rfl rfl (any_of HT_.out (by kernel_rfl)) (fun _ _ _ h => h) (Or.inl ⟨by rfl, ?_⟩) ?_ ?_
    rotate_left
    · intro w'
      go_simp
      with_reducible rfl
    rotate_left
    · simp only [Act.put, List.setIfInBounds_toArray, List.set_cons_zero, List.set_cons_succ, i64_w, i32_w]
      rfl
    refine done_ (done_of HT_.out (by kernel_rfl)) ?_
    clear HS5
    have hd := blk_cell HS6.out.up2.cells.1
    have hd0 : w5.cell? ⟨gd, 0, none⟩ = some (.int .i64 (s.n : Int)) := hd 0
    have hd1 : w5.cell? ⟨gd, 1, none⟩ = some (.slice A1' l1.length c1') := hd 1
    have hd2 : w5.cell? ⟨gd, 2, none⟩ = some (.slice A2' l2.length c2') := hd 2
    have hd3 : w5.cell? ⟨gd, 3, none⟩ = some (.int .i64 s.r) := hd 3
    have hd4 : w5.cell? ⟨gd, 4, none⟩ = some (.int .i64 s.wr) := hd 4
    have hd5 : w5.cell? ⟨gd, 5, none⟩ = some (.int .i64 s.fl) := hd 5
    have hp := blk_cell HS6.out.up6.cells.1
    have hp1 : w5.cell? ⟨gp, 1, none⟩ = some (.int .i64 (s.n : Int)) := hp 1
    have hp2 : w5.cell? ⟨gp, 2, none⟩ = some (.slice A1 l1.length c1) := hp 2
    have hp3 : w5.cell? ⟨gp, 3, none⟩ = some (.slice A2 l2.length c2) := hp 3
    have hp4 : w5.cell? ⟨gp, 4, none⟩ = some (.int .i64 s.r) := hp 4
    have hp5 : w5.cell? ⟨gp, 5, none⟩ = some (.int .i64 s.wr) := hp 5
    have hp6 : w5.cell? ⟨gp, 6, none⟩ = some (.int .i64 s.fl) := hp 6
    have hf := blk_frozen HS6.out.up6.cells.1
    have hf1 := hf 1
    have hf2 := hf 2
    have hf3 := hf 3
    have hf4 := hf 4
    have hf5 := hf 5
    have hf6 := hf 6
    clear hd hp hf
    go_upto_region 6 with (fail)
    clear hd0 hd1 hd2 hd3 hd4 hd5 hp1 hp2 hp3 hp4 hp5 hp6 hf1 hf2 hf3 hf4 hf5 hf6
    have HS7 := Aside0.mk (HS6.out.up6.cset6 (.int .i64 (s.n : Int)) (.slice A1' l1.length c1') (.slice A2' l2.length c2') (.int .i64 s.r) (.int .i64 s.wr) (.int .i64 s.fl))
    clear HS6
    generalize ((((((w5.setCell ⟨gp, 1, none⟩ (.int .i64 (s.n : Int))).setCell ⟨gp, 2, none⟩ (.slice A1' l1.length c1')).setCell ⟨gp, 3, none⟩ (.slice A2' l2.length c2')).setCell ⟨gp, 4, none⟩ (.int .i64 s.r)).setCell ⟨gp, 5, none⟩ (.int .i64 s.wr)).setCell ⟨gp, 6, none⟩ (.int .i64 s.fl)) = w6 at HS7 ⊢
    have hcv1 := (show (convert 28 9 (.slice none 0 0)).run Try.prog w6 = .ok (.string (strOfNums [])) w6 from Kd.C_string (P := Try.prog) Try.underlying28 Try.underlying5 Try.underlying9 HS7.out.up1.own_C.1)
    have hcv2 := (show (convert 28 9 (.slice A7 0 c7)).run Try.prog w6 = .ok (.string (strOfNums [])) w6 from Kd.C_string (P := Try.prog) Try.underlying28 Try.underlying5 Try.underlying9 HS7.out.up4.own_C.1)
    have c9b0 : ((strOfNums []).toList == (strOfNums []).toList) = true := beq_iff_eq.mpr rfl
    go_wp2
    go_ret
    exact ⟨rfl, A1', c1', A2', c2', HS7.out.up1.drop.up2.drop.up2.drop.up3.drop⟩
end Go.Proofs.Ytddnhcnkjcdfgaa.M

namespace Go.Proofs.Ytddnhcnkjcdfgaa.M
open Go.RowKit Go.Maps Go.Proofs.YtddnhcnkjcdfgaaW.PrintWords Go.Proofs.YtddnhcnkjcdfgaaW.PrintLast Go.Proofs.YtddnhcnkjcdfgaaW.PrintMore
open Go.Proofs.Ytddnhcnkjcdfgaa.P hiding S106 k106 rd_T106 at_T106
open Go.Proofs.Ytddnhcnkjcdfgaa.R
set_option linter.unusedVariables false
set_option linter.unusedSimpArgs false
variable {w0 : World} {L : List Th}
theorem pr_held2 {W : World} {gp gb : Nat} {a0 a1 a2 a3 a4 a5 a6 b0 b1 b2 b3 b4 b5 : Value} (h : Sep w0 W (cellsT gb #[b0, b1, b2, b3, b4, b5] 73 :: cellsT gp #[a0, a1, a2, a3, a4, a5, a6] 78 :: L)) :
    W.cell? ⟨gp, 1, none⟩ = some a1 ∧ W.cell? ⟨gp, 2, none⟩ = some a2 ∧ W.cell? ⟨gp, 3, none⟩ = some a3 ∧ W.cell? ⟨gp, 4, none⟩ = some a4 ∧ W.cell? ⟨gp, 5, none⟩ = some a5 ∧ W.cell? ⟨gp, 6, none⟩ = some a6 ∧ W.cell? ⟨gb, 1, none⟩ = some b1 ∧ W.cell? ⟨gb, 2, none⟩ = some b2 :=
  ⟨blk_cell h.up1.cells.1 1, blk_cell h.up1.cells.1 2, blk_cell h.up1.cells.1 3, blk_cell h.up1.cells.1 4, blk_cell h.up1.cells.1 5, blk_cell h.up1.cells.1 6, blk_cell h.cells.1 1, blk_cell h.cells.1 2⟩
def does19_T : Bool × List (List Nat × List Nat) := (true, [([], []), ([0], [0]), ([1], [1]), ([2], [2]), ([], []), ([4], [4]), ([], []), ([6], [6]), ([3, 5, 7], [3, 5, 7]), ([8], [8]), ([9], [9]), ([9], [9]), ([], []), ([12, 10, 8, 0, 1, 2, 3, 4, 5, 6, 7, 8, 9, 10, 12], [10, 12]), ([11, 13, 0, 1, 2, 3, 4, 5, 6, 7, 8, 9, 10, 11, 12, 13], [11])])
def does19_B : List Nat := [0, 1, 3, 7, 0, 16, 0, 64, 255, 511, 1023, 1023, 0, 6143, 16383]
theorem does19_tab : rtab .any (opsOf Try.f38 19) = does19_T := by kernel_rfl
theorem does19_bits : waitsOk does19_T.2 does19_B = true := by kernel_rfl
def does20_T : Bool × List (List Nat × List Nat) := (true, [([], []), ([0], [0]), ([1], [1]), ([2], [2]), ([], []), ([4], [4]), ([], []), ([6], [6]), ([3, 5, 7], [3, 5, 7]), ([8, 8, 0, 1, 2, 3, 4, 5, 6, 7, 8], [8])])
def does20_B : List Nat := [0, 1, 3, 7, 0, 16, 0, 64, 255, 511]
theorem does20_tab : rtab .any (opsOf Try.f38 20) = does20_T := by kernel_rfl
theorem does20_bits : waitsOk does20_T.2 does20_B = true := by kernel_rfl
set_option maxHeartbeats 8000000 in
set_option maxRecDepth 100000 in
theorem does_turn (gp g : Nat) (s : DS) (A1 : Option Addr) (c1 : Nat) (A2 : Option Addr) (c2 : Nat) (l1 l2 : List S106) (w : World)
    (h : Sep w0 w (cellsT gp (prC g s (.slice A1 l1.length c1) (.slice A2 l2.length c2)) 78 :: dkT g s :: refT (.slice A1 l1.length c1) (.slice A2 l2.length c2) l1 l2 :: L)) (hl : l1.length + l2.length ≤ 900000) (hR : Rl s l1 l2) (i : Nat) (hi : i < s.n) (bit : Nat) (hbit : bit < 4096)
    (fl : Int) (dv fv : Value) :
    Calls Try.prog 38 #[.pointer (some ⟨gp, 0, none⟩), .agg #[.int .i64 4, .int .i64 (i : Int), .int .i64 (bit : Int), dv, .int .i64 fl, fv]] w fun e w' => e = .returned (.bool true) ∧ ∃ A1' c1' A2' c2',
      Sep w0 w' (cellsT gp (prC g (s.turn i bit) (.slice A1' (putR l1 (i : Int) (flipL (bit / 8) (mskB (bit % 8)) (lastR l1 (i : Int)))).length c1') (.slice A2' (turnR l2 (i : Int) bit).length c2')) 78 :: dkT g (s.turn i bit) :: refT (.slice A1' (putR l1 (i : Int) (flipL (bit / 8) (mskB (bit % 8)) (lastR l1 (i : Int)))).length c1') (.slice A2' (turnR l2 (i : Int) bit).length c2') (putR l1 (i : Int) (flipL (bit / 8) (mskB (bit % 8)) (lastR l1 (i : Int)))) (turnR l2 (i : Int) bit) :: L) := by
  have HS0 := Aside0.mk (h.push_alloc #[.int .i64 4, .int .i64 (i : Int), .int .i64 (bit : Int), dv, .int .i64 fl, fv] 73)
  have hk0 := turn_ev l1 l2 s.n i bit hi hbit s.r s.wr s.fl hl (fun x hx => (hR.e2 x hx).2) (lastR_len hR.e1 _) (l1.length + l2.length + 5) (Nat.le_refl _)
  generalize hk00 : l1.length + l2.length + 5 = k0 at hk0
  generalize putR l1 (i : Int) (flipL (bit / 8) (mskB (bit % 8)) (lastR l1 (i : Int))) = p1 at hk0 ⊢
  generalize turnR l2 (i : Int) bit = p2 at hk0 ⊢
  have HRF := Aside0.mk hk0
  have HI := Aside0.mk hi
  have HBT := Aside0.mk hbit
  clear h hl hk0 hk00 hR hi hbit
  go_enter Try.func38, Try.ntmps38
  go_upto_region 1 with (fail)
  generalize w.alloc (.cells #[.int .i64 4, .int .i64 (i : Int), .int .i64 (bit : Int), dv, .int .i64 fl, fv] 73) = w1 at HS0 ⊢
  generalize w.heap.size = gb at HS0 ⊢
  have hk : w1.cell? ⟨gb, 0, none⟩ = some (.int .i64 4) := blk_cell HS0.out.cells.1 0
  go_upto_region 19 with (fail)
  have HS1 := Aside0.mk (HS0.out.step (below_drew1 (Below.refl w1.heap.size w1)))
  clear hk
  refine start_ (n := 15) (S := fun W => W.cell? ⟨gp, 1, none⟩ = some (.int .i64 (s.n : Int)) ∧ W.cell? ⟨gp, 2, none⟩ = some (.slice A1 l1.length c1) ∧ W.cell? ⟨gp, 3, none⟩ = some (.slice A2 l2.length c2) ∧ W.cell? ⟨gp, 4, none⟩ = some (.int .i64 s.r) ∧ W.cell? ⟨gp, 5, none⟩ = some (.int .i64 s.wr) ∧ W.cell? ⟨gp, 6, none⟩ = some (.int .i64 s.fl) ∧ W.cell? ⟨gb, 1, none⟩ = some (.int .i64 (i : Int)) ∧ W.cell? ⟨gb, 2, none⟩ = some (.int .i64 (bit : Int))) (ds := [13]) (bb 15 0) (by kernel_rfl) rfl rfl ((pr_held2 HS1.out)) (fun hHeld => ?_); refine with_tabW does19_tab does19_bits (fun HT_ HW_ => ?_)
  generalize w1.drew = wd at hHeld HS1 ⊢
  refine pure_ (i := 0) (N := (some 126)) (v := ?_) (a' := ?_) (bb 15 1) rfl rfl (any_of HT_.out (by kernel_rfl)) (fun _ _ _ h => h) (Or.inl ⟨by rfl, ?_⟩) ?_ ?_
  rotate_left
  · intro w'
    go_simp
    with_reducible rfl
  rotate_left
  · simp only [Act.put, List.setIfInBounds_toArray, List.set_cons_zero, List.set_cons_succ, i64_w, i32_w]
    rfl
  refine pure_ (i := 1) (N := (some 127)) (v := ?_) (a' := ?_) (bb 15 3) rfl rfl (any_of HT_.out (by kernel_rfl)) (fun _ _ _ h => h) (Or.inl ⟨by rfl, ?_⟩) ?_ ?_
  rotate_left
  · intro w'
    go_simp
    with_reducible rfl
  rotate_left
  · simp only [Act.put, List.setIfInBounds_toArray, List.set_cons_zero, List.set_cons_succ, i64_w, i32_w]
    rfl
  refine pure_ (i := 2) (N := (some 128)) (v := ?_) (a' := ?_) (bb 15 7) rfl rfl (any_of HT_.out (by kernel_rfl)) (fun _ _ _ h => h) (Or.inl ⟨by rfl, ?_⟩) ?_ ?_
  rotate_left
  · intro w'
    go_simp
    with_reducible rfl
  rotate_left
  · simp only [Act.put, List.setIfInBounds_toArray, List.set_cons_zero, List.set_cons_succ, i64_w, i32_w]
    rfl
  refine take_ (i := 3) (N := (some 129)) (v := ?_) (a' := ?_) (bb 15 15) rfl rfl (take_ofW HT_.out HW_.out (by kernel_rfl)) (fun _ _ _ h => h) (Or.inl ⟨by rfl, ?_⟩) hHeld ?_ ?_
  rotate_left
  · intro w' s0
    (try dsimp only at s0)
    go_simp
    with_reducible rfl
  rotate_left
  · simp only [Act.put, List.setIfInBounds_toArray, List.set_cons_zero, List.set_cons_succ, i64_w, i32_w]
    rfl
  refine pure_ (i := 4) (N := (some 130)) (v := ?_) (a' := ?_) (bb 15 31) rfl rfl (any_of HT_.out (by kernel_rfl)) (fun _ _ _ h => h) (Or.inl ⟨by rfl, ?_⟩) ?_ ?_
  rotate_left
  · intro w'
    go_simp
    with_reducible rfl
  rotate_left
  · simp only [Act.put, List.setIfInBounds_toArray, List.set_cons_zero, List.set_cons_succ, i64_w, i32_w]
    rfl
  refine take_ (i := 5) (N := (some 131)) (v := ?_) (a' := ?_) (bb 15 63) rfl rfl (take_ofW HT_.out HW_.out (by kernel_rfl)) (fun _ _ _ h => h) (Or.inl ⟨by rfl, ?_⟩) hHeld ?_ ?_
  rotate_left
  · intro w' s0
    (try dsimp only at s0)
    go_simp
    with_reducible rfl
  rotate_left
  · simp only [Act.put, List.setIfInBounds_toArray, List.set_cons_zero, List.set_cons_succ, i64_w, i32_w]
    rfl
  refine pure_ (i := 6) (N := (some 132)) (v := ?_) (a' := ?_) (bb 15 127) rfl rfl (any_of HT_.out (by kernel_rfl)) (fun _ _ _ h => h) (Or.inl ⟨by rfl, ?_⟩) ?_ ?_
  rotate_left
  · intro w'
    go_simp
    with_reducible rfl
  rotate_left
  · simp only [Act.put, List.setIfInBounds_toArray, List.set_cons_zero, List.set_cons_succ, i64_w, i32_w]
    rfl
  refine take_ (i := 7) (N := (some 133)) (v := ?_) (a' := ?_) (bb 15 255) rfl rfl (take_ofW HT_.out HW_.out (by kernel_rfl)) (fun _ _ _ h => h) (Or.inl ⟨by rfl, ?_⟩) hHeld ?_ ?_
  rotate_left
  · intro w' s0
    (try dsimp only at s0)
    go_simp
    with_reducible rfl
  rotate_left
  · simp only [Act.put, List.setIfInBounds_toArray, List.set_cons_zero, List.set_cons_succ, i64_w, i32_w]
    rfl
  clear HS0
  refine two_ (i := 8) (j := 12) (Ni := some 134) (Nj := some 13) (bb 15 511) (bb 15 4351) rfl rfl rfl rfl (two_of HT_.out (by kernel_rfl)) (by decide) (by decide) (fun K hK => ?_) (fun K hK => ?_)
  case refine_1 =>
    refine goes_ Try.func53 (by kernel_rfl) rfl #[.agg #[.int .i64 (s.n : Int), .slice A1 l1.length c1, .slice A2 l2.length c2, .int .i64 s.r, .int .i64 s.wr, .int .i64 s.fl], .int .i64 (i : Int), .int .i64 (bit : Int)] (by rfl) rfl rfl (by (try simp only [List.map_toArray, List.map_cons, List.map_nil]); first | done | rfl) ?_
    with_reducible refine (Sep.rTurn HS1.out.up3 k0 _ _ _ _ _ _ _ _ _ _ _ _ _ HRF.out).mono ?_
    rintro e w2 ⟨A1', c1', A2', c2', rfl, h⟩
    have HS2 := Aside0.mk h
    clear h
    refine ⟨_, rfl, ?_⟩
    refine hK.out _ _ (pr_held2 HS2.out.up2.up2) (fun hHeld => ?_)
    clear hK K
    refine norm_ (a' := ?_) ?_ ?_
    rotate_left
    · show Act.put _ (some 134) _ = _
      simp only [Act.put, List.setIfInBounds_toArray, List.set_cons_zero, List.set_cons_succ, i64_w, i32_w]
      rfl
    refine pure_ (i := 9) (N := (some 125)) (v := ?_) (a' := ?_) (bb 15 1023) rfl rfl (any_of HT_.out (by kernel_rfl)) (fun _ _ _ h => h) (Or.inl ⟨by rfl, ?_⟩) ?_ ?_
    rotate_left
    · intro w'
      go_simp
      with_reducible rfl
    rotate_left
    · simp only [Act.put, List.setIfInBounds_toArray, List.set_cons_zero, List.set_cons_succ, i64_w, i32_w]
      rfl
    refine pure_ (i := 10) (N := (some 135)) (v := ?_) (a' := ?_) (bb 15 2047) rfl rfl (any_of HT_.out (by kernel_rfl)) (fun _ _ _ h => h) (Or.inl ⟨by rfl, ?_⟩) ?_ ?_
    rotate_left
    · intro w'
      go_simp
      with_reducible rfl
    rotate_left
    · simp only [Act.put, List.setIfInBounds_toArray, List.set_cons_zero, List.set_cons_succ, i64_w, i32_w]
      rfl
    refine pure_ (i := 11) (N := (some 136)) (v := ?_) (a' := ?_) (bb 15 4095) rfl rfl (any_of HT_.out (by kernel_rfl)) (fun _ _ _ h => h) (Or.inl ⟨by rfl, ?_⟩) ?_ ?_
    rotate_left
    · intro w'
      go_simp
      with_reducible rfl
    rotate_left
    · simp only [Act.put, List.setIfInBounds_toArray, List.set_cons_zero, List.set_cons_succ, i64_w, i32_w]
      rfl
    refine one_ (i := 12) (N := (some 13)) (bb 15 8191) rfl rfl (one_of HT_.out (by kernel_rfl)) (by decide) (fun K hK => ?_)
    refine value_ (w1 := ?_) (v := ?_) (by rfl) rfl ?_ ?_
    rotate_left 2
    · go_simp
      constructor
      · rfl
      · rfl
    have HS3 := Aside0.mk (HS2.out.push_alloc #[.int .i64 0, .slice none 0 0, .slice none 0 0, .int .i64 0, .int .i64 0, .int .i64 0] 76)
    generalize w2.alloc (.cells #[.int .i64 0, .slice none 0 0, .slice none 0 0, .int .i64 0, .int .i64 0, .int .i64 0] 76) = w3 at HS3 ⊢
    generalize w2.heap.size = gd at HS3 ⊢
    have hz := blk_cell HS3.out.cells.1
    have hz0 : w3.cell? ⟨gd, 0, none⟩ = some (.int .i64 0) := hz 0
    have hz1 : w3.cell? ⟨gd, 1, none⟩ = some (.slice none 0 0) := hz 1
    have hz2 : w3.cell? ⟨gd, 2, none⟩ = some (.slice none 0 0) := hz 2
    have hz3 : w3.cell? ⟨gd, 3, none⟩ = some (.int .i64 0) := hz 3
    have hz4 : w3.cell? ⟨gd, 4, none⟩ = some (.int .i64 0) := hz 4
    have hz5 : w3.cell? ⟨gd, 5, none⟩ = some (.int .i64 0) := hz 5
    have hf := blk_frozen HS3.out.cells.1
    have hf0 := hf 0
    have hf1 := hf 1
    have hf2 := hf 2
    have hf3 := hf 3
    have hf4 := hf 4
    have hf5 := hf 5
    clear hz hf
    refine hK.out _ _ (pr_held2 HS3.out.up3.up3) (fun hHeld => ?_)
    clear hK K
    refine norm_ (a' := ?_) ?_ ?_
    rotate_left
    · show Act.put _ (some 13) _ = _
      simp only [Act.put, List.setIfInBounds_toArray, List.set_cons_zero, List.set_cons_succ, i64_w, i32_w]
      rfl
    refine last_ (i := 13) (N := none) (bb 15 16383) rfl rfl (one_of HT_.out (by kernel_rfl)) (by decide) (fun K hK => ?_)
    refine skip_ (w1 := ?_) (by rfl) rfl ?_ ?_
    rotate_left
    · go_simp
      first | rfl | (constructor <;> rfl)
    refine hK.out _ _ ?_
    clear hK K
    refine pure_ (i := 14) (N := (some 14)) (v := ?_) (a' := ?_) (bb 15 32767) rfl rfl (any_of HT_.out (by kernel_rfl)) (fun _ _ _ h => h) (Or.inl ⟨by rfl, ?_⟩) ?_ ?_
    rotate_left
    · intro w'
      go_simp
      with_reducible rfl
    rotate_left
    · simp only [Act.put, List.setIfInBounds_toArray, List.set_cons_zero, List.set_cons_succ, i64_w, i32_w]
      rfl
    refine done_ (done_of HT_.out (by kernel_rfl)) ?_
    have HS4 := Aside0.mk (HS3.out.cset60 (.int .i64 (s.n : Int)) (.slice A1' p1.length c1') (.slice A2' p2.length c2') (.int .i64 s.r) (.int .i64 s.wr) (.int .i64 s.fl))
    clear HS1 HS2 HS3 HRF hHeld hz0 hz1 hz2 hz3 hz4 hz5 hf0 hf1 hf2 hf3 hf4 hf5
    generalize ((((((w3.setCell ⟨gd, 0, none⟩ (.int .i64 (s.n : Int))).setCell ⟨gd, 1, none⟩ (.slice A1' p1.length c1')).setCell ⟨gd, 2, none⟩ (.slice A2' p2.length c2')).setCell ⟨gd, 3, none⟩ (.int .i64 s.r)).setCell ⟨gd, 4, none⟩ (.int .i64 s.wr)).setCell ⟨gd, 5, none⟩ (.int .i64 s.fl)) = w4 at HS4 ⊢
    go_upto_region 20 with (fail)
    have HS5 := Aside0.mk (HS4.out.step (below_drew1 (Below.refl w4.heap.size w4)))
    clear HS4
    refine start_ (n := 10) (S := fun W => W.cell? ⟨gp, 0, none⟩ = some (.pointer (some ⟨g, 0, none⟩)) ∧ W.cell? ⟨gb, 1, none⟩ = some (.int .i64 (i : Int)) ∧ W.cell? ⟨gb, 2, none⟩ = some (.int .i64 (bit : Int))) (ds := [8]) (bb 10 0) (by kernel_rfl) rfl rfl (⟨blk_cell HS5.out.up3.cells.1 0, blk_cell HS5.out.up2.cells.1 1, blk_cell HS5.out.up2.cells.1 2⟩) (fun hHeld => ?_); refine with_tabW does20_tab does20_bits (fun HT_ HW_ => ?_)
    generalize w4.drew = wd4 at hHeld HS5 ⊢
    refine pure_ (i := 0) (N := (some 137)) (v := ?_) (a' := ?_) (bb 10 1) rfl rfl (any_of HT_.out (by kernel_rfl)) (fun _ _ _ h => h) (Or.inl ⟨by rfl, ?_⟩) ?_ ?_
    rotate_left
    · intro w'
      go_simp
      with_reducible rfl
    rotate_left
    · simp only [Act.put, List.setIfInBounds_toArray, List.set_cons_zero, List.set_cons_succ, i64_w, i32_w]
      rfl
    refine pure_ (i := 1) (N := (some 138)) (v := ?_) (a' := ?_) (bb 10 3) rfl rfl (any_of HT_.out (by kernel_rfl)) (fun _ _ _ h => h) (Or.inl ⟨by rfl, ?_⟩) ?_ ?_
    rotate_left
    · intro w'
      go_simp
      with_reducible rfl
    rotate_left
    · simp only [Act.put, List.setIfInBounds_toArray, List.set_cons_zero, List.set_cons_succ, i64_w, i32_w]
      rfl
    refine pure_ (i := 2) (N := (some 139)) (v := ?_) (a' := ?_) (bb 10 7) rfl rfl (any_of HT_.out (by kernel_rfl)) (fun _ _ _ h => h) (Or.inl ⟨by rfl, ?_⟩) ?_ ?_
    rotate_left
    · intro w'
      go_simp
      with_reducible rfl
    rotate_left
    · simp only [Act.put, List.setIfInBounds_toArray, List.set_cons_zero, List.set_cons_succ, i64_w, i32_w]
      rfl
    refine take_ (i := 3) (N := (some 140)) (v := ?_) (a' := ?_) (bb 10 15) rfl rfl (take_ofW HT_.out HW_.out (by kernel_rfl)) (fun _ _ _ h => h) (Or.inl ⟨by rfl, ?_⟩) hHeld ?_ ?_
    rotate_left
    · intro w' s0
      (try dsimp only at s0)
      go_simp
      with_reducible rfl
    rotate_left
    · simp only [Act.put, List.setIfInBounds_toArray, List.set_cons_zero, List.set_cons_succ, i64_w, i32_w]
      rfl
    refine pure_ (i := 4) (N := (some 141)) (v := ?_) (a' := ?_) (bb 10 31) rfl rfl (any_of HT_.out (by kernel_rfl)) (fun _ _ _ h => h) (Or.inl ⟨by rfl, ?_⟩) ?_ ?_
    rotate_left
    · intro w'
      go_simp
      with_reducible rfl
    rotate_left
    · simp only [Act.put, List.setIfInBounds_toArray, List.set_cons_zero, List.set_cons_succ, i64_w, i32_w]
      rfl
    refine take_ (i := 5) (N := (some 142)) (v := ?_) (a' := ?_) (bb 10 63) rfl rfl (take_ofW HT_.out HW_.out (by kernel_rfl)) (fun _ _ _ h => h) (Or.inl ⟨by rfl, ?_⟩) hHeld ?_ ?_
    rotate_left
    · intro w' s0
      (try dsimp only at s0)
      go_simp
      with_reducible rfl
    rotate_left
    · simp only [Act.put, List.setIfInBounds_toArray, List.set_cons_zero, List.set_cons_succ, i64_w, i32_w]
      rfl
    refine pure_ (i := 6) (N := (some 143)) (v := ?_) (a' := ?_) (bb 10 127) rfl rfl (any_of HT_.out (by kernel_rfl)) (fun _ _ _ h => h) (Or.inl ⟨by rfl, ?_⟩) ?_ ?_
    rotate_left
    · intro w'
      go_simp
      with_reducible rfl
    rotate_left
    · simp only [Act.put, List.setIfInBounds_toArray, List.set_cons_zero, List.set_cons_succ, i64_w, i32_w]
      rfl
    refine take_ (i := 7) (N := (some 144)) (v := ?_) (a' := ?_) (bb 10 255) rfl rfl (take_ofW HT_.out HW_.out (by kernel_rfl)) (fun _ _ _ h => h) (Or.inl ⟨by rfl, ?_⟩) hHeld ?_ ?_
    rotate_left
    · intro w' s0
      (try dsimp only at s0)
      go_simp
      with_reducible rfl
    rotate_left
    · simp only [Act.put, List.setIfInBounds_toArray, List.set_cons_zero, List.set_cons_succ, i64_w, i32_w]
      rfl
    refine last_ (i := 8) (N := (some 145)) (bb 10 511) rfl rfl (one_of HT_.out (by kernel_rfl)) (by decide) (fun K hK => ?_)
    refine goes_ Try.func33 (by kernel_rfl) rfl #[.pointer (some ⟨g, 0, none⟩), .int .i64 (i : Int), .int .i64 (bit : Int)] (by rfl) rfl rfl (by (try simp only [List.map_toArray, List.map_cons, List.map_nil]); first | done | rfl) ?_
    with_reducible refine (Sep.turn HS5.out.up4 i bit HI.out HBT.out).mono ?_
    rintro e w5 ⟨rfl, h⟩
    have HS6 := Aside0.mk h
    clear h
    refine ⟨_, rfl, ?_⟩
    refine hK.out _ _ ?_
    clear hK K
    refine norm_ (a' := ?_) ?_ ?_
    rotate_left
    · show Act.put _ (some 145) _ = _
      simp only [Act.put, List.setIfInBounds_toArray, List.set_cons_zero, List.set_cons_succ, i64_w, i32_w]
      rfl
    refine pure_ (i := 9) (N := (some 15)) (v := ?_) (a' := ?_) (bb 10 1023) rfl rfl (any_of HT_.out (by kernel_rfl)) (fun _ _ _ h => h) (Or.inl ⟨by rfl, ?_⟩) ?_ ?_
    rotate_left
    · intro w'
      go_simp
      with_reducible rfl
    rotate_left
    · simp only [Act.put, List.setIfInBounds_toArray, List.set_cons_zero, List.set_cons_succ, i64_w, i32_w]
      rfl
    refine done_ (done_of HT_.out (by kernel_rfl)) ?_
    clear HS5
    have hd := blk_cell HS6.out.up1.cells.1
    have hd0 : w5.cell? ⟨gd, 0, none⟩ = some (.int .i64 (s.n : Int)) := hd 0
    have hd1 : w5.cell? ⟨gd, 1, none⟩ = some (.slice A1' p1.length c1') := hd 1
    have hd2 : w5.cell? ⟨gd, 2, none⟩ = some (.slice A2' p2.length c2') := hd 2
    have hd3 : w5.cell? ⟨gd, 3, none⟩ = some (.int .i64 s.r) := hd 3
    have hd4 : w5.cell? ⟨gd, 4, none⟩ = some (.int .i64 s.wr) := hd 4
    have hd5 : w5.cell? ⟨gd, 5, none⟩ = some (.int .i64 s.fl) := hd 5
    have hp := blk_cell HS6.out.up4.cells.1
    have hp1 : w5.cell? ⟨gp, 1, none⟩ = some (.int .i64 (s.n : Int)) := hp 1
    have hp2 : w5.cell? ⟨gp, 2, none⟩ = some (.slice A1 l1.length c1) := hp 2
    have hp3 : w5.cell? ⟨gp, 3, none⟩ = some (.slice A2 l2.length c2) := hp 3
    have hp4 : w5.cell? ⟨gp, 4, none⟩ = some (.int .i64 s.r) := hp 4
    have hp5 : w5.cell? ⟨gp, 5, none⟩ = some (.int .i64 s.wr) := hp 5
    have hp6 : w5.cell? ⟨gp, 6, none⟩ = some (.int .i64 s.fl) := hp 6
    have hf := blk_frozen HS6.out.up4.cells.1
    have hf1 := hf 1
    have hf2 := hf 2
    have hf3 := hf 3
    have hf4 := hf 4
    have hf5 := hf 5
    have hf6 := hf 6
    clear hd hp hf
    go_upto_region 22 with (fail)
    clear hd0 hd1 hd2 hd3 hd4 hd5 hp1 hp2 hp3 hp4 hp5 hp6 hf1 hf2 hf3 hf4 hf5 hf6
    have HS7 := Aside0.mk (HS6.out.up4.cset6 (.int .i64 (s.n : Int)) (.slice A1' p1.length c1') (.slice A2' p2.length c2') (.int .i64 s.r) (.int .i64 s.wr) (.int .i64 s.fl))
    clear HS6
    generalize ((((((w5.setCell ⟨gp, 1, none⟩ (.int .i64 (s.n : Int))).setCell ⟨gp, 2, none⟩ (.slice A1' p1.length c1')).setCell ⟨gp, 3, none⟩ (.slice A2' p2.length c2')).setCell ⟨gp, 4, none⟩ (.int .i64 s.r)).setCell ⟨gp, 5, none⟩ (.int .i64 s.wr)).setCell ⟨gp, 6, none⟩ (.int .i64 s.fl)) = w6 at HS7 ⊢
    go_wp2
    go_ret
    exact ⟨rfl, A1', c1', A2', c2', HS7.out.up2.drop.up3.drop⟩
  case refine_2 =>
    refine value_ (w1 := ?_) (v := ?_) (by rfl) rfl ?_ ?_
    rotate_left 2
    · go_simp
      constructor
      · rfl
      · rfl
    have HS2 := Aside0.mk (HS1.out.push_alloc #[.int .i64 0, .slice none 0 0, .slice none 0 0, .int .i64 0, .int .i64 0, .int .i64 0] 76)
    generalize wd.alloc (.cells #[.int .i64 0, .slice none 0 0, .slice none 0 0, .int .i64 0, .int .i64 0, .int .i64 0] 76) = w2 at HS2 ⊢
    generalize wd.heap.size = gd at HS2 ⊢
    refine hK.out _ _ (pr_held2 HS2.out.up2.up2) (fun hHeld => ?_)
    clear hK K
    refine norm_ (a' := ?_) ?_ ?_
    rotate_left
    · show Act.put _ (some 13) _ = _
      simp only [Act.put, List.setIfInBounds_toArray, List.set_cons_zero, List.set_cons_succ, i64_w, i32_w]
      rfl
    refine one_ (i := 8) (N := (some 134)) (bb 15 4607) rfl rfl (one_of HT_.out (by kernel_rfl)) (by decide) (fun K hK => ?_)
    refine goes_ Try.func53 (by kernel_rfl) rfl #[.agg #[.int .i64 (s.n : Int), .slice A1 l1.length c1, .slice A2 l2.length c2, .int .i64 s.r, .int .i64 s.wr, .int .i64 s.fl], .int .i64 (i : Int), .int .i64 (bit : Int)] (by rfl) rfl rfl (by (try simp only [List.map_toArray, List.map_cons, List.map_nil]); first | done | rfl) ?_
    with_reducible refine (Sep.rTurn HS2.out.up4 k0 _ _ _ _ _ _ _ _ _ _ _ _ _ HRF.out).mono ?_
    rintro e w3 ⟨A1', c1', A2', c2', rfl, h⟩
    have HS3 := Aside0.mk h.up1
    clear h
    have hz := blk_cell HS3.out.cells.1
    have hz0 : w3.cell? ⟨gd, 0, none⟩ = some (.int .i64 0) := hz 0
    have hz1 : w3.cell? ⟨gd, 1, none⟩ = some (.slice none 0 0) := hz 1
    have hz2 : w3.cell? ⟨gd, 2, none⟩ = some (.slice none 0 0) := hz 2
    have hz3 : w3.cell? ⟨gd, 3, none⟩ = some (.int .i64 0) := hz 3
    have hz4 : w3.cell? ⟨gd, 4, none⟩ = some (.int .i64 0) := hz 4
    have hz5 : w3.cell? ⟨gd, 5, none⟩ = some (.int .i64 0) := hz 5
    have hf := blk_frozen HS3.out.cells.1
    have hf0 := hf 0
    have hf1 := hf 1
    have hf2 := hf 2
    have hf3 := hf 3
    have hf4 := hf 4
    have hf5 := hf 5
    clear hz hf
    refine ⟨_, rfl, ?_⟩
    refine hK.out _ _ (pr_held2 HS3.out.up3.up3) (fun hHeld => ?_)
    clear hK K
    refine norm_ (a' := ?_) ?_ ?_
    rotate_left
    · show Act.put _ (some 134) _ = _
      simp only [Act.put, List.setIfInBounds_toArray, List.set_cons_zero, List.set_cons_succ, i64_w, i32_w]
      rfl
    refine pure_ (i := 9) (N := (some 125)) (v := ?_) (a' := ?_) (bb 15 5119) rfl rfl (any_of HT_.out (by kernel_rfl)) (fun _ _ _ h => h) (Or.inl ⟨by rfl, ?_⟩) ?_ ?_
    rotate_left
    · intro w'
      go_simp
      with_reducible rfl
    rotate_left
    · simp only [Act.put, List.setIfInBounds_toArray, List.set_cons_zero, List.set_cons_succ, i64_w, i32_w]
      rfl
    refine pure_ (i := 10) (N := (some 135)) (v := ?_) (a' := ?_) (bb 15 6143) rfl rfl (any_of HT_.out (by kernel_rfl)) (fun _ _ _ h => h) (Or.inl ⟨by rfl, ?_⟩) ?_ ?_
    rotate_left
    · intro w'
      go_simp
      with_reducible rfl
    rotate_left
    · simp only [Act.put, List.setIfInBounds_toArray, List.set_cons_zero, List.set_cons_succ, i64_w, i32_w]
      rfl
    refine pure_ (i := 11) (N := (some 136)) (v := ?_) (a' := ?_) (bb 15 8191) rfl rfl (any_of HT_.out (by kernel_rfl)) (fun _ _ _ h => h) (Or.inl ⟨by rfl, ?_⟩) ?_ ?_
    rotate_left
    · intro w'
      go_simp
      with_reducible rfl
    rotate_left
    · simp only [Act.put, List.setIfInBounds_toArray, List.set_cons_zero, List.set_cons_succ, i64_w, i32_w]
      rfl
    refine last_ (i := 13) (N := none) (bb 15 16383) rfl rfl (one_of HT_.out (by kernel_rfl)) (by decide) (fun K hK => ?_)
    refine skip_ (w1 := ?_) (by rfl) rfl ?_ ?_
    rotate_left
    · go_simp
      first | rfl | (constructor <;> rfl)
    refine hK.out _ _ ?_
    clear hK K
    refine pure_ (i := 14) (N := (some 14)) (v := ?_) (a' := ?_) (bb 15 32767) rfl rfl (any_of HT_.out (by kernel_rfl)) (fun _ _ _ h => h) (Or.inl ⟨by rfl, ?_⟩) ?_ ?_
    rotate_left
    · intro w'
      go_simp
      with_reducible rfl
    rotate_left
    · simp only [Act.put, List.setIfInBounds_toArray, List.set_cons_zero, List.set_cons_succ, i64_w, i32_w]
      rfl
    refine done_ (done_of HT_.out (by kernel_rfl)) ?_
    have HS4 := Aside0.mk (HS3.out.cset60 (.int .i64 (s.n : Int)) (.slice A1' p1.length c1') (.slice A2' p2.length c2') (.int .i64 s.r) (.int .i64 s.wr) (.int .i64 s.fl))
    clear HS1 HS2 HS3 HRF hHeld hz0 hz1 hz2 hz3 hz4 hz5 hf0 hf1 hf2 hf3 hf4 hf5
    generalize ((((((w3.setCell ⟨gd, 0, none⟩ (.int .i64 (s.n : Int))).setCell ⟨gd, 1, none⟩ (.slice A1' p1.length c1')).setCell ⟨gd, 2, none⟩ (.slice A2' p2.length c2')).setCell ⟨gd, 3, none⟩ (.int .i64 s.r)).setCell ⟨gd, 4, none⟩ (.int .i64 s.wr)).setCell ⟨gd, 5, none⟩ (.int .i64 s.fl)) = w4 at HS4 ⊢
    go_upto_region 20 with (fail)
    have HS5 := Aside0.mk (HS4.out.step (below_drew1 (Below.refl w4.heap.size w4)))
    clear HS4
    refine start_ (n := 10) (S := fun W => W.cell? ⟨gp, 0, none⟩ = some (.pointer (some ⟨g, 0, none⟩)) ∧ W.cell? ⟨gb, 1, none⟩ = some (.int .i64 (i : Int)) ∧ W.cell? ⟨gb, 2, none⟩ = some (.int .i64 (bit : Int))) (ds := [8]) (bb 10 0) (by kernel_rfl) rfl rfl (⟨blk_cell HS5.out.up3.cells.1 0, blk_cell HS5.out.up2.cells.1 1, blk_cell HS5.out.up2.cells.1 2⟩) (fun hHeld => ?_); refine with_tabW does20_tab does20_bits (fun HT_ HW_ => ?_)
    generalize w4.drew = wd4 at hHeld HS5 ⊢
    refine pure_ (i := 0) (N := (some 137)) (v := ?_) (a' := ?_) (bb 10 1) rfl rfl (any_of HT_.out (by kernel_rfl)) (fun _ _ _ h => h) (Or.inl ⟨by rfl, ?_⟩) ?_ ?_
    rotate_left
    · intro w'
      go_simp
      with_reducible rfl
    rotate_left
    · simp only [Act.put, List.setIfInBounds_toArray, List.set_cons_zero, List.set_cons_succ, i64_w, i32_w]
      rfl
    refine pure_ (i := 1) (N := (some 138)) (v := ?_) (a' := ?_) (bb 10 3) rfl rfl (any_of HT_.out (by kernel_rfl)) (fun _ _ _ h => h) (Or.inl ⟨by rfl, ?_⟩) ?_ ?_
    rotate_left
    · intro w'
      go_simp
      with_reducible rfl
    rotate_left
    · simp only [Act.put, List.setIfInBounds_toArray, List.set_cons_zero, List.set_cons_succ, i64_w, i32_w]
      rfl
    refine pure_ (i := 2) (N := (some 139)) (v := ?_) (a' := ?_) (bb 10 7) rfl rfl (any_of HT_.out (by kernel_rfl)) (fun _ _ _ h => h) (Or.inl ⟨by rfl, ?_⟩) ?_ ?_
    rotate_left
    · intro w'
      go_simp
      with_reducible rfl
    rotate_left
    · simp only [Act.put, List.setIfInBounds_toArray, List.set_cons_zero, List.set_cons_succ, i64_w, i32_w]
      rfl
    refine take_ (i := 3) (N := (some 140)) (v := ?_) (a' := ?_) (bb 10 15) rfl rfl (take_ofW HT_.out HW_.out (by kernel_rfl)) (fun _ _ _ h => h) (Or.inl ⟨by rfl, ?_⟩) hHeld ?_ ?_
    rotate_left
    · intro w' s0
      (try dsimp only at s0)
      go_simp
      with_reducible rfl
    rotate_left
    · simp only [Act.put, List.setIfInBounds_toArray, List.set_cons_zero, List.set_cons_succ, i64_w, i32_w]
      rfl
    refine pure_ (i := 4) (N := (some 141)) (v := ?_) (a' := ?_) (bb 10 31) rfl rfl (any_of HT_.out (by kernel_rfl)) (fun _ _ _ h => h) (Or.inl ⟨by rfl, ?_⟩) ?_ ?_
    rotate_left
    · intro w'
      go_simp
      with_reducible rfl
    rotate_left
    · simp only [Act.put, List.setIfInBounds_toArray, List.set_cons_zero, List.set_cons_succ, i64_w, i32_w]
      rfl
    refine take_ (i := 5) (N := (some 142)) (v := ?_) (a' := ?_) (bb 10 63) rfl rfl (take_ofW HT_.out HW_.out (by kernel_rfl)) (fun _ _ _ h => h) (Or.inl ⟨by rfl, ?_⟩) hHeld ?_ ?_
    rotate_left
    · intro w' s0
      (try dsimp only at s0)
      go_simp
      with_reducible rfl
    rotate_left
    · simp only [Act.put, List.setIfInBounds_toArray, List.set_cons_zero, List.set_cons_succ, i64_w, i32_w]
      rfl
    refine pure_ (i := 6) (N := (some 143)) (v := ?_) (a' := ?_) (bb 10 127) rfl rfl (any_of HT_.out (by kernel_rfl)) (fun _ _ _ h => h) (Or.inl ⟨by rfl, ?_⟩) ?_ ?_
    rotate_left
    · intro w'
      go_simp
      with_reducible rfl
    rotate_left
    · simp only [Act.put, List.setIfInBounds_toArray, List.set_cons_zero, List.set_cons_succ, i64_w, i32_w]
      rfl
    refine take_ (i := 7) (N := (some 144)) (v := ?_) (a' := ?_) (bb 10 255) rfl rfl (take_ofW HT_.out HW_.out (by kernel_rfl)) (fun _ _ _ h => h) (Or.inl ⟨by rfl, ?_⟩) hHeld ?_ ?_
    rotate_left
    · intro w' s0
      (try dsimp only at s0)
      go_simp
      with_reducible rfl
    rotate_left
    · simp only [Act.put, List.setIfInBounds_toArray, List.set_cons_zero, List.set_cons_succ, i64_w, i32_w]
      rfl
    refine last_ (i := 8) (N := (some 145)) (bb 10 511) rfl rfl (one_of HT_.out (by kernel_rfl)) (by decide) (fun K hK => ?_)
    refine goes_ Try.func33 (by kernel_rfl) rfl #[.pointer (some ⟨g, 0, none⟩), .int .i64 (i : Int), .int .i64 (bit : Int)] (by rfl) rfl rfl (by (try simp only [List.map_toArray, List.map_cons, List.map_nil]); first | done | rfl) ?_
    with_reducible refine (Sep.turn HS5.out.up4 i bit HI.out HBT.out).mono ?_
    rintro e w5 ⟨rfl, h⟩
    have HS6 := Aside0.mk h
    clear h
    refine ⟨_, rfl, ?_⟩
    refine hK.out _ _ ?_
    clear hK K
    refine norm_ (a' := ?_) ?_ ?_
    rotate_left
    · show Act.put _ (some 145) _ = _
      simp only [Act.put, List.setIfInBounds_toArray, List.set_cons_zero, List.set_cons_succ, i64_w, i32_w]
      rfl
    refine pure_ (i := 9) (N := (some 15)) (v := ?_) (a' := ?_) (bb 10 1023) rfl rfl (any_of HT_.out (by kernel_rfl)) (fun _ _ _ h => h) (Or.inl ⟨by rfl, ?_⟩) ?_ ?_
    rotate_left
    · intro w'
      go_simp
      with_reducible rfl
    rotate_left
    · simp only [Act.put, List.setIfInBounds_toArray, List.set_cons_zero, List.set_cons_succ, i64_w, i32_w]
      rfl
    refine done_ (done_of HT_.out (by kernel_rfl)) ?_
    clear HS5
    have hd := blk_cell HS6.out.up1.cells.1
    have hd0 : w5.cell? ⟨gd, 0, none⟩ = some (.int .i64 (s.n : Int)) := hd 0
    have hd1 : w5.cell? ⟨gd, 1, none⟩ = some (.slice A1' p1.length c1') := hd 1
    have hd2 : w5.cell? ⟨gd, 2, none⟩ = some (.slice A2' p2.length c2') := hd 2
    have hd3 : w5.cell? ⟨gd, 3, none⟩ = some (.int .i64 s.r) := hd 3
    have hd4 : w5.cell? ⟨gd, 4, none⟩ = some (.int .i64 s.wr) := hd 4
    have hd5 : w5.cell? ⟨gd, 5, none⟩ = some (.int .i64 s.fl) := hd 5
    have hp := blk_cell HS6.out.up4.cells.1
    have hp1 : w5.cell? ⟨gp, 1, none⟩ = some (.int .i64 (s.n : Int)) := hp 1
    have hp2 : w5.cell? ⟨gp, 2, none⟩ = some (.slice A1 l1.length c1) := hp 2
    have hp3 : w5.cell? ⟨gp, 3, none⟩ = some (.slice A2 l2.length c2) := hp 3
    have hp4 : w5.cell? ⟨gp, 4, none⟩ = some (.int .i64 s.r) := hp 4
    have hp5 : w5.cell? ⟨gp, 5, none⟩ = some (.int .i64 s.wr) := hp 5
    have hp6 : w5.cell? ⟨gp, 6, none⟩ = some (.int .i64 s.fl) := hp 6
    have hf := blk_frozen HS6.out.up4.cells.1
    have hf1 := hf 1
    have hf2 := hf 2
    have hf3 := hf 3
    have hf4 := hf 4
    have hf5 := hf 5
    have hf6 := hf 6
    clear hd hp hf
    go_upto_region 22 with (fail)
    clear hd0 hd1 hd2 hd3 hd4 hd5 hp1 hp2 hp3 hp4 hp5 hp6 hf1 hf2 hf3 hf4 hf5 hf6
    have HS7 := Aside0.mk (HS6.out.up4.cset6 (.int .i64 (s.n : Int)) (.slice A1' p1.length c1') (.slice A2' p2.length c2') (.int .i64 s.r) (.int .i64 s.wr) (.int .i64 s.fl))
    clear HS6
    generalize ((((((w5.setCell ⟨gp, 1, none⟩ (.int .i64 (s.n : Int))).setCell ⟨gp, 2, none⟩ (.slice A1' p1.length c1')).setCell ⟨gp, 3, none⟩ (.slice A2' p2.length c2')).setCell ⟨gp, 4, none⟩ (.int .i64 s.r)).setCell ⟨gp, 5, none⟩ (.int .i64 s.wr)).setCell ⟨gp, 6, none⟩ (.int .i64 s.fl)) = w6 at HS7 ⊢
    go_wp2
    go_ret
    exact ⟨rfl, A1', c1', A2', c2', HS7.out.up2.drop.up3.drop⟩
end Go.Proofs.Ytddnhcnkjcdfgaa.M

namespace Go.Proofs.Ytddnhcnkjcdfgaa.M
open Go.RowKit Go.Maps Go.Proofs.YtddnhcnkjcdfgaaW.PrintWords Go.Proofs.YtddnhcnkjcdfgaaW.PrintLast Go.Proofs.YtddnhcnkjcdfgaaW.PrintMore
open Go.Proofs.Ytddnhcnkjcdfgaa.P hiding S106 k106 rd_T106 at_T106
open Go.Proofs.Ytddnhcnkjcdfgaa.R
set_option linter.unusedVariables false
set_option linter.unusedSimpArgs false
variable {w0 : World} {L : List Th}
def does19n_T : Bool × List (List Nat × List Nat) := (true, [([], []), ([0], [0]), ([1], [1]), ([2], [2]), ([], []), ([4], [4]), ([], []), ([6], [6]), ([3, 5, 7], [3, 5, 7]), ([8], [8]), ([9], [9]), ([9], [9]), ([], []), ([12, 10, 8, 0, 1, 2, 3, 4, 5, 6, 7, 8, 9, 10, 12], [10, 12]), ([11, 13, 0, 1, 2, 3, 4, 5, 6, 7, 8, 9, 10, 11, 12, 13], [11])])
def does19n_B : List Nat := [0, 1, 3, 7, 0, 16, 0, 64, 255, 511, 1023, 1023, 0, 6143, 16383]
theorem does19n_tab : rtab .any (opsOf Try.f38 19) = does19n_T := by kernel_rfl
theorem does19n_bits : waitsOk does19n_T.2 does19n_B = true := by kernel_rfl
def does20n_T : Bool × List (List Nat × List Nat) := (true, [([], []), ([0], [0]), ([1], [1]), ([2], [2]), ([], []), ([4], [4]), ([], []), ([6], [6]), ([3, 5, 7], [3, 5, 7]), ([8, 8, 0, 1, 2, 3, 4, 5, 6, 7, 8], [8])])
def does20n_B : List Nat := [0, 1, 3, 7, 0, 16, 0, 64, 255, 511]
theorem does20n_tab : rtab .any (opsOf Try.f38 20) = does20n_T := by kernel_rfl
theorem does20n_bits : waitsOk does20n_T.2 does20n_B = true := by kernel_rfl
set_option maxHeartbeats 8000000 in
set_option maxRecDepth 100000 in
theorem does_turn_ref (gp g : Nat) (s : DS) (A1 : Option Addr) (c1 : Nat) (A2 : Option Addr) (c2 : Nat) (l1 l2 : List S106) (w : World)
    (h : Sep w0 w (cellsT gp (prC g s (.slice A1 l1.length c1) (.slice A2 l2.length c2)) 78 :: dkT g s :: refT (.slice A1 l1.length c1) (.slice A2 l2.length c2) l1 l2 :: L)) (hl : l1.length + l2.length ≤ 900000) (a bt code : Int) (hk0 : ∃ k, kilnref3_Turn.f k (s.n : Int) l1 l2 s.r s.wr s.fl a bt = some ((s.n : Int), l1, l2, s.r, s.wr, s.fl, code)) (hi : ∀ (W : World) (L : List Th), Sep w0 W (dkT g s :: L) → Calls Try.prog 33 #[.pointer (some ⟨g, 0, none⟩), .int .i64 a, .int .i64 bt] W fun e w' => e = .returned (.int .i64 code) ∧ w' = W)
    (fl : Int) (dv fv : Value) :
    Calls Try.prog 38 #[.pointer (some ⟨gp, 0, none⟩), .agg #[.int .i64 4, .int .i64 a, .int .i64 bt, dv, .int .i64 fl, fv]] w fun e w' => e = .returned (.bool true) ∧ ∃ A1' c1' A2' c2',
      Sep w0 w' (cellsT gp (prC g s (.slice A1' l1.length c1') (.slice A2' l2.length c2')) 78 :: dkT g s :: refT (.slice A1' l1.length c1') (.slice A2' l2.length c2') l1 l2 :: L) := by
  have HS0 := Aside0.mk (h.push_alloc #[.int .i64 4, .int .i64 a, .int .i64 bt, dv, .int .i64 fl, fv] 73)
  obtain ⟨k0, hk0⟩ := hk0
  have HRF := Aside0.mk hk0
  have HI := Aside0.mk hi
  clear h hl hk0 hi
  go_enter Try.func38, Try.ntmps38
  go_upto_region 1 with (fail)
  generalize w.alloc (.cells #[.int .i64 4, .int .i64 a, .int .i64 bt, dv, .int .i64 fl, fv] 73) = w1 at HS0 ⊢
  generalize w.heap.size = gb at HS0 ⊢
  have hk : w1.cell? ⟨gb, 0, none⟩ = some (.int .i64 4) := blk_cell HS0.out.cells.1 0
  go_upto_region 19 with (fail)
  have HS1 := Aside0.mk (HS0.out.step (below_drew1 (Below.refl w1.heap.size w1)))
  clear hk
  refine start_ (n := 15) (S := fun W => W.cell? ⟨gp, 1, none⟩ = some (.int .i64 (s.n : Int)) ∧ W.cell? ⟨gp, 2, none⟩ = some (.slice A1 l1.length c1) ∧ W.cell? ⟨gp, 3, none⟩ = some (.slice A2 l2.length c2) ∧ W.cell? ⟨gp, 4, none⟩ = some (.int .i64 s.r) ∧ W.cell? ⟨gp, 5, none⟩ = some (.int .i64 s.wr) ∧ W.cell? ⟨gp, 6, none⟩ = some (.int .i64 s.fl) ∧ W.cell? ⟨gb, 1, none⟩ = some (.int .i64 a) ∧ W.cell? ⟨gb, 2, none⟩ = some (.int .i64 bt)) (ds := [13]) (bb 15 0) (by kernel_rfl) rfl rfl ((pr_held2 HS1.out)) (fun hHeld => ?_); refine with_tabW does19n_tab does19n_bits (fun HT_ HW_ => ?_)
  generalize w1.drew = wd at hHeld HS1 ⊢
  refine pure_ (i := 0) (N := (some 126)) (v := ?_) (a' := ?_) (bb 15 1) rfl rfl (any_of HT_.out (by kernel_rfl)) (fun _ _ _ h => h) (Or.inl ⟨by rfl, ?_⟩) ?_ ?_
  rotate_left
  · intro w'
    go_simp
    with_reducible rfl
  rotate_left
  · simp only [Act.put, List.setIfInBounds_toArray, List.set_cons_zero, List.set_cons_succ, i64_w, i32_w]
    rfl
  refine pure_ (i := 1) (N := (some 127)) (v := ?_) (a' := ?_) (bb 15 3) rfl rfl (any_of HT_.out (by kernel_rfl)) (fun _ _ _ h => h) (Or.inl ⟨by rfl, ?_⟩) ?_ ?_
  rotate_left
  · intro w'
    go_simp
    with_reducible rfl
  rotate_left
  · simp only [Act.put, List.setIfInBounds_toArray, List.set_cons_zero, List.set_cons_succ, i64_w, i32_w]
    rfl
  refine pure_ (i := 2) (N := (some 128)) (v := ?_) (a' := ?_) (bb 15 7) rfl rfl (any_of HT_.out (by kernel_rfl)) (fun _ _ _ h => h) (Or.inl ⟨by rfl, ?_⟩) ?_ ?_
  rotate_left
  · intro w'
    go_simp
    with_reducible rfl
  rotate_left
  · simp only [Act.put, List.setIfInBounds_toArray, List.set_cons_zero, List.set_cons_succ, i64_w, i32_w]
    rfl
  refine take_ (i := 3) (N := (some 129)) (v := ?_) (a' := ?_) (bb 15 15) rfl rfl (take_ofW HT_.out HW_.out (by kernel_rfl)) (fun _ _ _ h => h) (Or.inl ⟨by rfl, ?_⟩) hHeld ?_ ?_
  rotate_left
  · intro w' s0
    (try dsimp only at s0)
    go_simp
    with_reducible rfl
  rotate_left
  · simp only [Act.put, List.setIfInBounds_toArray, List.set_cons_zero, List.set_cons_succ, i64_w, i32_w]
    rfl
  refine pure_ (i := 4) (N := (some 130)) (v := ?_) (a' := ?_) (bb 15 31) rfl rfl (any_of HT_.out (by kernel_rfl)) (fun _ _ _ h => h) (Or.inl ⟨by rfl, ?_⟩) ?_ ?_
  rotate_left
  · intro w'
    go_simp
    with_reducible rfl
  rotate_left
  · simp only [Act.put, List.setIfInBounds_toArray, List.set_cons_zero, List.set_cons_succ, i64_w, i32_w]
    rfl
  refine take_ (i := 5) (N := (some 131)) (v := ?_) (a' := ?_) (bb 15 63) rfl rfl (take_ofW HT_.out HW_.out (by kernel_rfl)) (fun _ _ _ h => h) (Or.inl ⟨by rfl, ?_⟩) hHeld ?_ ?_
  rotate_left
  · intro w' s0
    (try dsimp only at s0)
    go_simp
    with_reducible rfl
  rotate_left
  · simp only [Act.put, List.setIfInBounds_toArray, List.set_cons_zero, List.set_cons_succ, i64_w, i32_w]
    rfl
  refine pure_ (i := 6) (N := (some 132)) (v := ?_) (a' := ?_) (bb 15 127) rfl rfl (any_of HT_.out (by kernel_rfl)) (fun _ _ _ h => h) (Or.inl ⟨by rfl, ?_⟩) ?_ ?_
  rotate_left
  · intro w'
    go_simp
    with_reducible rfl
  rotate_left
  · simp only [Act.put, List.setIfInBounds_toArray, List.set_cons_zero, List.set_cons_succ, i64_w, i32_w]
    rfl
  refine take_ (i := 7) (N := (some 133)) (v := ?_) (a' := ?_) (bb 15 255) rfl rfl (take_ofW HT_.out HW_.out (by kernel_rfl)) (fun _ _ _ h => h) (Or.inl ⟨by rfl, ?_⟩) hHeld ?_ ?_
  rotate_left
  · intro w' s0
    (try dsimp only at s0)
    go_simp
    with_reducible rfl
  rotate_left
  · simp only [Act.put, List.setIfInBounds_toArray, List.set_cons_zero, List.set_cons_succ, i64_w, i32_w]
    rfl
  clear HS0
  refine two_ (i := 8) (j := 12) (Ni := some 134) (Nj := some 13) (bb 15 511) (bb 15 4351) rfl rfl rfl rfl (two_of HT_.out (by kernel_rfl)) (by decide) (by decide) (fun K hK => ?_) (fun K hK => ?_)
  case refine_1 =>
    refine goes_ Try.func53 (by kernel_rfl) rfl #[.agg #[.int .i64 (s.n : Int), .slice A1 l1.length c1, .slice A2 l2.length c2, .int .i64 s.r, .int .i64 s.wr, .int .i64 s.fl], .int .i64 a, .int .i64 bt] (by rfl) rfl rfl (by (try simp only [List.map_toArray, List.map_cons, List.map_nil]); first | done | rfl) ?_
    with_reducible refine (Sep.rTurn HS1.out.up3 k0 _ _ _ _ _ _ _ _ _ _ _ _ _ HRF.out).mono ?_
    rintro e w2 ⟨A1', c1', A2', c2', rfl, h⟩
    have HS2 := Aside0.mk h
    clear h
    refine ⟨_, rfl, ?_⟩
    refine hK.out _ _ (pr_held2 HS2.out.up2.up2) (fun hHeld => ?_)
    clear hK K
    refine norm_ (a' := ?_) ?_ ?_
    rotate_left
    · show Act.put _ (some 134) _ = _
      simp only [Act.put, List.setIfInBounds_toArray, List.set_cons_zero, List.set_cons_succ, i64_w, i32_w]
      rfl
    refine pure_ (i := 9) (N := (some 125)) (v := ?_) (a' := ?_) (bb 15 1023) rfl rfl (any_of HT_.out (by kernel_rfl)) (fun _ _ _ h => h) (Or.inl ⟨by rfl, ?_⟩) ?_ ?_
    rotate_left
    · intro w'
      go_simp
      with_reducible rfl
    rotate_left
    · simp only [Act.put, List.setIfInBounds_toArray, List.set_cons_zero, List.set_cons_succ, i64_w, i32_w]
      rfl
    refine pure_ (i := 10) (N := (some 135)) (v := ?_) (a' := ?_) (bb 15 2047) rfl rfl (any_of HT_.out (by kernel_rfl)) (fun _ _ _ h => h) (Or.inl ⟨by rfl, ?_⟩) ?_ ?_
    rotate_left
    · intro w'
      go_simp
      with_reducible rfl
    rotate_left
    · simp only [Act.put, List.setIfInBounds_toArray, List.set_cons_zero, List.set_cons_succ, i64_w, i32_w]
      rfl
    refine pure_ (i := 11) (N := (some 136)) (v := ?_) (a' := ?_) (bb 15 4095) rfl rfl (any_of HT_.out (by kernel_rfl)) (fun _ _ _ h => h) (Or.inl ⟨by rfl, ?_⟩) ?_ ?_
    rotate_left
    · intro w'
      go_simp
      with_reducible rfl
    rotate_left
    · simp only [Act.put, List.setIfInBounds_toArray, List.set_cons_zero, List.set_cons_succ, i64_w, i32_w]
      rfl
    refine one_ (i := 12) (N := (some 13)) (bb 15 8191) rfl rfl (one_of HT_.out (by kernel_rfl)) (by decide) (fun K hK => ?_)
    refine value_ (w1 := ?_) (v := ?_) (by rfl) rfl ?_ ?_
    rotate_left 2
    · go_simp
      constructor
      · rfl
      · rfl
    have HS3 := Aside0.mk (HS2.out.push_alloc #[.int .i64 0, .slice none 0 0, .slice none 0 0, .int .i64 0, .int .i64 0, .int .i64 0] 76)
    generalize w2.alloc (.cells #[.int .i64 0, .slice none 0 0, .slice none 0 0, .int .i64 0, .int .i64 0, .int .i64 0] 76) = w3 at HS3 ⊢
    generalize w2.heap.size = gd at HS3 ⊢
    have hz := blk_cell HS3.out.cells.1
    have hz0 : w3.cell? ⟨gd, 0, none⟩ = some (.int .i64 0) := hz 0
    have hz1 : w3.cell? ⟨gd, 1, none⟩ = some (.slice none 0 0) := hz 1
    have hz2 : w3.cell? ⟨gd, 2, none⟩ = some (.slice none 0 0) := hz 2
    have hz3 : w3.cell? ⟨gd, 3, none⟩ = some (.int .i64 0) := hz 3
    have hz4 : w3.cell? ⟨gd, 4, none⟩ = some (.int .i64 0) := hz 4
    have hz5 : w3.cell? ⟨gd, 5, none⟩ = some (.int .i64 0) := hz 5
    have hf := blk_frozen HS3.out.cells.1
    have hf0 := hf 0
    have hf1 := hf 1
    have hf2 := hf 2
    have hf3 := hf 3
    have hf4 := hf 4
    have hf5 := hf 5
    clear hz hf
    refine hK.out _ _ (pr_held2 HS3.out.up3.up3) (fun hHeld => ?_)
    clear hK K
    refine norm_ (a' := ?_) ?_ ?_
    rotate_left
    · show Act.put _ (some 13) _ = _
      simp only [Act.put, List.setIfInBounds_toArray, List.set_cons_zero, List.set_cons_succ, i64_w, i32_w]
      rfl
    refine last_ (i := 13) (N := none) (bb 15 16383) rfl rfl (one_of HT_.out (by kernel_rfl)) (by decide) (fun K hK => ?_)
    refine skip_ (w1 := ?_) (by rfl) rfl ?_ ?_
    rotate_left
    · go_simp
      first | rfl | (constructor <;> rfl)
    refine hK.out _ _ ?_
    clear hK K
    refine pure_ (i := 14) (N := (some 14)) (v := ?_) (a' := ?_) (bb 15 32767) rfl rfl (any_of HT_.out (by kernel_rfl)) (fun _ _ _ h => h) (Or.inl ⟨by rfl, ?_⟩) ?_ ?_
    rotate_left
    · intro w'
      go_simp
      with_reducible rfl
    rotate_left
    · simp only [Act.put, List.setIfInBounds_toArray, List.set_cons_zero, List.set_cons_succ, i64_w, i32_w]
      rfl
    refine done_ (done_of HT_.out (by kernel_rfl)) ?_
    have HS4 := Aside0.mk (HS3.out.cset60 (.int .i64 (s.n : Int)) (.slice A1' l1.length c1') (.slice A2' l2.length c2') (.int .i64 s.r) (.int .i64 s.wr) (.int .i64 s.fl))
    clear HS1 HS2 HS3 HRF hHeld hz0 hz1 hz2 hz3 hz4 hz5 hf0 hf1 hf2 hf3 hf4 hf5
    generalize ((((((w3.setCell ⟨gd, 0, none⟩ (.int .i64 (s.n : Int))).setCell ⟨gd, 1, none⟩ (.slice A1' l1.length c1')).setCell ⟨gd, 2, none⟩ (.slice A2' l2.length c2')).setCell ⟨gd, 3, none⟩ (.int .i64 s.r)).setCell ⟨gd, 4, none⟩ (.int .i64 s.wr)).setCell ⟨gd, 5, none⟩ (.int .i64 s.fl)) = w4 at HS4 ⊢
    go_upto_region 20 with (fail)
    have HS5 := Aside0.mk (HS4.out.step (below_drew1 (Below.refl w4.heap.size w4)))
    clear HS4
    refine start_ (n := 10) (S := fun W => W.cell? ⟨gp, 0, none⟩ = some (.pointer (some ⟨g, 0, none⟩)) ∧ W.cell? ⟨gb, 1, none⟩ = some (.int .i64 a) ∧ W.cell? ⟨gb, 2, none⟩ = some (.int .i64 bt)) (ds := [8]) (bb 10 0) (by kernel_rfl) rfl rfl (⟨blk_cell HS5.out.up3.cells.1 0, blk_cell HS5.out.up2.cells.1 1, blk_cell HS5.out.up2.cells.1 2⟩) (fun hHeld => ?_); refine with_tabW does20n_tab does20n_bits (fun HT_ HW_ => ?_)
    generalize w4.drew = wd4 at hHeld HS5 ⊢
    refine pure_ (i := 0) (N := (some 137)) (v := ?_) (a' := ?_) (bb 10 1) rfl rfl (any_of HT_.out (by kernel_rfl)) (fun _ _ _ h => h) (Or.inl ⟨by rfl, ?_⟩) ?_ ?_
    rotate_left
    · intro w'
      go_simp
      with_reducible rfl
    rotate_left
    · simp only [Act.put, List.setIfInBounds_toArray, List.set_cons_zero, List.set_cons_succ, i64_w, i32_w]
      rfl
    refine pure_ (i := 1) (N := (some 138)) (v := ?_) (a' := ?_) (bb 10 3) rfl rfl (any_of HT_.out (by kernel_rfl)) (fun _ _ _ h => h) (Or.inl ⟨by rfl, ?_⟩) ?_ ?_
    rotate_left
    · intro w'
      go_simp
      with_reducible rfl
    rotate_left
    · simp only [Act.put, List.setIfInBounds_toArray, List.set_cons_zero, List.set_cons_succ, i64_w, i32_w]
      rfl
    refine pure_ (i := 2) (N := (some 139)) (v := ?_) (a' := ?_) (bb 10 7) rfl rfl (any_of HT_.out (by kernel_rfl)) (fun _ _ _ h => h) (Or.inl ⟨by rfl, ?_⟩) ?_ ?_
    rotate_left
    · intro w'
      go_simp
      with_reducible rfl
    rotate_left
    · simp only [Act.put, List.setIfInBounds_toArray, List.set_cons_zero, List.set_cons_succ, i64_w, i32_w]
      rfl
    refine take_ (i := 3) (N := (some 140)) (v := ?_) (a' := ?_) (bb 10 15) rfl rfl (take_ofW HT_.out HW_.out (by kernel_rfl)) (fun _ _ _ h => h) (Or.inl ⟨by rfl, ?_⟩) hHeld ?_ ?_
    rotate_left
    · intro w' s0
      (try dsimp only at s0)
      go_simp
      with_reducible rfl
    rotate_left
    · simp only [Act.put, List.setIfInBounds_toArray, List.set_cons_zero, List.set_cons_succ, i64_w, i32_w]
      rfl
    refine pure_ (i := 4) (N := (some 141)) (v := ?_) (a' := ?_) (bb 10 31) rfl rfl (any_of HT_.out (by kernel_rfl)) (fun _ _ _ h => h) (Or.inl ⟨by rfl, ?_⟩) ?_ ?_
    rotate_left
    · intro w'
      go_simp
      with_reducible rfl
    rotate_left
    · simp only [Act.put, List.setIfInBounds_toArray, List.set_cons_zero, List.set_cons_succ, i64_w, i32_w]
      rfl
    refine take_ (i := 5) (N := (some 142)) (v := ?_) (a' := ?_) (bb 10 63) rfl rfl (take_ofW HT_.out HW_.out (by kernel_rfl)) (fun _ _ _ h => h) (Or.inl ⟨by rfl, ?_⟩) hHeld ?_ ?_
    rotate_left
    · intro w' s0
      (try dsimp only at s0)
      go_simp
      with_reducible rfl
    rotate_left
    · simp only [Act.put, List.setIfInBounds_toArray, List.set_cons_zero, List.set_cons_succ, i64_w, i32_w]
      rfl
    refine pure_ (i := 6) (N := (some 143)) (v := ?_) (a' := ?_) (bb 10 127) rfl rfl (any_of HT_.out (by kernel_rfl)) (fun _ _ _ h => h) (Or.inl ⟨by rfl, ?_⟩) ?_ ?_
    rotate_left
    · intro w'
      go_simp
      with_reducible rfl
    rotate_left
    · simp only [Act.put, List.setIfInBounds_toArray, List.set_cons_zero, List.set_cons_succ, i64_w, i32_w]
      rfl
    refine take_ (i := 7) (N := (some 144)) (v := ?_) (a' := ?_) (bb 10 255) rfl rfl (take_ofW HT_.out HW_.out (by kernel_rfl)) (fun _ _ _ h => h) (Or.inl ⟨by rfl, ?_⟩) hHeld ?_ ?_
    rotate_left
    · intro w' s0
      (try dsimp only at s0)
      go_simp
      with_reducible rfl
    rotate_left
    · simp only [Act.put, List.setIfInBounds_toArray, List.set_cons_zero, List.set_cons_succ, i64_w, i32_w]
      rfl
    refine last_ (i := 8) (N := (some 145)) (bb 10 511) rfl rfl (one_of HT_.out (by kernel_rfl)) (by decide) (fun K hK => ?_)
    refine goes_ Try.func33 (by kernel_rfl) rfl #[.pointer (some ⟨g, 0, none⟩), .int .i64 a, .int .i64 bt] (by rfl) rfl rfl (by (try simp only [List.map_toArray, List.map_cons, List.map_nil]); first | done | rfl) ?_
    with_reducible refine (HI.out _ _ HS5.out.up4).mono ?_
    rintro e w5 ⟨rfl, hw⟩
    subst hw
    have HS6 := Aside0.mk HS5.out.up4
    refine ⟨_, rfl, ?_⟩
    refine hK.out _ _ ?_
    clear hK K
    refine norm_ (a' := ?_) ?_ ?_
    rotate_left
    · show Act.put _ (some 145) _ = _
      simp only [Act.put, List.setIfInBounds_toArray, List.set_cons_zero, List.set_cons_succ, i64_w, i32_w]
      rfl
    refine pure_ (i := 9) (N := (some 15)) (v := ?_) (a' := ?_) (bb 10 1023) rfl rfl (any_of HT_.out (by kernel_rfl)) (fun _ _ _ h => h) (Or.inl ⟨by rfl, ?_⟩) ?_ ?_
    rotate_left
    · intro w'
      go_simp
      with_reducible rfl
    rotate_left
    · simp only [Act.put, List.setIfInBounds_toArray, List.set_cons_zero, List.set_cons_succ, i64_w, i32_w]
      rfl
    refine done_ (done_of HT_.out (by kernel_rfl)) ?_
    clear HS5
    have hd := blk_cell HS6.out.up1.cells.1
    have hd0 : w5.cell? ⟨gd, 0, none⟩ = some (.int .i64 (s.n : Int)) := hd 0
    have hd1 : w5.cell? ⟨gd, 1, none⟩ = some (.slice A1' l1.length c1') := hd 1
    have hd2 : w5.cell? ⟨gd, 2, none⟩ = some (.slice A2' l2.length c2') := hd 2
    have hd3 : w5.cell? ⟨gd, 3, none⟩ = some (.int .i64 s.r) := hd 3
    have hd4 : w5.cell? ⟨gd, 4, none⟩ = some (.int .i64 s.wr) := hd 4
    have hd5 : w5.cell? ⟨gd, 5, none⟩ = some (.int .i64 s.fl) := hd 5
    have hp := blk_cell HS6.out.up4.cells.1
    have hp1 : w5.cell? ⟨gp, 1, none⟩ = some (.int .i64 (s.n : Int)) := hp 1
    have hp2 : w5.cell? ⟨gp, 2, none⟩ = some (.slice A1 l1.length c1) := hp 2
    have hp3 : w5.cell? ⟨gp, 3, none⟩ = some (.slice A2 l2.length c2) := hp 3
    have hp4 : w5.cell? ⟨gp, 4, none⟩ = some (.int .i64 s.r) := hp 4
    have hp5 : w5.cell? ⟨gp, 5, none⟩ = some (.int .i64 s.wr) := hp 5
    have hp6 : w5.cell? ⟨gp, 6, none⟩ = some (.int .i64 s.fl) := hp 6
    have hf := blk_frozen HS6.out.up4.cells.1
    have hf1 := hf 1
    have hf2 := hf 2
    have hf3 := hf 3
    have hf4 := hf 4
    have hf5 := hf 5
    have hf6 := hf 6
    clear hd hp hf
    go_upto_region 22 with (fail)
    clear hd0 hd1 hd2 hd3 hd4 hd5 hp1 hp2 hp3 hp4 hp5 hp6 hf1 hf2 hf3 hf4 hf5 hf6
    have HS7 := Aside0.mk (HS6.out.up4.cset6 (.int .i64 (s.n : Int)) (.slice A1' l1.length c1') (.slice A2' l2.length c2') (.int .i64 s.r) (.int .i64 s.wr) (.int .i64 s.fl))
    clear HS6
    generalize ((((((w5.setCell ⟨gp, 1, none⟩ (.int .i64 (s.n : Int))).setCell ⟨gp, 2, none⟩ (.slice A1' l1.length c1')).setCell ⟨gp, 3, none⟩ (.slice A2' l2.length c2')).setCell ⟨gp, 4, none⟩ (.int .i64 s.r)).setCell ⟨gp, 5, none⟩ (.int .i64 s.wr)).setCell ⟨gp, 6, none⟩ (.int .i64 s.fl)) = w6 at HS7 ⊢
    have c9b0 : (code == code) = true := beq_iff_eq.mpr rfl
    go_wp2
    go_ret
    exact ⟨rfl, A1', c1', A2', c2', HS7.out.up2.drop.up3.drop⟩
  case refine_2 =>
    refine value_ (w1 := ?_) (v := ?_) (by rfl) rfl ?_ ?_
    rotate_left 2
    · go_simp
      constructor
      · rfl
      · rfl
    have HS2 := Aside0.mk (HS1.out.push_alloc #[.int .i64 0, .slice none 0 0, .slice none 0 0, .int .i64 0, .int .i64 0, .int .i64 0] 76)
    generalize wd.alloc (.cells #[.int .i64 0, .slice none 0 0, .slice none 0 0, .int .i64 0, .int .i64 0, .int .i64 0] 76) = w2 at HS2 ⊢
    generalize wd.heap.size = gd at HS2 ⊢
    refine hK.out _ _ (pr_held2 HS2.out.up2.up2) (fun hHeld => ?_)
    clear hK K
    refine norm_ (a' := ?_) ?_ ?_
    rotate_left
    · show Act.put _ (some 13) _ = _
      simp only [Act.put, List.setIfInBounds_toArray, List.set_cons_zero, List.set_cons_succ, i64_w, i32_w]
      rfl
    refine one_ (i := 8) (N := (some 134)) (bb 15 4607) rfl rfl (one_of HT_.out (by kernel_rfl)) (by decide) (fun K hK => ?_)
    refine goes_ Try.func53 (by kernel_rfl) rfl #[.agg #[.int .i64 (s.n : Int), .slice A1 l1.length c1, .slice A2 l2.length c2, .int .i64 s.r, .int .i64 s.wr, .int .i64 s.fl], .int .i64 a, .int .i64 bt] (by rfl) rfl rfl (by (try simp only [List.map_toArray, List.map_cons, List.map_nil]); first | done | rfl) ?_
    with_reducible refine (Sep.rTurn HS2.out.up4 k0 _ _ _ _ _ _ _ _ _ _ _ _ _ HRF.out).mono ?_
    rintro e w3 ⟨A1', c1', A2', c2', rfl, h⟩
    have HS3 := Aside0.mk h.up1
    clear h
    have hz := blk_cell HS3.out.cells.1
    have hz0 : w3.cell? ⟨gd, 0, none⟩ = some (.int .i64 0) := hz 0
    have hz1 : w3.cell? ⟨gd, 1, none⟩ = some (.slice none 0 0) := hz 1
    have hz2 : w3.cell? ⟨gd, 2, none⟩ = some (.slice none 0 0) := hz 2
    have hz3 : w3.cell? ⟨gd, 3, none⟩ = some (.int .i64 0) := hz 3
    have hz4 : w3.cell? ⟨gd, 4, none⟩ = some (.int .i64 0) := hz 4
    have hz5 : w3.cell? ⟨gd, 5, none⟩ = some (.int .i64 0) := hz 5
    have hf := blk_frozen HS3.out.cells.1
    have hf0 := hf 0
    have hf1 := hf 1
    have hf2 := hf 2
    have hf3 := hf 3
    have hf4 := hf 4
    have hf5 := hf 5
    clear hz hf
    refine ⟨_, rfl, ?_⟩
    refine hK.out _ _ (pr_held2 HS3.out.up3.up3) (fun hHeld => ?_)
    clear hK K
    refine norm_ (a' := ?_) ?_ ?_
    rotate_left
    · show Act.put _ (some 134) _ = _
      simp only [Act.put, List.setIfInBounds_toArray, List.set_cons_zero, List.set_cons_succ, i64_w, i32_w]
      rfl
    refine pure_ (i := 9) (N := (some 125)) (v := ?_) (a' := ?_) (bb 15 5119) rfl rfl (any_of HT_.out (by kernel_rfl)) (fun _ _ _ h => h) (Or.inl ⟨by rfl, ?_⟩) ?_ ?_
    rotate_left
    · intro w'
      go_simp
      with_reducible rfl
    rotate_left
    · simp only [Act.put, List.setIfInBounds_toArray, List.set_cons_zero, List.set_cons_succ, i64_w, i32_w]
      rfl
    refine pure_ (i := 10) (N := (some 135)) (v := ?_) (a' := ?_) (bb 15 6143) rfl rfl (any_of HT_.out (by kernel_rfl)) (fun _ _ _ h => h) (Or.inl ⟨by rfl, ?_⟩) ?_ ?_
    rotate_left
    · intro w'
      go_simp
      with_reducible rfl
    rotate_left
    · simp only [Act.put, List.setIfInBounds_toArray, List.set_cons_zero, List.set_cons_succ, i64_w, i32_w]
      rfl
    refine pure_ (i := 11) (N := (some 136)) (v := ?_) (a' := ?_) (bb 15 8191) rfl rfl (any_of HT_.out (by kernel_rfl)) (fun _ _ _ h => h) (Or.inl ⟨by rfl, ?_⟩) ?_ ?_
    rotate_left
    · intro w'
      go_simp
      with_reducible rfl
    rotate_left
    · simp only [Act.put, List.setIfInBounds_toArray, List.set_cons_zero, List.set_cons_succ, i64_w, i32_w]
      rfl
    refine last_ (i := 13) (N := none) (bb 15 16383) rfl rfl (one_of HT_.out (by kernel_rfl)) (by decide) (fun K hK => ?_)
    refine skip_ (w1 := ?_) (by rfl) rfl ?_ ?_
    rotate_left
    · go_simp
      first | rfl | (constructor <;> rfl)
    refine hK.out _ _ ?_
    clear hK K
    refine pure_ (i := 14) (N := (some 14)) (v := ?_) (a' := ?_) (bb 15 32767) rfl rfl (any_of HT_.out (by kernel_rfl)) (fun _ _ _ h => h) (Or.inl ⟨by rfl, ?_⟩) ?_ ?_
    rotate_left
    · intro w'
      go_simp
      with_reducible rfl
    rotate_left
    · simp only [Act.put, List.setIfInBounds_toArray, List.set_cons_zero, List.set_cons_succ, i64_w, i32_w]
      rfl
    refine done_ (done_of HT_.out (by kernel_rfl)) ?_
    have HS4 := Aside0.mk (HS3.out.cset60 (.int .i64 (s.n : Int)) (.slice A1' l1.length c1') (.slice A2' l2.length c2') (.int .i64 s.r) (.int .i64 s.wr) (.int .i64 s.fl))
    clear HS1 HS2 HS3 HRF hHeld hz0 hz1 hz2 hz3 hz4 hz5 hf0 hf1 hf2 hf3 hf4 hf5
    generalize ((((((w3.setCell ⟨gd, 0, none⟩ (.int .i64 (s.n : Int))).setCell ⟨gd, 1, none⟩ (.slice A1' l1.length c1')).setCell ⟨gd, 2, none⟩ (.slice A2' l2.length c2')).setCell ⟨gd, 3, none⟩ (.int .i64 s.r)).setCell ⟨gd, 4, none⟩ (.int .i64 s.wr)).setCell ⟨gd, 5, none⟩ (.int .i64 s.fl)) = w4 at HS4 ⊢
    go_upto_region 20 with (fail)
    have HS5 := Aside0.mk (HS4.out.step (below_drew1 (Below.refl w4.heap.size w4)))
    clear HS4
    refine start_ (n := 10) (S := fun W => W.cell? ⟨gp, 0, none⟩ = some (.pointer (some ⟨g, 0, none⟩)) ∧ W.cell? ⟨gb, 1, none⟩ = some (.int .i64 a) ∧ W.cell? ⟨gb, 2, none⟩ = some (.int .i64 bt)) (ds := [8]) (bb 10 0) (by kernel_rfl) rfl rfl (⟨blk_cell HS5.out.up3.cells.1 0, blk_cell HS5.out.up2.cells.1 1, blk_cell HS5.out.up2.cells.1 2⟩) (fun hHeld => ?_); refine with_tabW does20n_tab does20n_bits (fun HT_ HW_ => ?_)
    generalize w4.drew = wd4 at hHeld HS5 ⊢
    refine pure_ (i := 0) (N := (some 137)) (v := ?_) (a' := ?_) (bb 10 1) rfl rfl (any_of HT_.out (by kernel_rfl)) (fun _ _ _ h => h) (Or.inl ⟨by rfl, ?_⟩) ?_ ?_
    rotate_left
    · intro w'
      go_simp
      with_reducible rfl
    rotate_left
    · simp only [Act.put, List.setIfInBounds_toArray, List.set_cons_zero, List.set_cons_succ, i64_w, i32_w]
      rfl
    refine pure_ (i := 1) (N := (some 138)) (v := ?_) (a' := ?_) (bb 10 3) rfl rfl (any_of HT_.out (by kernel_rfl)) (fun _ _ _ h => h) (Or.inl ⟨by rfl, ?_⟩) ?_ ?_
    rotate_left
    · intro w'
      go_simp
      with_reducible rfl
    rotate_left
    · simp only [Act.put, List.setIfInBounds_toArray, List.set_cons_zero, List.set_cons_succ, i64_w, i32_w]
      rfl
    refine pure_ (i := 2) (N := (some 139)) (v := ?_) (a' := ?_) (bb 10 7) rfl rfl (any_of HT_.out (by kernel_rfl)) (fun _ _ _ h => h) (Or.inl ⟨by rfl, ?_⟩) ?_ ?_
    rotate_left
    · intro w'
      go_simp
      with_reducible rfl
    rotate_left
    · simp only [Act.put, List.setIfInBounds_toArray, List.set_cons_zero, List.set_cons_succ, i64_w, i32_w]
      rfl
    refine take_ (i := 3) (N := (some 140)) (v := ?_) (a' := ?_) (bb 10 15) rfl rfl (take_ofW HT_.out HW_.out (by kernel_rfl)) (fun _ _ _ h => h) (Or.inl ⟨by rfl, ?_⟩) hHeld ?_ ?_
    rotate_left
    · intro w' s0
      (try dsimp only at s0)
      go_simp
      with_reducible rfl
    rotate_left
    · simp only [Act.put, List.setIfInBounds_toArray, List.set_cons_zero, List.set_cons_succ, i64_w, i32_w]
      rfl
    refine pure_ (i := 4) (N := (some 141)) (v := ?_) (a' := ?_) (bb 10 31) rfl rfl (any_of HT_.out (by kernel_rfl)) (fun _ _ _ h => h) (Or.inl ⟨by rfl, ?_⟩) ?_ ?_
    rotate_left
    · intro w'
      go_simp
      with_reducible rfl
    rotate_left
    · simp only [Act.put, List.setIfInBounds_toArray, List.set_cons_zero, List.set_cons_succ, i64_w, i32_w]
      rfl
    refine take_ (i := 5) (N := (some 142)) (v := ?_) (a' := ?_) (bb 10 63) rfl rfl (take_ofW HT_.out HW_.out (by kernel_rfl)) (fun _ _ _ h => h) (Or.inl ⟨by rfl, ?_⟩) hHeld ?_ ?_
    rotate_left
    · intro w' s0
      (try dsimp only at s0)
      go_simp
      with_reducible rfl
    rotate_left
    · simp only [Act.put, List.setIfInBounds_toArray, List.set_cons_zero, List.set_cons_succ, i64_w, i32_w]
      rfl
    refine pure_ (i := 6) (N := (some 143)) (v := ?_) (a' := ?_) (bb 10 127) rfl rfl (any_of HT_.out (by kernel_rfl)) (fun _ _ _ h => h) (Or.inl ⟨by rfl, ?_⟩) ?_ ?_
    rotate_left
    · intro w'
      go_simp
      with_reducible rfl
    rotate_left
    · simp only [Act.put, List.setIfInBounds_toArray, List.set_cons_zero, List.set_cons_succ, i64_w, i32_w]
      rfl
    refine take_ (i := 7) (N := (some 144)) (v := ?_) (a' := ?_) (bb 10 255) rfl rfl (take_ofW HT_.out HW_.out (by kernel_rfl)) (fun _ _ _ h => h) (Or.inl ⟨by rfl, ?_⟩) hHeld ?_ ?_
    rotate_left
    · intro w' s0
      (try dsimp only at s0)
      go_simp
      with_reducible rfl
    rotate_left
    · simp only [Act.put, List.setIfInBounds_toArray, List.set_cons_zero, List.set_cons_succ, i64_w, i32_w]
      rfl
    refine last_ (i := 8) (N := (some 145)) (bb 10 511) rfl rfl (one_of HT_.out (by kernel_rfl)) (by decide) (fun K hK => ?_)
    refine goes_ Try.func33 (by kernel_rfl) rfl #[.pointer (some ⟨g, 0, none⟩), .int .i64 a, .int .i64 bt] (by rfl) rfl rfl (by (try simp only [List.map_toArray, List.map_cons, List.map_nil]); first | done | rfl) ?_
    with_reducible refine (HI.out _ _ HS5.out.up4).mono ?_
    rintro e w5 ⟨rfl, hw⟩
    subst hw
    have HS6 := Aside0.mk HS5.out.up4
    refine ⟨_, rfl, ?_⟩
    refine hK.out _ _ ?_
    clear hK K
    refine norm_ (a' := ?_) ?_ ?_
    rotate_left
    · show Act.put _ (some 145) _ = _
      simp only [Act.put, List.setIfInBounds_toArray, List.set_cons_zero, List.set_cons_succ, i64_w, i32_w]
      rfl
    refine pure_ (i := 9) (N := (some 15)) (v := ?_) (a' := ?_) (bb 10 1023) rfl rfl (any_of HT_.out (by kernel_rfl)) (fun _ _ _ h => h) (Or.inl ⟨by rfl, ?_⟩) ?_ ?_
    rotate_left
    · intro w'
      go_simp
      with_reducible rfl
    rotate_left
    · simp only [Act.put, List.setIfInBounds_toArray, List.set_cons_zero, List.set_cons_succ, i64_w, i32_w]
      rfl
    refine done_ (done_of HT_.out (by kernel_rfl)) ?_
    clear HS5
    have hd := blk_cell HS6.out.up1.cells.1
    have hd0 : w5.cell? ⟨gd, 0, none⟩ = some (.int .i64 (s.n : Int)) := hd 0
    have hd1 : w5.cell? ⟨gd, 1, none⟩ = some (.slice A1' l1.length c1') := hd 1
    have hd2 : w5.cell? ⟨gd, 2, none⟩ = some (.slice A2' l2.length c2') := hd 2
    have hd3 : w5.cell? ⟨gd, 3, none⟩ = some (.int .i64 s.r) := hd 3
    have hd4 : w5.cell? ⟨gd, 4, none⟩ = some (.int .i64 s.wr) := hd 4
    have hd5 : w5.cell? ⟨gd, 5, none⟩ = some (.int .i64 s.fl) := hd 5
    have hp := blk_cell HS6.out.up4.cells.1
    have hp1 : w5.cell? ⟨gp, 1, none⟩ = some (.int .i64 (s.n : Int)) := hp 1
    have hp2 : w5.cell? ⟨gp, 2, none⟩ = some (.slice A1 l1.length c1) := hp 2
    have hp3 : w5.cell? ⟨gp, 3, none⟩ = some (.slice A2 l2.length c2) := hp 3
    have hp4 : w5.cell? ⟨gp, 4, none⟩ = some (.int .i64 s.r) := hp 4
    have hp5 : w5.cell? ⟨gp, 5, none⟩ = some (.int .i64 s.wr) := hp 5
    have hp6 : w5.cell? ⟨gp, 6, none⟩ = some (.int .i64 s.fl) := hp 6
    have hf := blk_frozen HS6.out.up4.cells.1
    have hf1 := hf 1
    have hf2 := hf 2
    have hf3 := hf 3
    have hf4 := hf 4
    have hf5 := hf 5
    have hf6 := hf 6
    clear hd hp hf
    go_upto_region 22 with (fail)
    clear hd0 hd1 hd2 hd3 hd4 hd5 hp1 hp2 hp3 hp4 hp5 hp6 hf1 hf2 hf3 hf4 hf5 hf6
    have HS7 := Aside0.mk (HS6.out.up4.cset6 (.int .i64 (s.n : Int)) (.slice A1' l1.length c1') (.slice A2' l2.length c2') (.int .i64 s.r) (.int .i64 s.wr) (.int .i64 s.fl))
    clear HS6
    generalize ((((((w5.setCell ⟨gp, 1, none⟩ (.int .i64 (s.n : Int))).setCell ⟨gp, 2, none⟩ (.slice A1' l1.length c1')).setCell ⟨gp, 3, none⟩ (.slice A2' l2.length c2')).setCell ⟨gp, 4, none⟩ (.int .i64 s.r)).setCell ⟨gp, 5, none⟩ (.int .i64 s.wr)).setCell ⟨gp, 6, none⟩ (.int .i64 s.fl)) = w6 at HS7 ⊢
    have c9b0 : (code == code) = true := beq_iff_eq.mpr rfl
    go_wp2
    go_ret
    exact ⟨rfl, A1', c1', A2', c2', HS7.out.up2.drop.up3.drop⟩
end Go.Proofs.Ytddnhcnkjcdfgaa.M

namespace Go.Proofs.Ytddnhcnkjcdfgaa.M
open Go.RowKit Go.Maps Go.Proofs.YtddnhcnkjcdfgaaW.PrintWords Go.Proofs.YtddnhcnkjcdfgaaW.PrintLast Go.Proofs.YtddnhcnkjcdfgaaW.PrintMore
open Go.Proofs.Ytddnhcnkjcdfgaa.P hiding S106 k106 rd_T106 at_T106
open Go.Proofs.Ytddnhcnkjcdfgaa.R
set_option linter.unusedVariables false
set_option linter.unusedSimpArgs false
variable {w0 : World} {L : List Th}
theorem pr_held0 {W : World} {gp : Nat} {a0 a1 a2 a3 a4 a5 a6 : Value} (h : Sep w0 W (cellsT gp #[a0, a1, a2, a3, a4, a5, a6] 78 :: L)) :
    W.cell? ⟨gp, 0, none⟩ = some a0 ∧ W.cell? ⟨gp, 1, none⟩ = some a1 ∧ W.cell? ⟨gp, 2, none⟩ = some a2 ∧ W.cell? ⟨gp, 3, none⟩ = some a3 ∧ W.cell? ⟨gp, 4, none⟩ = some a4 ∧ W.cell? ⟨gp, 5, none⟩ = some a5 ∧ W.cell? ⟨gp, 6, none⟩ = some a6 :=
  ⟨blk_cell h.cells.1 0, blk_cell h.cells.1 1, blk_cell h.cells.1 2, blk_cell h.cells.1 3, blk_cell h.cells.1 4, blk_cell h.cells.1 5, blk_cell h.cells.1 6⟩
theorem same_calls {W : World} {M1 M2 : List Th} {B1 B2 : Option Addr} {n d1 d2 : Nat} {X : List (List Int)} (h1 : Sep w0 W (ownT KB 28 (.slice B1 n d1) X :: M1)) (h2 : Sep w0 W (ownT KB 28 (.slice B2 n d2) X :: M2)) (k : Nat) (hk : R.kilnref3_SameImage.f (k + 1) X X = some true) :
    Calls Try.prog 36 #[.slice B1 n d1, .slice B2 n d2] W fun e w' => e = .returned (.bool true) ∧ Drawn0 W w' := by
  obtain ⟨_, _, r1⟩ := h1.own
  obtain ⟨_, _, r2⟩ := h2.own
  obtain ⟨e1, f1, g1⟩ := Kd.R_reads' r1
  obtain ⟨e2, f2, g2⟩ := Kd.R_reads' r2
  have h_ := R.kilnref3_SameImage.calls (k + 1) B1 d1 X B2 d2 X true W g1 (e1 ▸ f1) g2 (e2 ▸ f2) hk
  rw [← e1] at h_
  exact h_
def does24_T : Bool × List (List Nat × List Nat) := (true, [([], []), ([0], [0]), ([1], [1]), ([2], [2]), ([3], [3]), ([], []), ([5], [5]), ([6], [6]), ([7], [7]), ([8, 4], [8]), ([4, 9, 9], [4, 9]), ([10, 10, 0, 1, 2, 3, 4, 5, 6, 7, 8, 9, 10], [10])])
def does24_B : List Nat := [0, 1, 3, 7, 15, 0, 32, 96, 224, 511, 1023, 2047]
theorem does24_tab : rtab .any (opsOf Try.f38 24) = does24_T := by kernel_rfl
theorem does24_bits : waitsOk does24_T.2 does24_B = true := by kernel_rfl
set_option maxHeartbeats 8000000 in
set_option maxRecDepth 100000 in
theorem does_image (gp g : Nat) (s : DS) (A1 : Option Addr) (c1 : Nat) (A2 : Option Addr) (c2 : Nat) (l1 l2 : List S106) (w : World)
    (h : Sep w0 w (cellsT gp (prC g s (.slice A1 l1.length c1) (.slice A2 l2.length c2)) 78 :: dkT g s :: refT (.slice A1 l1.length c1) (.slice A2 l2.length c2) l1 l2 :: L)) (hl : l1.length + l2.length ≤ 1000000) (hR : Rl s l1 l2) (hn : 2 ≤ s.n ∧ s.n ≤ 65536)
    (b t fl : Int) (dv fv : Value) :
    Calls Try.prog 38 #[.pointer (some ⟨gp, 0, none⟩), .agg #[.int .i64 5, .int .i64 b, .int .i64 t, dv, .int .i64 fl, fv]] w fun e w' => e = .returned (.bool true) ∧
      Sep w0 w' (cellsT gp (prC g s (.slice A1 l1.length c1) (.slice A2 l2.length c2)) 78 :: dkT g s :: refT (.slice A1 l1.length c1) (.slice A2 l2.length c2) l1 l2 :: L) := by
  have HS0 := Aside0.mk (h.push_alloc #[.int .i64 5, .int .i64 b, .int .i64 t, dv, .int .i64 fl, fv] 73)
  have HIM := Aside0.mk hR.image
  have HN := Aside0.mk hn
  have HL1 := Aside0.mk (show l1.length ≤ 1000000000 by omega)
  have HLL := Aside0.mk (show s.L.length ≤ 1000000 by rw [hR.len]; omega)
  have HG := Aside0.mk (show ∀ j, j < l1.length → (∃ i : Nat, i < s.n ∧ (rd_T106 l1 (j : Int)).f0 = (i : Int)) ∧ (rd_T106 l1 (j : Int)).f1.length ≤ 1000000 from fun j hj => by
    rw [rd106 l1 j hj]
    obtain ⟨h1, h2⟩ := hR.e1 _ (List.getElem_mem hj)
    exact ⟨h1, by omega⟩)
  clear h hl hR hn
  go_enter Try.func38, Try.ntmps38
  go_upto_region 1 with (fail)
  generalize w.alloc (.cells #[.int .i64 5, .int .i64 b, .int .i64 t, dv, .int .i64 fl, fv] 73) = w1 at HS0 ⊢
  generalize w.heap.size = gb at HS0 ⊢
  have hk : w1.cell? ⟨gb, 0, none⟩ = some (.int .i64 5) := blk_cell HS0.out.cells.1 0
  go_upto_region 24 with (fail)
  have HS1 := Aside0.mk (HS0.out.step (below_drew1 (Below.refl w1.heap.size w1)))
  clear hk HS0
  refine start_ (n := 12) (S := fun W => W.cell? ⟨gp, 0, none⟩ = some (.pointer (some ⟨g, 0, none⟩)) ∧ W.cell? ⟨gp, 1, none⟩ = some (.int .i64 (s.n : Int)) ∧ W.cell? ⟨gp, 2, none⟩ = some (.slice A1 l1.length c1) ∧ W.cell? ⟨gp, 3, none⟩ = some (.slice A2 l2.length c2) ∧ W.cell? ⟨gp, 4, none⟩ = some (.int .i64 s.r) ∧ W.cell? ⟨gp, 5, none⟩ = some (.int .i64 s.wr) ∧ W.cell? ⟨gp, 6, none⟩ = some (.int .i64 s.fl)) (ds := [10]) (bb 12 0) (by kernel_rfl) rfl rfl ((pr_held0 HS1.out.up1)) (fun hHeld => ?_); refine with_tabW does24_tab does24_bits (fun HT_ HW_ => ?_)
  generalize w1.drew = wd at hHeld HS1 ⊢
  refine pure_ (i := 0) (N := (some 155)) (v := ?_) (a' := ?_) (bb 12 1) rfl rfl (any_of HT_.out (by kernel_rfl)) (fun _ _ _ h => h) (Or.inl ⟨by rfl, ?_⟩) ?_ ?_
  rotate_left
  · intro w'
    go_simp
    with_reducible rfl
  rotate_left
  · simp only [Act.put, List.setIfInBounds_toArray, List.set_cons_zero, List.set_cons_succ, i64_w, i32_w]
    rfl
  refine pure_ (i := 1) (N := (some 156)) (v := ?_) (a' := ?_) (bb 12 3) rfl rfl (any_of HT_.out (by kernel_rfl)) (fun _ _ _ h => h) (Or.inl ⟨by rfl, ?_⟩) ?_ ?_
  rotate_left
  · intro w'
    go_simp
    with_reducible rfl
  rotate_left
  · simp only [Act.put, List.setIfInBounds_toArray, List.set_cons_zero, List.set_cons_succ, i64_w, i32_w]
    rfl
  refine pure_ (i := 2) (N := (some 157)) (v := ?_) (a' := ?_) (bb 12 7) rfl rfl (any_of HT_.out (by kernel_rfl)) (fun _ _ _ h => h) (Or.inl ⟨by rfl, ?_⟩) ?_ ?_
  rotate_left
  · intro w'
    go_simp
    with_reducible rfl
  rotate_left
  · simp only [Act.put, List.setIfInBounds_toArray, List.set_cons_zero, List.set_cons_succ, i64_w, i32_w]
    rfl
  refine take_ (i := 3) (N := (some 158)) (v := ?_) (a' := ?_) (bb 12 15) rfl rfl (take_ofW HT_.out HW_.out (by kernel_rfl)) (fun _ _ _ h => h) (Or.inl ⟨by rfl, ?_⟩) hHeld ?_ ?_
  rotate_left
  · intro w' s0
    (try dsimp only at s0)
    go_simp
    with_reducible rfl
  rotate_left
  · simp only [Act.put, List.setIfInBounds_toArray, List.set_cons_zero, List.set_cons_succ, i64_w, i32_w]
    rfl
  refine pure_ (i := 5) (N := (some 160)) (v := ?_) (a' := ?_) (bb 12 47) rfl rfl (any_of HT_.out (by kernel_rfl)) (fun _ _ _ h => h) (Or.inl ⟨by rfl, ?_⟩) ?_ ?_
  rotate_left
  · intro w'
    go_simp
    with_reducible rfl
  rotate_left
  · simp only [Act.put, List.setIfInBounds_toArray, List.set_cons_zero, List.set_cons_succ, i64_w, i32_w]
    rfl
  refine pure_ (i := 6) (N := (some 161)) (v := ?_) (a' := ?_) (bb 12 111) rfl rfl (any_of HT_.out (by kernel_rfl)) (fun _ _ _ h => h) (Or.inl ⟨by rfl, ?_⟩) ?_ ?_
  rotate_left
  · intro w'
    go_simp
    with_reducible rfl
  rotate_left
  · simp only [Act.put, List.setIfInBounds_toArray, List.set_cons_zero, List.set_cons_succ, i64_w, i32_w]
    rfl
  refine pure_ (i := 7) (N := (some 162)) (v := ?_) (a' := ?_) (bb 12 239) rfl rfl (any_of HT_.out (by kernel_rfl)) (fun _ _ _ h => h) (Or.inl ⟨by rfl, ?_⟩) ?_ ?_
  rotate_left
  · intro w'
    go_simp
    with_reducible rfl
  rotate_left
  · simp only [Act.put, List.setIfInBounds_toArray, List.set_cons_zero, List.set_cons_succ, i64_w, i32_w]
    rfl
  refine take_ (i := 8) (N := (some 163)) (v := ?_) (a' := ?_) (bb 12 495) rfl rfl (take_ofW HT_.out HW_.out (by kernel_rfl)) (fun _ _ _ h => h) (Or.inl ⟨by rfl, ?_⟩) hHeld ?_ ?_
  rotate_left
  · intro w' s0
    (try dsimp only at s0)
    go_simp
    with_reducible rfl
  rotate_left
  · simp only [Act.put, List.setIfInBounds_toArray, List.set_cons_zero, List.set_cons_succ, i64_w, i32_w]
    rfl
  refine one_ (i := 4) (N := (some 159)) (bb 12 511) rfl rfl (one_of HT_.out (by kernel_rfl)) (by decide) (fun K hK => ?_)
  refine goes_ Try.func26 (by kernel_rfl) rfl #[.pointer (some ⟨g, 0, none⟩)] (by rfl) rfl rfl (by (try simp only [List.map_toArray, List.map_cons, List.map_nil]); first | done | rfl) ?_
  with_reducible refine (Sep.image HS1.out.up2).mono ?_
  rintro e w2 ⟨go, c, rfl, h⟩
  have HS2 := Aside0.mk h
  clear h
  refine ⟨_, rfl, ?_⟩
  refine hK.out _ _ (pr_held0 HS2.out.up3) (fun hHeld => ?_)
  clear hK K
  refine norm_ (a' := ?_) ?_ ?_
  rotate_left
  · show Act.put _ (some 159) _ = _
    simp only [Act.put, List.setIfInBounds_toArray, List.set_cons_zero, List.set_cons_succ, i64_w, i32_w]
    rfl
  refine one_ (i := 9) (N := (some 164)) (bb 12 1023) rfl rfl (one_of HT_.out (by kernel_rfl)) (by decide) (fun K hK => ?_)
  refine goes_ Try.func54 (by kernel_rfl) rfl #[.agg #[.int .i64 (s.n : Int), .slice A1 l1.length c1, .slice A2 l2.length c2, .int .i64 s.r, .int .i64 s.wr, .int .i64 s.fl]] (by rfl) rfl rfl (by (try simp only [List.map_toArray, List.map_cons, List.map_nil]); first | done | rfl) ?_
  with_reducible refine (rImage_calls A1 c1 l1 A2 l2.length c2 s.n s.r s.wr s.fl w2 HS2.out.up4.ref_C.1 HS2.out.up4.ref_C.2.1 HN.out.1 HN.out.2 HL1.out HG.out).mono ?_
  rintro e w3 ⟨go2, c5, rfl, h⟩
  have HS3 := Aside0.mk (HS2.out.nest h)
  clear h
  rw [HIM.out] at HS3
  refine ⟨_, rfl, ?_⟩
  refine hK.out _ _ (pr_held0 HS3.out.up4) (fun hHeld => ?_)
  clear hK K
  refine norm_ (a' := ?_) ?_ ?_
  rotate_left
  · show Act.put _ (some 164) _ = _
    simp only [Act.put, List.setIfInBounds_toArray, List.set_cons_zero, List.set_cons_succ, i64_w, i32_w]
    rfl
  refine last_ (i := 10) (N := (some 165)) (bb 12 2047) rfl rfl (one_of HT_.out (by kernel_rfl)) (by decide) (fun K hK => ?_)
  refine goes_ Try.func36 (by kernel_rfl) rfl #[.slice (some ⟨go, 0, none⟩) s.n c, .slice (some ⟨go2, 0, none⟩) s.n c5] (by rfl) rfl rfl (by (try simp only [List.map_toArray, List.map_cons, List.map_nil]); first | done | rfl) ?_
  with_reducible refine (same_calls (HS3.out.up1.rows_own) HS3.out s.L.length (same_ok _ HLL.out)).mono ?_
  rintro e w4 ⟨rfl, hd⟩
  have HB4 := Aside0.mk hd
  clear hd
  refine ⟨_, rfl, ?_⟩
  refine hK.out _ _ ?_
  clear hK K
  refine norm_ (a' := ?_) ?_ ?_
  rotate_left
  · show Act.put _ (some 165) _ = _
    simp only [Act.put, List.setIfInBounds_toArray, List.set_cons_zero, List.set_cons_succ, i64_w, i32_w]
    rfl
  refine pure_ (i := 11) (N := (some 4)) (v := ?_) (a' := ?_) (bb 12 4095) rfl rfl (any_of HT_.out (by kernel_rfl)) (fun _ _ _ h => h) (Or.inl ⟨by rfl, ?_⟩) ?_ ?_
  rotate_left
  · intro w'
    go_simp
    with_reducible rfl
  rotate_left
  · simp only [Act.put, List.setIfInBounds_toArray, List.set_cons_zero, List.set_cons_succ, i64_w, i32_w]
    rfl
  refine done_ (done_of HT_.out (by kernel_rfl)) ?_
  have HS4 := Aside0.mk (HS3.out.step (show Below w3.heap.size w3 w4 from by obtain ⟨nd, rfl⟩ := HB4.out; exact pw_below_drewN (Below.refl _ _) nd))
  clear HS1 HS2 HS3 HB4
  go_wp2
  go_ret
  exact ⟨rfl, HS4.out.drop.drop.up2.up2.drop⟩
end Go.Proofs.Ytddnhcnkjcdfgaa.M

namespace Go.Proofs.Ytddnhcnkjcdfgaa.M
open Go.RowKit Go.Maps Go.Proofs.YtddnhcnkjcdfgaaW.PrintWords Go.Proofs.YtddnhcnkjcdfgaaW.PrintLast Go.Proofs.YtddnhcnkjcdfgaaW.PrintMore
open Go.Proofs.Ytddnhcnkjcdfgaa.P hiding S106 k106 rd_T106 at_T106
open Go.Proofs.Ytddnhcnkjcdfgaa.R
set_option linter.unusedVariables false
set_option linter.unusedSimpArgs false
variable {w0 : World} {L : List Th}
set_option maxHeartbeats 8000000 in
set_option maxRecDepth 100000 in
theorem body_copy (w : World) (h : Sep w0 w L) (kd b t fl : Int) (hfl : fl ≠ 0) (A3 : Option Addr) (c3 : Nat) (d : List Int) (hC : Kd.C (Kd.int .u8) w A3 d.length d) (hc : d.length ≤ c3) (hd : d.length ≤ 140737488355328) (fv : Value) :
    Calls Try.prog 50 #[.agg #[.int .i64 kd, .int .i64 b, .int .i64 t, .slice A3 d.length c3, .int .i64 fl, fv]] w fun e w' => ∃ A c, e = .returned (.slice A d.length c) ∧ Sep w0 w' (ownT (Kd.int .u8) 5 (.slice A d.length c) d :: L) := by
  have HS0 := Aside0.mk (h.push_alloc #[.int .i64 kd, .int .i64 b, .int .i64 t, .slice A3 d.length c3, .int .i64 fl, fv] 73)
  have HC1 := Aside0.mk (Kd.C_below hC (below_alloc (Below.refl w.heap.size w) (.cells #[.int .i64 kd, .int .i64 b, .int .i64 t, .slice A3 d.length c3, .int .i64 fl, fv] 73)))
  have HCP := Aside0.mk (fun W (hW : Kd.C (Kd.int .u8) W A3 d.length d) => kilnref3_Copy.calls A3 c3 d d W hW hc (show kilnref3_Copy.f d = some d from if_pos hd))
  have e0 : (fl != 0) = true := by simpa using hfl
  clear h hC hfl
  go_enter Try.func50, Try.ntmps50
  go_upto_region 1 with (fail)
  generalize w.alloc (.cells #[.int .i64 kd, .int .i64 b, .int .i64 t, .slice A3 d.length c3, .int .i64 fl, fv] 73) = w1 at HS0 HC1 ⊢
  generalize w.heap.size = gb at HS0 ⊢
  have hk3 : w1.cell? ⟨gb, 3, none⟩ = some (.slice A3 d.length c3) := blk_cell HS0.out.cells.1 3
  have hk4 : w1.cell? ⟨gb, 4, none⟩ = some (.int .i64 fl) := blk_cell HS0.out.cells.1 4
  go_wp2_with (first
    | (go_at_call 55; (with_reducible refine (HCP.out _ HC1.out).mono ?_); rintro e w2 ⟨v, rfl, hr, hb⟩; have HS2 := Aside0.mk (HS0.out.push_own hr hb); obtain ⟨A, c, e_⟩ := HS2.out.own_slice; subst e_))
  go_ret
  exact ⟨A, c, rfl, HS2.out.up1.drop⟩
set_option maxHeartbeats 8000000 in
set_option maxRecDepth 100000 in
theorem body_sector (w : World) (h : Sep w0 w L) (kd b t : Int) (k : Nat) (r : List Int) (A3 : Option Addr) (c3 : Nat) (d : List Int) (hC : Kd.C (Kd.int .u8) w A3 d.length d) (hc : d.length ≤ c3) (hs : kilnlaw3_sector.f k d = some r) (fv : Value) :
    Calls Try.prog 50 #[.agg #[.int .i64 kd, .int .i64 b, .int .i64 t, .slice A3 d.length c3, .int .i64 0, fv]] w fun e w' => ∃ A c, e = .returned (.slice A r.length c) ∧ Sep w0 w' (ownT (Kd.int .u8) 5 (.slice A r.length c) r :: L) := by
  have HS0 := Aside0.mk (h.push_alloc #[.int .i64 kd, .int .i64 b, .int .i64 t, .slice A3 d.length c3, .int .i64 0, fv] 73)
  have HC1 := Aside0.mk (Kd.C_below hC (below_alloc (Below.refl w.heap.size w) (.cells #[.int .i64 kd, .int .i64 b, .int .i64 t, .slice A3 d.length c3, .int .i64 0, fv] 73)))
  have HCP := Aside0.mk (fun W (hW : Kd.C (Kd.int .u8) W A3 d.length d) => kilnlaw3_sector.calls k A3 c3 d r W hW hc hs)
  clear h hC hs
  go_enter Try.func50, Try.ntmps50
  go_upto_region 1 with (fail)
  generalize w.alloc (.cells #[.int .i64 kd, .int .i64 b, .int .i64 t, .slice A3 d.length c3, .int .i64 0, fv] 73) = w1 at HS0 HC1 ⊢
  generalize w.heap.size = gb at HS0 ⊢
  have hk3 : w1.cell? ⟨gb, 3, none⟩ = some (.slice A3 d.length c3) := blk_cell HS0.out.cells.1 3
  have hk4 : w1.cell? ⟨gb, 4, none⟩ = some (.int .i64 0) := blk_cell HS0.out.cells.1 4
  go_wp2_with (first
    | (go_at_call 22; (with_reducible refine (HCP.out _ HC1.out).mono ?_); rintro e w2 ⟨v, rfl, hr, hb⟩; have HS2 := Aside0.mk (HS0.out.push_own hr hb); obtain ⟨A, c, e_⟩ := HS2.out.own_slice; subst e_))
  go_ret
  exact ⟨A, c, rfl, HS2.out.up1.drop⟩
end Go.Proofs.Ytddnhcnkjcdfgaa.M

namespace Go.Proofs.Ytddnhcnkjcdfgaa.M
open Go.RowKit Go.Maps Go.Proofs.YtddnhcnkjcdfgaaW.PrintWords Go.Proofs.YtddnhcnkjcdfgaaW.PrintLast Go.Proofs.YtddnhcnkjcdfgaaW.PrintMore
open Go.Proofs.Ytddnhcnkjcdfgaa.P hiding S106 k106 rd_T106 at_T106
set_option linter.unusedVariables false
theorem Sep.load {w0 w : World} {L : List Th} (h : Sep w0 w L) (A : Option Addr) (c : Nat) (imgs : List (List Int)) (h2 : 2 ≤ imgs.length) (hm : imgs.length ≤ 65536) (hC : KB.C w A imgs.length imgs) (hl : ∀ i, i < imgs.length → (imgs.getD i []).length = 512) :
    Calls Try.prog 28 #[.slice A imgs.length c] w fun e w' => ∃ g, e = .returned (.tuple #[.pointer (some ⟨g, 0, none⟩), .int .i64 0]) ∧ Sep w0 w' (dkT g (DS.fresh imgs.length imgs) :: L) := by
  refine (load_calls A c imgs w h2 hm hC hl).mono ?_
  rintro e w' ⟨g, F, rfl, hd, hb⟩
  exact ⟨g, rfl, h.push hb (t := dkT g _) ⟨_, hd⟩ (fun b hF => (hd.foot b hF).1)⟩
end Go.Proofs.Ytddnhcnkjcdfgaa.M

namespace Go.Proofs.Ytddnhcnkjcdfgaa.M
open Go.RowKit Go.Maps Go.Proofs.YtddnhcnkjcdfgaaW.PrintWords Go.Proofs.YtddnhcnkjcdfgaaW.PrintLast Go.Proofs.YtddnhcnkjcdfgaaW.PrintMore
open Go.Proofs.Ytddnhcnkjcdfgaa.P hiding S106 k106 rd_T106 at_T106
open Go.Proofs.Ytddnhcnkjcdfgaa.R
set_option linter.unusedVariables false
set_option linter.unusedSimpArgs false
variable {w0 : World} {L : List Th}
def Sub (L M : List Th) : Prop := ∃ N, M = N ++ L
theorem Sub.r (L : List Th) : Sub L L := ⟨[], rfl⟩
theorem Sub.c {L M : List Th} {a : Th} (h : Sub L M) : Sub L (a :: M) := by
  obtain ⟨N, rfl⟩ := h
  exact ⟨a :: N, rfl⟩
theorem Sub.sep {w : World} {L M : List Th} (h : Sub L M) (hs : Sep w0 w M) : Sep w0 w L := by
  obtain ⟨N, rfl⟩ := h
  exact ⟨hs.below, (hs.hold.split.choose_spec.2.2).mono (fun b hb _ => hb.1)⟩
theorem pr_held3 {W : World} {gp gb : Nat} {a0 a1 a2 a3 a4 a5 a6 b0 b1 b2 b3 b4 b5 : Value} (h : Sep w0 W (cellsT gb #[b0, b1, b2, b3, b4, b5] 73 :: cellsT gp #[a0, a1, a2, a3, a4, a5, a6] 78 :: L)) :
    W.cell? ⟨gp, 1, none⟩ = some a1 ∧ W.cell? ⟨gp, 2, none⟩ = some a2 ∧ W.cell? ⟨gp, 3, none⟩ = some a3 ∧ W.cell? ⟨gp, 4, none⟩ = some a4 ∧ W.cell? ⟨gp, 5, none⟩ = some a5 ∧ W.cell? ⟨gp, 6, none⟩ = some a6 ∧ W.cell? ⟨gb, 0, none⟩ = some b0 ∧ W.cell? ⟨gb, 1, none⟩ = some b1 ∧ W.cell? ⟨gb, 2, none⟩ = some b2 ∧ W.cell? ⟨gb, 3, none⟩ = some b3 ∧ W.cell? ⟨gb, 4, none⟩ = some b4 ∧ W.cell? ⟨gb, 5, none⟩ = some b5 :=
  ⟨blk_cell h.up1.cells.1 1, blk_cell h.up1.cells.1 2, blk_cell h.up1.cells.1 3, blk_cell h.up1.cells.1 4, blk_cell h.up1.cells.1 5, blk_cell h.up1.cells.1 6, blk_cell h.cells.1 0, blk_cell h.cells.1 1, blk_cell h.cells.1 2, blk_cell h.cells.1 3, blk_cell h.cells.1 4, blk_cell h.cells.1 5⟩
theorem pr_held4 {W : World} {gp gb : Nat} {a0 a1 a2 a3 a4 a5 a6 b0 b1 b2 b3 b4 b5 : Value} (h : Sep w0 W (cellsT gb #[b0, b1, b2, b3, b4, b5] 73 :: cellsT gp #[a0, a1, a2, a3, a4, a5, a6] 78 :: L)) :
    W.cell? ⟨gp, 0, none⟩ = some a0 ∧ W.cell? ⟨gb, 0, none⟩ = some b0 ∧ W.cell? ⟨gb, 1, none⟩ = some b1 ∧ W.cell? ⟨gb, 2, none⟩ = some b2 ∧ W.cell? ⟨gb, 3, none⟩ = some b3 ∧ W.cell? ⟨gb, 4, none⟩ = some b4 ∧ W.cell? ⟨gb, 5, none⟩ = some b5 :=
  ⟨blk_cell h.up1.cells.1 0, blk_cell h.cells.1 0, blk_cell h.cells.1 1, blk_cell h.cells.1 2, blk_cell h.cells.1 3, blk_cell h.cells.1 4, blk_cell h.cells.1 5⟩
def does8_T : Bool × List (List Nat × List Nat) := (true, [([], []), ([0], [0]), ([1], [1]), ([2], [2]), ([], []), ([4], [4]), ([], []), ([6], [6]), ([3, 5, 7, 7], [3, 5, 7]), ([8], [8]), ([9], [9]), ([9], [9]), ([], []), ([12, 10, 8, 0, 1, 2, 3, 4, 5, 6, 7, 8, 9, 10, 12], [10, 12]), ([11, 13, 0, 1, 2, 3, 4, 5, 6, 7, 8, 9, 10, 11, 12, 13], [11])])
def does8_B : List Nat := [0, 1, 3, 7, 0, 16, 0, 64, 255, 511, 1023, 1023, 0, 6143, 16383]
theorem does8_tab : rtab .any (opsOf Try.f38 8) = does8_T := by kernel_rfl
theorem does8_bits : waitsOk does8_T.2 does8_B = true := by kernel_rfl
def does9_T : Bool × List (List Nat × List Nat) := (true, [([], []), ([0], [0]), ([1], [1]), ([2], [2]), ([], []), ([4], [4]), ([], []), ([6], [6]), ([3, 5, 7, 7], [3, 5, 7]), ([8, 8, 0, 1, 2, 3, 4, 5, 6, 7, 8], [8])])
def does9_B : List Nat := [0, 1, 3, 7, 0, 16, 0, 64, 255, 511]
theorem does9_tab : rtab .any (opsOf Try.f38 9) = does9_T := by kernel_rfl
theorem does9_bits : waitsOk does9_T.2 does9_B = true := by kernel_rfl
set_option maxHeartbeats 8000000 in
set_option maxRecDepth 100000 in
theorem does_write (gp g : Nat) (s s' : DS) (A1 : Option Addr) (c1 : Nat) (A2 : Option Addr) (c2 : Nat) (l1 l2 l2' : List S106) (w : World)
    (h : Sep w0 w (cellsT gp (prC g s (.slice A1 l1.length c1) (.slice A2 l2.length c2)) 78 :: dkT g s :: refT (.slice A1 l1.length c1) (.slice A2 l2.length c2) l1 l2 :: L)) (a t fl code : Int) (dv fv : Value) (b : List Int)
    (hbd : ∀ (W : World) (M : List Th), Sub L M → Sep w0 W M → Calls Try.prog 50 #[.agg #[.int .i64 1, .int .i64 a, .int .i64 t, dv, .int .i64 fl, fv]] W fun e w' => ∃ A c, e = .returned (.slice A b.length c) ∧ Sep w0 w' (ownT (Kd.int .u8) 5 (.slice A b.length c) b :: M))
    (hk0 : ∃ k, kilnref3_Write.f k (s.n : Int) l1 l2 s.r s.wr s.fl a b = some ((s'.n : Int), l1, l2', s'.r, s'.wr, s'.fl, code))
    (hi : ∀ (W : World) (L : List Th) (A : Option Addr) (c : Nat), Sep w0 W (ownT (Kd.int .u8) 5 (.slice A b.length c) b :: dkT g s :: L) → Calls Try.prog 16 #[.pointer (some ⟨g, 0, none⟩), .int .i64 a, .slice A b.length c] W fun e w' => e = .returned (.int .i64 code) ∧ Sep w0 w' (dkT g s' :: L)) :
    Calls Try.prog 38 #[.pointer (some ⟨gp, 0, none⟩), .agg #[.int .i64 1, .int .i64 a, .int .i64 t, dv, .int .i64 fl, fv]] w fun e w' => e = .returned (.bool true) ∧ ∃ A1' c1' A2' c2',
      Sep w0 w' (cellsT gp (prC g s' (.slice A1' l1.length c1') (.slice A2' l2'.length c2')) 78 :: dkT g s' :: refT (.slice A1' l1.length c1') (.slice A2' l2'.length c2') l1 l2' :: L) := by
  have HS0 := Aside0.mk (h.push_alloc #[.int .i64 1, .int .i64 a, .int .i64 t, dv, .int .i64 fl, fv] 73)
  obtain ⟨k0, hk0⟩ := hk0
  have HRF := Aside0.mk hk0
  have HBD := Aside0.mk hbd
  have HI := Aside0.mk hi
  clear h hk0 hi hbd
  go_enter Try.func38, Try.ntmps38
  go_upto_region 1 with (fail)
  generalize w.alloc (.cells #[.int .i64 1, .int .i64 a, .int .i64 t, dv, .int .i64 fl, fv] 73) = w1 at HS0 ⊢
  generalize w.heap.size = gb at HS0 ⊢
  have hk : w1.cell? ⟨gb, 0, none⟩ = some (.int .i64 1) := blk_cell HS0.out.cells.1 0
  go_upto_region 8 with (fail)
  have HS1 := Aside0.mk (HS0.out.step (below_drew1 (Below.refl w1.heap.size w1)))
  clear hk
  refine start_ (n := 15) (S := fun W => W.cell? ⟨gp, 1, none⟩ = some (.int .i64 (s.n : Int)) ∧ W.cell? ⟨gp, 2, none⟩ = some (.slice A1 l1.length c1) ∧ W.cell? ⟨gp, 3, none⟩ = some (.slice A2 l2.length c2) ∧ W.cell? ⟨gp, 4, none⟩ = some (.int .i64 s.r) ∧ W.cell? ⟨gp, 5, none⟩ = some (.int .i64 s.wr) ∧ W.cell? ⟨gp, 6, none⟩ = some (.int .i64 s.fl) ∧ W.cell? ⟨gb, 0, none⟩ = some (.int .i64 1) ∧ W.cell? ⟨gb, 1, none⟩ = some (.int .i64 a) ∧ W.cell? ⟨gb, 2, none⟩ = some (.int .i64 t) ∧ W.cell? ⟨gb, 3, none⟩ = some dv ∧ W.cell? ⟨gb, 4, none⟩ = some (.int .i64 fl) ∧ W.cell? ⟨gb, 5, none⟩ = some fv) (ds := [13]) (bb 15 0) (by kernel_rfl) rfl rfl ((pr_held3 HS1.out)) (fun hHeld => ?_); refine with_tabW does8_tab does8_bits (fun HT_ HW_ => ?_)
  generalize w1.drew = wd at hHeld HS1 ⊢
  refine pure_ (i := 0) (N := (some 62)) (v := ?_) (a' := ?_) (bb 15 1) rfl rfl (any_of HT_.out (by kernel_rfl)) (fun _ _ _ h => h) (Or.inl ⟨by rfl, ?_⟩) ?_ ?_
  rotate_left
  · intro w'
    go_simp
    with_reducible rfl
  rotate_left
  · simp only [Act.put, List.setIfInBounds_toArray, List.set_cons_zero, List.set_cons_succ, i64_w, i32_w]
    rfl
  refine pure_ (i := 1) (N := (some 63)) (v := ?_) (a' := ?_) (bb 15 3) rfl rfl (any_of HT_.out (by kernel_rfl)) (fun _ _ _ h => h) (Or.inl ⟨by rfl, ?_⟩) ?_ ?_
  rotate_left
  · intro w'
    go_simp
    with_reducible rfl
  rotate_left
  · simp only [Act.put, List.setIfInBounds_toArray, List.set_cons_zero, List.set_cons_succ, i64_w, i32_w]
    rfl
  refine pure_ (i := 2) (N := (some 64)) (v := ?_) (a' := ?_) (bb 15 7) rfl rfl (any_of HT_.out (by kernel_rfl)) (fun _ _ _ h => h) (Or.inl ⟨by rfl, ?_⟩) ?_ ?_
  rotate_left
  · intro w'
    go_simp
    with_reducible rfl
  rotate_left
  · simp only [Act.put, List.setIfInBounds_toArray, List.set_cons_zero, List.set_cons_succ, i64_w, i32_w]
    rfl
  refine take_ (i := 3) (N := (some 65)) (v := ?_) (a' := ?_) (bb 15 15) rfl rfl (take_ofW HT_.out HW_.out (by kernel_rfl)) (fun _ _ _ h => h) (Or.inl ⟨by rfl, ?_⟩) hHeld ?_ ?_
  rotate_left
  · intro w' s0
    (try dsimp only at s0)
    go_simp
    with_reducible rfl
  rotate_left
  · simp only [Act.put, List.setIfInBounds_toArray, List.set_cons_zero, List.set_cons_succ, i64_w, i32_w]
    rfl
  refine pure_ (i := 4) (N := (some 66)) (v := ?_) (a' := ?_) (bb 15 31) rfl rfl (any_of HT_.out (by kernel_rfl)) (fun _ _ _ h => h) (Or.inl ⟨by rfl, ?_⟩) ?_ ?_
  rotate_left
  · intro w'
    go_simp
    with_reducible rfl
  rotate_left
  · simp only [Act.put, List.setIfInBounds_toArray, List.set_cons_zero, List.set_cons_succ, i64_w, i32_w]
    rfl
  refine take_ (i := 5) (N := (some 67)) (v := ?_) (a' := ?_) (bb 15 63) rfl rfl (take_ofW HT_.out HW_.out (by kernel_rfl)) (fun _ _ _ h => h) (Or.inl ⟨by rfl, ?_⟩) hHeld ?_ ?_
  rotate_left
  · intro w' s0
    (try dsimp only at s0)
    go_simp
    with_reducible rfl
  rotate_left
  · simp only [Act.put, List.setIfInBounds_toArray, List.set_cons_zero, List.set_cons_succ, i64_w, i32_w]
    rfl
  refine take_ (i := 6) (N := (some 68)) (v := ?_) (a' := ?_) (bb 15 127) rfl rfl (take_ofW HT_.out HW_.out (by kernel_rfl)) (fun _ _ _ h => h) (Or.inl ⟨by rfl, ?_⟩) hHeld ?_ ?_
  rotate_left
  · intro w' s0
    (try dsimp only at s0)
    go_simp
    with_reducible rfl
  rotate_left
  · simp only [Act.put, List.setIfInBounds_toArray, List.set_cons_zero, List.set_cons_succ, i64_w, i32_w]
    rfl
  clear HS0
  refine two_ (i := 7) (j := 12) (Ni := some 69) (Nj := some 10) (bb 15 255) (bb 15 4223) rfl rfl rfl rfl (two_of HT_.out (by kernel_rfl)) (by decide) (by decide) (fun K hK => ?_) (fun K hK => ?_)
  case refine_1 =>
    refine goes_ Try.func50 (by kernel_rfl) rfl #[.agg #[.int .i64 1, .int .i64 a, .int .i64 t, dv, .int .i64 fl, fv]] (by rfl) rfl rfl (by (try simp only [List.map_toArray, List.map_cons, List.map_nil]); first | done | rfl) ?_
    with_reducible refine (HBD.out _ _ (Sub.c (Sub.c (Sub.c (Sub.c (Sub.r _))))) HS1.out).mono ?_
    rintro e w2 ⟨A7, c7, rfl, h⟩
    have HS2 := Aside0.mk h
    clear h
    have HOC := Aside0.mk HS2.out.own_C
    refine ⟨_, rfl, ?_⟩
    refine hK.out _ _ (pr_held3 HS2.out.drop) (fun hHeld => ?_)
    clear hK K
    refine norm_ (a' := ?_) ?_ ?_
    rotate_left
    · show Act.put _ (some 69) _ = _
      simp only [Act.put, List.setIfInBounds_toArray, List.set_cons_zero, List.set_cons_succ, i64_w, i32_w]
      rfl
    clear HS1
    refine two_ (i := 8) (j := 12) (Ni := some 70) (Nj := some 10) (bb 15 511) (bb 15 4351) rfl rfl rfl rfl (two_of HT_.out (by kernel_rfl)) (by decide) (by decide) (fun K hK => ?_) (fun K hK => ?_)
    case refine_1 =>
      refine goes_ Try.func49 (by kernel_rfl) rfl #[.agg #[.int .i64 (s.n : Int), .slice A1 l1.length c1, .slice A2 l2.length c2, .int .i64 s.r, .int .i64 s.wr, .int .i64 s.fl], .int .i64 a, .slice A7 b.length c7] (by rfl) rfl rfl (by (try simp only [List.map_toArray, List.map_cons, List.map_nil]); first | done | rfl) ?_
      with_reducible refine (Sep.rWrite HS2.out.up4 k0 _ _ _ _ _ A7 c7 b _ _ _ _ _ _ _ HOC.out.1 HOC.out.2 HRF.out).mono ?_
      rintro e w3 ⟨A1', c1', A2', c2', rfl, h⟩
      have HS3 := Aside0.mk h
      clear h
      refine ⟨_, rfl, ?_⟩
      refine hK.out _ _ (pr_held3 HS3.out.drop.drop) (fun hHeld => ?_)
      clear hK K
      refine norm_ (a' := ?_) ?_ ?_
      rotate_left
      · show Act.put _ (some 70) _ = _
        simp only [Act.put, List.setIfInBounds_toArray, List.set_cons_zero, List.set_cons_succ, i64_w, i32_w]
        rfl
      refine pure_ (i := 9) (N := (some 61)) (v := ?_) (a' := ?_) (bb 15 1023) rfl rfl (any_of HT_.out (by kernel_rfl)) (fun _ _ _ h => h) (Or.inl ⟨by rfl, ?_⟩) ?_ ?_
      rotate_left
      · intro w'
        go_simp
        with_reducible rfl
      rotate_left
      · simp only [Act.put, List.setIfInBounds_toArray, List.set_cons_zero, List.set_cons_succ, i64_w, i32_w]
        rfl
      refine pure_ (i := 10) (N := (some 71)) (v := ?_) (a' := ?_) (bb 15 2047) rfl rfl (any_of HT_.out (by kernel_rfl)) (fun _ _ _ h => h) (Or.inl ⟨by rfl, ?_⟩) ?_ ?_
      rotate_left
      · intro w'
        go_simp
        with_reducible rfl
      rotate_left
      · simp only [Act.put, List.setIfInBounds_toArray, List.set_cons_zero, List.set_cons_succ, i64_w, i32_w]
        rfl
      refine pure_ (i := 11) (N := (some 72)) (v := ?_) (a' := ?_) (bb 15 4095) rfl rfl (any_of HT_.out (by kernel_rfl)) (fun _ _ _ h => h) (Or.inl ⟨by rfl, ?_⟩) ?_ ?_
      rotate_left
      · intro w'
        go_simp
        with_reducible rfl
      rotate_left
      · simp only [Act.put, List.setIfInBounds_toArray, List.set_cons_zero, List.set_cons_succ, i64_w, i32_w]
        rfl
      refine one_ (i := 12) (N := (some 10)) (bb 15 8191) rfl rfl (one_of HT_.out (by kernel_rfl)) (by decide) (fun K hK => ?_)
      refine value_ (w1 := ?_) (v := ?_) (by rfl) rfl ?_ ?_
      rotate_left 2
      · go_simp
        constructor
        · rfl
        · rfl
      have HS4 := Aside0.mk (HS3.out.push_alloc #[.int .i64 0, .slice none 0 0, .slice none 0 0, .int .i64 0, .int .i64 0, .int .i64 0] 76)
      generalize w3.alloc (.cells #[.int .i64 0, .slice none 0 0, .slice none 0 0, .int .i64 0, .int .i64 0, .int .i64 0] 76) = w4 at HS4 ⊢
      generalize w3.heap.size = gd at HS4 ⊢
      have hz := blk_cell HS4.out.cells.1
      have hz0 : w4.cell? ⟨gd, 0, none⟩ = some (.int .i64 0) := hz 0
      have hz1 : w4.cell? ⟨gd, 1, none⟩ = some (.slice none 0 0) := hz 1
      have hz2 : w4.cell? ⟨gd, 2, none⟩ = some (.slice none 0 0) := hz 2
      have hz3 : w4.cell? ⟨gd, 3, none⟩ = some (.int .i64 0) := hz 3
      have hz4 : w4.cell? ⟨gd, 4, none⟩ = some (.int .i64 0) := hz 4
      have hz5 : w4.cell? ⟨gd, 5, none⟩ = some (.int .i64 0) := hz 5
      have hf := blk_frozen HS4.out.cells.1
      have hf0 := hf 0
      have hf1 := hf 1
      have hf2 := hf 2
      have hf3 := hf 3
      have hf4 := hf 4
      have hf5 := hf 5
      clear hz hf
      refine hK.out _ _ (pr_held3 HS4.out.drop.drop.drop) (fun hHeld => ?_)
      clear hK K
      refine norm_ (a' := ?_) ?_ ?_
      rotate_left
      · show Act.put _ (some 10) _ = _
        simp only [Act.put, List.setIfInBounds_toArray, List.set_cons_zero, List.set_cons_succ, i64_w, i32_w]
        rfl
      refine last_ (i := 13) (N := none) (bb 15 16383) rfl rfl (one_of HT_.out (by kernel_rfl)) (by decide) (fun K hK => ?_)
      refine skip_ (w1 := ?_) (by rfl) rfl ?_ ?_
      rotate_left
      · go_simp
        first | rfl | (constructor <;> rfl)
      refine hK.out _ _ ?_
      clear hK K
      refine pure_ (i := 14) (N := (some 11)) (v := ?_) (a' := ?_) (bb 15 32767) rfl rfl (any_of HT_.out (by kernel_rfl)) (fun _ _ _ h => h) (Or.inl ⟨by rfl, ?_⟩) ?_ ?_
      rotate_left
      · intro w'
        go_simp
        with_reducible rfl
      rotate_left
      · simp only [Act.put, List.setIfInBounds_toArray, List.set_cons_zero, List.set_cons_succ, i64_w, i32_w]
        rfl
      refine done_ (done_of HT_.out (by kernel_rfl)) ?_
      have HS5 := Aside0.mk (HS4.out.cset60 (.int .i64 (s'.n : Int)) (.slice A1' l1.length c1') (.slice A2' l2'.length c2') (.int .i64 s'.r) (.int .i64 s'.wr) (.int .i64 s'.fl))
      clear HRF hHeld hz0 hz1 hz2 hz3 hz4 hz5 hf0 hf1 hf2 hf3 hf4 hf5 HS2 HS3 HS4
      generalize ((((((w4.setCell ⟨gd, 0, none⟩ (.int .i64 (s'.n : Int))).setCell ⟨gd, 1, none⟩ (.slice A1' l1.length c1')).setCell ⟨gd, 2, none⟩ (.slice A2' l2'.length c2')).setCell ⟨gd, 3, none⟩ (.int .i64 s'.r)).setCell ⟨gd, 4, none⟩ (.int .i64 s'.wr)).setCell ⟨gd, 5, none⟩ (.int .i64 s'.fl)) = w5 at HS5 ⊢
      go_upto_region 9 with (fail)
      have HS6 := Aside0.mk (HS5.out.step (below_drew1 (Below.refl w5.heap.size w5)))
      clear HS5
      refine start_ (n := 10) (S := fun W => W.cell? ⟨gp, 0, none⟩ = some (.pointer (some ⟨g, 0, none⟩)) ∧ W.cell? ⟨gb, 0, none⟩ = some (.int .i64 1) ∧ W.cell? ⟨gb, 1, none⟩ = some (.int .i64 a) ∧ W.cell? ⟨gb, 2, none⟩ = some (.int .i64 t) ∧ W.cell? ⟨gb, 3, none⟩ = some dv ∧ W.cell? ⟨gb, 4, none⟩ = some (.int .i64 fl) ∧ W.cell? ⟨gb, 5, none⟩ = some fv) (ds := [8]) (bb 10 0) (by kernel_rfl) rfl rfl ((pr_held4 HS6.out.drop.drop.drop)) (fun hHeld => ?_); refine with_tabW does9_tab does9_bits (fun HT_ HW_ => ?_)
      generalize w5.drew = wd5 at hHeld HS6 ⊢
      refine pure_ (i := 0) (N := (some 73)) (v := ?_) (a' := ?_) (bb 10 1) rfl rfl (any_of HT_.out (by kernel_rfl)) (fun _ _ _ h => h) (Or.inl ⟨by rfl, ?_⟩) ?_ ?_
      rotate_left
      · intro w'
        go_simp
        with_reducible rfl
      rotate_left
      · simp only [Act.put, List.setIfInBounds_toArray, List.set_cons_zero, List.set_cons_succ, i64_w, i32_w]
        rfl
      refine pure_ (i := 1) (N := (some 74)) (v := ?_) (a' := ?_) (bb 10 3) rfl rfl (any_of HT_.out (by kernel_rfl)) (fun _ _ _ h => h) (Or.inl ⟨by rfl, ?_⟩) ?_ ?_
      rotate_left
      · intro w'
        go_simp
        with_reducible rfl
      rotate_left
      · simp only [Act.put, List.setIfInBounds_toArray, List.set_cons_zero, List.set_cons_succ, i64_w, i32_w]
        rfl
      refine pure_ (i := 2) (N := (some 75)) (v := ?_) (a' := ?_) (bb 10 7) rfl rfl (any_of HT_.out (by kernel_rfl)) (fun _ _ _ h => h) (Or.inl ⟨by rfl, ?_⟩) ?_ ?_
      rotate_left
      · intro w'
        go_simp
        with_reducible rfl
      rotate_left
      · simp only [Act.put, List.setIfInBounds_toArray, List.set_cons_zero, List.set_cons_succ, i64_w, i32_w]
        rfl
      refine take_ (i := 3) (N := (some 76)) (v := ?_) (a' := ?_) (bb 10 15) rfl rfl (take_ofW HT_.out HW_.out (by kernel_rfl)) (fun _ _ _ h => h) (Or.inl ⟨by rfl, ?_⟩) hHeld ?_ ?_
      rotate_left
      · intro w' s0
        (try dsimp only at s0)
        go_simp
        with_reducible rfl
      rotate_left
      · simp only [Act.put, List.setIfInBounds_toArray, List.set_cons_zero, List.set_cons_succ, i64_w, i32_w]
        rfl
      refine pure_ (i := 4) (N := (some 77)) (v := ?_) (a' := ?_) (bb 10 31) rfl rfl (any_of HT_.out (by kernel_rfl)) (fun _ _ _ h => h) (Or.inl ⟨by rfl, ?_⟩) ?_ ?_
      rotate_left
      · intro w'
        go_simp
        with_reducible rfl
      rotate_left
      · simp only [Act.put, List.setIfInBounds_toArray, List.set_cons_zero, List.set_cons_succ, i64_w, i32_w]
        rfl
      refine take_ (i := 5) (N := (some 78)) (v := ?_) (a' := ?_) (bb 10 63) rfl rfl (take_ofW HT_.out HW_.out (by kernel_rfl)) (fun _ _ _ h => h) (Or.inl ⟨by rfl, ?_⟩) hHeld ?_ ?_
      rotate_left
      · intro w' s0
        (try dsimp only at s0)
        go_simp
        with_reducible rfl
      rotate_left
      · simp only [Act.put, List.setIfInBounds_toArray, List.set_cons_zero, List.set_cons_succ, i64_w, i32_w]
        rfl
      refine take_ (i := 6) (N := (some 79)) (v := ?_) (a' := ?_) (bb 10 127) rfl rfl (take_ofW HT_.out HW_.out (by kernel_rfl)) (fun _ _ _ h => h) (Or.inl ⟨by rfl, ?_⟩) hHeld ?_ ?_
      rotate_left
      · intro w' s0
        (try dsimp only at s0)
        go_simp
        with_reducible rfl
      rotate_left
      · simp only [Act.put, List.setIfInBounds_toArray, List.set_cons_zero, List.set_cons_succ, i64_w, i32_w]
        rfl
      refine one_ (i := 7) (N := (some 80)) (bb 10 255) rfl rfl (one_of HT_.out (by kernel_rfl)) (by decide) (fun K hK => ?_)
      refine goes_ Try.func50 (by kernel_rfl) rfl #[.agg #[.int .i64 1, .int .i64 a, .int .i64 t, dv, .int .i64 fl, fv]] (by rfl) rfl rfl (by (try simp only [List.map_toArray, List.map_cons, List.map_nil]); first | done | rfl) ?_
      with_reducible refine (HBD.out _ _ (Sub.c (Sub.c (Sub.c (Sub.c (Sub.c (Sub.c (Sub.r _))))))) HS6.out).mono ?_
      rintro e w7 ⟨A8, c8, rfl, h⟩
      have HS7 := Aside0.mk h
      clear h
      refine ⟨_, rfl, ?_⟩
      refine hK.out _ _ (pr_held4 HS7.out.drop.drop.drop.drop) (fun hHeld => ?_)
      clear hK K
      refine norm_ (a' := ?_) ?_ ?_
      rotate_left
      · show Act.put _ (some 80) _ = _
        simp only [Act.put, List.setIfInBounds_toArray, List.set_cons_zero, List.set_cons_succ, i64_w, i32_w]
        rfl
      refine last_ (i := 8) (N := (some 81)) (bb 10 511) rfl rfl (one_of HT_.out (by kernel_rfl)) (by decide) (fun K hK => ?_)
      refine goes_ Try.func16 (by kernel_rfl) rfl #[.pointer (some ⟨g, 0, none⟩), .int .i64 a, .slice A8 b.length c8] (by rfl) rfl rfl (by (try simp only [List.map_toArray, List.map_cons, List.map_nil]); first | done | rfl) ?_
      with_reducible refine (HI.out _ _ _ _ HS7.out.up6.up1).mono ?_
      rintro e w8 ⟨rfl, h⟩
      have HS8 := Aside0.mk h
      clear h
      refine ⟨_, rfl, ?_⟩
      refine hK.out _ _ ?_
      clear hK K
      refine norm_ (a' := ?_) ?_ ?_
      rotate_left
      · show Act.put _ (some 81) _ = _
        simp only [Act.put, List.setIfInBounds_toArray, List.set_cons_zero, List.set_cons_succ, i64_w, i32_w]
        rfl
      refine pure_ (i := 9) (N := (some 12)) (v := ?_) (a' := ?_) (bb 10 1023) rfl rfl (any_of HT_.out (by kernel_rfl)) (fun _ _ _ h => h) (Or.inl ⟨by rfl, ?_⟩) ?_ ?_
      rotate_left
      · intro w'
        go_simp
        with_reducible rfl
      rotate_left
      · simp only [Act.put, List.setIfInBounds_toArray, List.set_cons_zero, List.set_cons_succ, i64_w, i32_w]
        rfl
      refine done_ (done_of HT_.out (by kernel_rfl)) ?_
      clear HS6 HBD HI
      have hd := blk_cell HS8.out.up1.cells.1
      have hd0 : w8.cell? ⟨gd, 0, none⟩ = some (.int .i64 (s'.n : Int)) := hd 0
      have hd1 : w8.cell? ⟨gd, 1, none⟩ = some (.slice A1' l1.length c1') := hd 1
      have hd2 : w8.cell? ⟨gd, 2, none⟩ = some (.slice A2' l2'.length c2') := hd 2
      have hd3 : w8.cell? ⟨gd, 3, none⟩ = some (.int .i64 s'.r) := hd 3
      have hd4 : w8.cell? ⟨gd, 4, none⟩ = some (.int .i64 s'.wr) := hd 4
      have hd5 : w8.cell? ⟨gd, 5, none⟩ = some (.int .i64 s'.fl) := hd 5
      have hp := blk_cell HS8.out.up5.cells.1
      have hp1 : w8.cell? ⟨gp, 1, none⟩ = some (.int .i64 (s.n : Int)) := hp 1
      have hp2 : w8.cell? ⟨gp, 2, none⟩ = some (.slice A1 l1.length c1) := hp 2
      have hp3 : w8.cell? ⟨gp, 3, none⟩ = some (.slice A2 l2.length c2) := hp 3
      have hp4 : w8.cell? ⟨gp, 4, none⟩ = some (.int .i64 s.r) := hp 4
      have hp5 : w8.cell? ⟨gp, 5, none⟩ = some (.int .i64 s.wr) := hp 5
      have hp6 : w8.cell? ⟨gp, 6, none⟩ = some (.int .i64 s.fl) := hp 6
      have hf := blk_frozen HS8.out.up5.cells.1
      have hf1 := hf 1
      have hf2 := hf 2
      have hf3 := hf 3
      have hf4 := hf 4
      have hf5 := hf 5
      have hf6 := hf 6
      clear hd hp hf
      go_upto_region 11 with (fail)
      clear hd0 hd1 hd2 hd3 hd4 hd5 hp1 hp2 hp3 hp4 hp5 hp6 hf1 hf2 hf3 hf4 hf5 hf6
      have HS9 := Aside0.mk (HS8.out.up5.cset6 (.int .i64 (s'.n : Int)) (.slice A1' l1.length c1') (.slice A2' l2'.length c2') (.int .i64 s'.r) (.int .i64 s'.wr) (.int .i64 s'.fl))
      clear HS8
      generalize ((((((w8.setCell ⟨gp, 1, none⟩ (.int .i64 (s'.n : Int))).setCell ⟨gp, 2, none⟩ (.slice A1' l1.length c1')).setCell ⟨gp, 3, none⟩ (.slice A2' l2'.length c2')).setCell ⟨gp, 4, none⟩ (.int .i64 s'.r)).setCell ⟨gp, 5, none⟩ (.int .i64 s'.wr)).setCell ⟨gp, 6, none⟩ (.int .i64 s'.fl)) = w9 at HS9 ⊢
      have c9b0 : (code == code) = true := beq_iff_eq.mpr rfl
      go_wp2
      go_ret
      exact ⟨rfl, A1', c1', A2', c2', HS9.out.up2.drop.up3.drop.up3.drop⟩
    case refine_2 =>
      refine value_ (w1 := ?_) (v := ?_) (by rfl) rfl ?_ ?_
      rotate_left 2
      · go_simp
        constructor
        · rfl
        · rfl
      have HS3 := Aside0.mk (HS2.out.push_alloc #[.int .i64 0, .slice none 0 0, .slice none 0 0, .int .i64 0, .int .i64 0, .int .i64 0] 76)
      generalize w2.alloc (.cells #[.int .i64 0, .slice none 0 0, .slice none 0 0, .int .i64 0, .int .i64 0, .int .i64 0] 76) = w3 at HS3 ⊢
      generalize w2.heap.size = gd at HS3 ⊢
      have HOC := Aside0.mk HS3.out.up1.own_C
      refine hK.out _ _ (pr_held3 HS3.out.drop.drop) (fun hHeld => ?_)
      clear hK K
      refine norm_ (a' := ?_) ?_ ?_
      rotate_left
      · show Act.put _ (some 10) _ = _
        simp only [Act.put, List.setIfInBounds_toArray, List.set_cons_zero, List.set_cons_succ, i64_w, i32_w]
        rfl
      refine one_ (i := 8) (N := (some 70)) (bb 15 4607) rfl rfl (one_of HT_.out (by kernel_rfl)) (by decide) (fun K hK => ?_)
      refine goes_ Try.func49 (by kernel_rfl) rfl #[.agg #[.int .i64 (s.n : Int), .slice A1 l1.length c1, .slice A2 l2.length c2, .int .i64 s.r, .int .i64 s.wr, .int .i64 s.fl], .int .i64 a, .slice A7 b.length c7] (by rfl) rfl rfl (by (try simp only [List.map_toArray, List.map_cons, List.map_nil]); first | done | rfl) ?_
      with_reducible refine (Sep.rWrite HS3.out.up5 k0 _ _ _ _ _ A7 c7 b _ _ _ _ _ _ _ HOC.out.1 HOC.out.2 HRF.out).mono ?_
      rintro e w4 ⟨A1', c1', A2', c2', rfl, h⟩
      have HS4 := Aside0.mk h.up1
      clear h
      have hz := blk_cell HS4.out.cells.1
      have hz0 : w4.cell? ⟨gd, 0, none⟩ = some (.int .i64 0) := hz 0
      have hz1 : w4.cell? ⟨gd, 1, none⟩ = some (.slice none 0 0) := hz 1
      have hz2 : w4.cell? ⟨gd, 2, none⟩ = some (.slice none 0 0) := hz 2
      have hz3 : w4.cell? ⟨gd, 3, none⟩ = some (.int .i64 0) := hz 3
      have hz4 : w4.cell? ⟨gd, 4, none⟩ = some (.int .i64 0) := hz 4
      have hz5 : w4.cell? ⟨gd, 5, none⟩ = some (.int .i64 0) := hz 5
      have hf := blk_frozen HS4.out.cells.1
      have hf0 := hf 0
      have hf1 := hf 1
      have hf2 := hf 2
      have hf3 := hf 3
      have hf4 := hf 4
      have hf5 := hf 5
      clear hz hf
      refine ⟨_, rfl, ?_⟩
      refine hK.out _ _ (pr_held3 HS4.out.drop.drop.drop) (fun hHeld => ?_)
      clear hK K
      refine norm_ (a' := ?_) ?_ ?_
      rotate_left
      · show Act.put _ (some 70) _ = _
        simp only [Act.put, List.setIfInBounds_toArray, List.set_cons_zero, List.set_cons_succ, i64_w, i32_w]
        rfl
      refine pure_ (i := 9) (N := (some 61)) (v := ?_) (a' := ?_) (bb 15 5119) rfl rfl (any_of HT_.out (by kernel_rfl)) (fun _ _ _ h => h) (Or.inl ⟨by rfl, ?_⟩) ?_ ?_
      rotate_left
      · intro w'
        go_simp
        with_reducible rfl
      rotate_left
      · simp only [Act.put, List.setIfInBounds_toArray, List.set_cons_zero, List.set_cons_succ, i64_w, i32_w]
        rfl
      refine pure_ (i := 10) (N := (some 71)) (v := ?_) (a' := ?_) (bb 15 6143) rfl rfl (any_of HT_.out (by kernel_rfl)) (fun _ _ _ h => h) (Or.inl ⟨by rfl, ?_⟩) ?_ ?_
      rotate_left
      · intro w'
        go_simp
        with_reducible rfl
      rotate_left
      · simp only [Act.put, List.setIfInBounds_toArray, List.set_cons_zero, List.set_cons_succ, i64_w, i32_w]
        rfl
      refine pure_ (i := 11) (N := (some 72)) (v := ?_) (a' := ?_) (bb 15 8191) rfl rfl (any_of HT_.out (by kernel_rfl)) (fun _ _ _ h => h) (Or.inl ⟨by rfl, ?_⟩) ?_ ?_
      rotate_left
      · intro w'
        go_simp
        with_reducible rfl
      rotate_left
      · simp only [Act.put, List.setIfInBounds_toArray, List.set_cons_zero, List.set_cons_succ, i64_w, i32_w]
        rfl
      refine last_ (i := 13) (N := none) (bb 15 16383) rfl rfl (one_of HT_.out (by kernel_rfl)) (by decide) (fun K hK => ?_)
      refine skip_ (w1 := ?_) (by rfl) rfl ?_ ?_
      rotate_left
      · go_simp
        first | rfl | (constructor <;> rfl)
      refine hK.out _ _ ?_
      clear hK K
      refine pure_ (i := 14) (N := (some 11)) (v := ?_) (a' := ?_) (bb 15 32767) rfl rfl (any_of HT_.out (by kernel_rfl)) (fun _ _ _ h => h) (Or.inl ⟨by rfl, ?_⟩) ?_ ?_
      rotate_left
      · intro w'
        go_simp
        with_reducible rfl
      rotate_left
      · simp only [Act.put, List.setIfInBounds_toArray, List.set_cons_zero, List.set_cons_succ, i64_w, i32_w]
        rfl
      refine done_ (done_of HT_.out (by kernel_rfl)) ?_
      have HS5 := Aside0.mk (HS4.out.cset60 (.int .i64 (s'.n : Int)) (.slice A1' l1.length c1') (.slice A2' l2'.length c2') (.int .i64 s'.r) (.int .i64 s'.wr) (.int .i64 s'.fl))
      clear HRF hHeld hz0 hz1 hz2 hz3 hz4 hz5 hf0 hf1 hf2 hf3 hf4 hf5 HS2 HS3 HS4
      generalize ((((((w4.setCell ⟨gd, 0, none⟩ (.int .i64 (s'.n : Int))).setCell ⟨gd, 1, none⟩ (.slice A1' l1.length c1')).setCell ⟨gd, 2, none⟩ (.slice A2' l2'.length c2')).setCell ⟨gd, 3, none⟩ (.int .i64 s'.r)).setCell ⟨gd, 4, none⟩ (.int .i64 s'.wr)).setCell ⟨gd, 5, none⟩ (.int .i64 s'.fl)) = w5 at HS5 ⊢
      go_upto_region 9 with (fail)
      have HS6 := Aside0.mk (HS5.out.step (below_drew1 (Below.refl w5.heap.size w5)))
      clear HS5
      refine start_ (n := 10) (S := fun W => W.cell? ⟨gp, 0, none⟩ = some (.pointer (some ⟨g, 0, none⟩)) ∧ W.cell? ⟨gb, 0, none⟩ = some (.int .i64 1) ∧ W.cell? ⟨gb, 1, none⟩ = some (.int .i64 a) ∧ W.cell? ⟨gb, 2, none⟩ = some (.int .i64 t) ∧ W.cell? ⟨gb, 3, none⟩ = some dv ∧ W.cell? ⟨gb, 4, none⟩ = some (.int .i64 fl) ∧ W.cell? ⟨gb, 5, none⟩ = some fv) (ds := [8]) (bb 10 0) (by kernel_rfl) rfl rfl ((pr_held4 HS6.out.drop.drop.drop)) (fun hHeld => ?_); refine with_tabW does9_tab does9_bits (fun HT_ HW_ => ?_)
      generalize w5.drew = wd5 at hHeld HS6 ⊢
      refine pure_ (i := 0) (N := (some 73)) (v := ?_) (a' := ?_) (bb 10 1) rfl rfl (any_of HT_.out (by kernel_rfl)) (fun _ _ _ h => h) (Or.inl ⟨by rfl, ?_⟩) ?_ ?_
      rotate_left
      · intro w'
        go_simp
        with_reducible rfl
      rotate_left
      · simp only [Act.put, List.setIfInBounds_toArray, List.set_cons_zero, List.set_cons_succ, i64_w, i32_w]
        rfl
      refine pure_ (i := 1) (N := (some 74)) (v := ?_) (a' := ?_) (bb 10 3) rfl rfl (any_of HT_.out (by kernel_rfl)) (fun _ _ _ h => h) (Or.inl ⟨by rfl, ?_⟩) ?_ ?_
      rotate_left
      · intro w'
        go_simp
        with_reducible rfl
      rotate_left
      · simp only [Act.put, List.setIfInBounds_toArray, List.set_cons_zero, List.set_cons_succ, i64_w, i32_w]
        rfl
      refine pure_ (i := 2) (N := (some 75)) (v := ?_) (a' := ?_) (bb 10 7) rfl rfl (any_of HT_.out (by kernel_rfl)) (fun _ _ _ h => h) (Or.inl ⟨by rfl, ?_⟩) ?_ ?_
      rotate_left
      · intro w'
        go_simp
        with_reducible rfl
      rotate_left
      · simp only [Act.put, List.setIfInBounds_toArray, List.set_cons_zero, List.set_cons_succ, i64_w, i32_w]
        rfl
      refine take_ (i := 3) (N := (some 76)) (v := ?_) (a' := ?_) (bb 10 15) rfl rfl (take_ofW HT_.out HW_.out (by kernel_rfl)) (fun _ _ _ h => h) (Or.inl ⟨by rfl, ?_⟩) hHeld ?_ ?_
      rotate_left
      · intro w' s0
        (try dsimp only at s0)
        go_simp
        with_reducible rfl
      rotate_left
      · simp only [Act.put, List.setIfInBounds_toArray, List.set_cons_zero, List.set_cons_succ, i64_w, i32_w]
        rfl
      refine pure_ (i := 4) (N := (some 77)) (v := ?_) (a' := ?_) (bb 10 31) rfl rfl (any_of HT_.out (by kernel_rfl)) (fun _ _ _ h => h) (Or.inl ⟨by rfl, ?_⟩) ?_ ?_
      rotate_left
      · intro w'
        go_simp
        with_reducible rfl
      rotate_left
      · simp only [Act.put, List.setIfInBounds_toArray, List.set_cons_zero, List.set_cons_succ, i64_w, i32_w]
        rfl
      refine take_ (i := 5) (N := (some 78)) (v := ?_) (a' := ?_) (bb 10 63) rfl rfl (take_ofW HT_.out HW_.out (by kernel_rfl)) (fun _ _ _ h => h) (Or.inl ⟨by rfl, ?_⟩) hHeld ?_ ?_
      rotate_left
      · intro w' s0
        (try dsimp only at s0)
        go_simp
        with_reducible rfl
      rotate_left
      · simp only [Act.put, List.setIfInBounds_toArray, List.set_cons_zero, List.set_cons_succ, i64_w, i32_w]
        rfl
      refine take_ (i := 6) (N := (some 79)) (v := ?_) (a' := ?_) (bb 10 127) rfl rfl (take_ofW HT_.out HW_.out (by kernel_rfl)) (fun _ _ _ h => h) (Or.inl ⟨by rfl, ?_⟩) hHeld ?_ ?_
      rotate_left
      · intro w' s0
        (try dsimp only at s0)
        go_simp
        with_reducible rfl
      rotate_left
      · simp only [Act.put, List.setIfInBounds_toArray, List.set_cons_zero, List.set_cons_succ, i64_w, i32_w]
        rfl
      refine one_ (i := 7) (N := (some 80)) (bb 10 255) rfl rfl (one_of HT_.out (by kernel_rfl)) (by decide) (fun K hK => ?_)
      refine goes_ Try.func50 (by kernel_rfl) rfl #[.agg #[.int .i64 1, .int .i64 a, .int .i64 t, dv, .int .i64 fl, fv]] (by rfl) rfl rfl (by (try simp only [List.map_toArray, List.map_cons, List.map_nil]); first | done | rfl) ?_
      with_reducible refine (HBD.out _ _ (Sub.c (Sub.c (Sub.c (Sub.c (Sub.c (Sub.c (Sub.r _))))))) HS6.out).mono ?_
      rintro e w7 ⟨A8, c8, rfl, h⟩
      have HS7 := Aside0.mk h
      clear h
      refine ⟨_, rfl, ?_⟩
      refine hK.out _ _ (pr_held4 HS7.out.drop.drop.drop.drop) (fun hHeld => ?_)
      clear hK K
      refine norm_ (a' := ?_) ?_ ?_
      rotate_left
      · show Act.put _ (some 80) _ = _
        simp only [Act.put, List.setIfInBounds_toArray, List.set_cons_zero, List.set_cons_succ, i64_w, i32_w]
        rfl
      refine last_ (i := 8) (N := (some 81)) (bb 10 511) rfl rfl (one_of HT_.out (by kernel_rfl)) (by decide) (fun K hK => ?_)
      refine goes_ Try.func16 (by kernel_rfl) rfl #[.pointer (some ⟨g, 0, none⟩), .int .i64 a, .slice A8 b.length c8] (by rfl) rfl rfl (by (try simp only [List.map_toArray, List.map_cons, List.map_nil]); first | done | rfl) ?_
      with_reducible refine (HI.out _ _ _ _ HS7.out.up6.up1).mono ?_
      rintro e w8 ⟨rfl, h⟩
      have HS8 := Aside0.mk h
      clear h
      refine ⟨_, rfl, ?_⟩
      refine hK.out _ _ ?_
      clear hK K
      refine norm_ (a' := ?_) ?_ ?_
      rotate_left
      · show Act.put _ (some 81) _ = _
        simp only [Act.put, List.setIfInBounds_toArray, List.set_cons_zero, List.set_cons_succ, i64_w, i32_w]
        rfl
      refine pure_ (i := 9) (N := (some 12)) (v := ?_) (a' := ?_) (bb 10 1023) rfl rfl (any_of HT_.out (by kernel_rfl)) (fun _ _ _ h => h) (Or.inl ⟨by rfl, ?_⟩) ?_ ?_
      rotate_left
      · intro w'
        go_simp
        with_reducible rfl
      rotate_left
      · simp only [Act.put, List.setIfInBounds_toArray, List.set_cons_zero, List.set_cons_succ, i64_w, i32_w]
        rfl
      refine done_ (done_of HT_.out (by kernel_rfl)) ?_
      clear HS6 HBD HI
      have hd := blk_cell HS8.out.up1.cells.1
      have hd0 : w8.cell? ⟨gd, 0, none⟩ = some (.int .i64 (s'.n : Int)) := hd 0
      have hd1 : w8.cell? ⟨gd, 1, none⟩ = some (.slice A1' l1.length c1') := hd 1
      have hd2 : w8.cell? ⟨gd, 2, none⟩ = some (.slice A2' l2'.length c2') := hd 2
      have hd3 : w8.cell? ⟨gd, 3, none⟩ = some (.int .i64 s'.r) := hd 3
      have hd4 : w8.cell? ⟨gd, 4, none⟩ = some (.int .i64 s'.wr) := hd 4
      have hd5 : w8.cell? ⟨gd, 5, none⟩ = some (.int .i64 s'.fl) := hd 5
      have hp := blk_cell HS8.out.up5.cells.1
      have hp1 : w8.cell? ⟨gp, 1, none⟩ = some (.int .i64 (s.n : Int)) := hp 1
      have hp2 : w8.cell? ⟨gp, 2, none⟩ = some (.slice A1 l1.length c1) := hp 2
      have hp3 : w8.cell? ⟨gp, 3, none⟩ = some (.slice A2 l2.length c2) := hp 3
      have hp4 : w8.cell? ⟨gp, 4, none⟩ = some (.int .i64 s.r) := hp 4
      have hp5 : w8.cell? ⟨gp, 5, none⟩ = some (.int .i64 s.wr) := hp 5
      have hp6 : w8.cell? ⟨gp, 6, none⟩ = some (.int .i64 s.fl) := hp 6
      have hf := blk_frozen HS8.out.up5.cells.1
      have hf1 := hf 1
      have hf2 := hf 2
      have hf3 := hf 3
      have hf4 := hf 4
      have hf5 := hf 5
      have hf6 := hf 6
      clear hd hp hf
      go_upto_region 11 with (fail)
      clear hd0 hd1 hd2 hd3 hd4 hd5 hp1 hp2 hp3 hp4 hp5 hp6 hf1 hf2 hf3 hf4 hf5 hf6
      have HS9 := Aside0.mk (HS8.out.up5.cset6 (.int .i64 (s'.n : Int)) (.slice A1' l1.length c1') (.slice A2' l2'.length c2') (.int .i64 s'.r) (.int .i64 s'.wr) (.int .i64 s'.fl))
      clear HS8
      generalize ((((((w8.setCell ⟨gp, 1, none⟩ (.int .i64 (s'.n : Int))).setCell ⟨gp, 2, none⟩ (.slice A1' l1.length c1')).setCell ⟨gp, 3, none⟩ (.slice A2' l2'.length c2')).setCell ⟨gp, 4, none⟩ (.int .i64 s'.r)).setCell ⟨gp, 5, none⟩ (.int .i64 s'.wr)).setCell ⟨gp, 6, none⟩ (.int .i64 s'.fl)) = w9 at HS9 ⊢
      have c9b0 : (code == code) = true := beq_iff_eq.mpr rfl
      go_wp2
      go_ret
      exact ⟨rfl, A1', c1', A2', c2', HS9.out.up2.drop.up3.drop.up3.drop⟩
  case refine_2 =>
    refine value_ (w1 := ?_) (v := ?_) (by rfl) rfl ?_ ?_
    rotate_left 2
    · go_simp
      constructor
      · rfl
      · rfl
    have HS2 := Aside0.mk (HS1.out.push_alloc #[.int .i64 0, .slice none 0 0, .slice none 0 0, .int .i64 0, .int .i64 0, .int .i64 0] 76)
    generalize wd.alloc (.cells #[.int .i64 0, .slice none 0 0, .slice none 0 0, .int .i64 0, .int .i64 0, .int .i64 0] 76) = w2 at HS2 ⊢
    generalize wd.heap.size = gd at HS2 ⊢
    refine hK.out _ _ (pr_held3 HS2.out.drop) (fun hHeld => ?_)
    clear hK K
    refine norm_ (a' := ?_) ?_ ?_
    rotate_left
    · show Act.put _ (some 10) _ = _
      simp only [Act.put, List.setIfInBounds_toArray, List.set_cons_zero, List.set_cons_succ, i64_w, i32_w]
      rfl
    refine one_ (i := 7) (N := (some 69)) (bb 15 4351) rfl rfl (one_of HT_.out (by kernel_rfl)) (by decide) (fun K hK => ?_)
    refine goes_ Try.func50 (by kernel_rfl) rfl #[.agg #[.int .i64 1, .int .i64 a, .int .i64 t, dv, .int .i64 fl, fv]] (by rfl) rfl rfl (by (try simp only [List.map_toArray, List.map_cons, List.map_nil]); first | done | rfl) ?_
    with_reducible refine (HBD.out _ _ (Sub.c (Sub.c (Sub.c (Sub.c (Sub.c (Sub.r _)))))) HS2.out).mono ?_
    rintro e w3 ⟨A7, c7, rfl, h⟩
    have HS3 := Aside0.mk h
    clear h
    have HOC := Aside0.mk HS3.out.own_C
    refine ⟨_, rfl, ?_⟩
    refine hK.out _ _ (pr_held3 HS3.out.drop.drop) (fun hHeld => ?_)
    clear hK K
    refine norm_ (a' := ?_) ?_ ?_
    rotate_left
    · show Act.put _ (some 69) _ = _
      simp only [Act.put, List.setIfInBounds_toArray, List.set_cons_zero, List.set_cons_succ, i64_w, i32_w]
      rfl
    refine one_ (i := 8) (N := (some 70)) (bb 15 4607) rfl rfl (one_of HT_.out (by kernel_rfl)) (by decide) (fun K hK => ?_)
    refine goes_ Try.func49 (by kernel_rfl) rfl #[.agg #[.int .i64 (s.n : Int), .slice A1 l1.length c1, .slice A2 l2.length c2, .int .i64 s.r, .int .i64 s.wr, .int .i64 s.fl], .int .i64 a, .slice A7 b.length c7] (by rfl) rfl rfl (by (try simp only [List.map_toArray, List.map_cons, List.map_nil]); first | done | rfl) ?_
    with_reducible refine (Sep.rWrite HS3.out.up5 k0 _ _ _ _ _ A7 c7 b _ _ _ _ _ _ _ HOC.out.1 HOC.out.2 HRF.out).mono ?_
    rintro e w4 ⟨A1', c1', A2', c2', rfl, h⟩
    have HS4 := Aside0.mk h.up2
    clear h
    have hz := blk_cell HS4.out.cells.1
    have hz0 : w4.cell? ⟨gd, 0, none⟩ = some (.int .i64 0) := hz 0
    have hz1 : w4.cell? ⟨gd, 1, none⟩ = some (.slice none 0 0) := hz 1
    have hz2 : w4.cell? ⟨gd, 2, none⟩ = some (.slice none 0 0) := hz 2
    have hz3 : w4.cell? ⟨gd, 3, none⟩ = some (.int .i64 0) := hz 3
    have hz4 : w4.cell? ⟨gd, 4, none⟩ = some (.int .i64 0) := hz 4
    have hz5 : w4.cell? ⟨gd, 5, none⟩ = some (.int .i64 0) := hz 5
    have hf := blk_frozen HS4.out.cells.1
    have hf0 := hf 0
    have hf1 := hf 1
    have hf2 := hf 2
    have hf3 := hf 3
    have hf4 := hf 4
    have hf5 := hf 5
    clear hz hf
    refine ⟨_, rfl, ?_⟩
    refine hK.out _ _ (pr_held3 HS4.out.drop.drop.drop) (fun hHeld => ?_)
    clear hK K
    refine norm_ (a' := ?_) ?_ ?_
    rotate_left
    · show Act.put _ (some 70) _ = _
      simp only [Act.put, List.setIfInBounds_toArray, List.set_cons_zero, List.set_cons_succ, i64_w, i32_w]
      rfl
    refine pure_ (i := 9) (N := (some 61)) (v := ?_) (a' := ?_) (bb 15 5119) rfl rfl (any_of HT_.out (by kernel_rfl)) (fun _ _ _ h => h) (Or.inl ⟨by rfl, ?_⟩) ?_ ?_
    rotate_left
    · intro w'
      go_simp
      with_reducible rfl
    rotate_left
    · simp only [Act.put, List.setIfInBounds_toArray, List.set_cons_zero, List.set_cons_succ, i64_w, i32_w]
      rfl
    refine pure_ (i := 10) (N := (some 71)) (v := ?_) (a' := ?_) (bb 15 6143) rfl rfl (any_of HT_.out (by kernel_rfl)) (fun _ _ _ h => h) (Or.inl ⟨by rfl, ?_⟩) ?_ ?_
    rotate_left
    · intro w'
      go_simp
      with_reducible rfl
    rotate_left
    · simp only [Act.put, List.setIfInBounds_toArray, List.set_cons_zero, List.set_cons_succ, i64_w, i32_w]
      rfl
    refine pure_ (i := 11) (N := (some 72)) (v := ?_) (a' := ?_) (bb 15 8191) rfl rfl (any_of HT_.out (by kernel_rfl)) (fun _ _ _ h => h) (Or.inl ⟨by rfl, ?_⟩) ?_ ?_
    rotate_left
    · intro w'
      go_simp
      with_reducible rfl
    rotate_left
    · simp only [Act.put, List.setIfInBounds_toArray, List.set_cons_zero, List.set_cons_succ, i64_w, i32_w]
      rfl
    refine last_ (i := 13) (N := none) (bb 15 16383) rfl rfl (one_of HT_.out (by kernel_rfl)) (by decide) (fun K hK => ?_)
    refine skip_ (w1 := ?_) (by rfl) rfl ?_ ?_
    rotate_left
    · go_simp
      first | rfl | (constructor <;> rfl)
    refine hK.out _ _ ?_
    clear hK K
    refine pure_ (i := 14) (N := (some 11)) (v := ?_) (a' := ?_) (bb 15 32767) rfl rfl (any_of HT_.out (by kernel_rfl)) (fun _ _ _ h => h) (Or.inl ⟨by rfl, ?_⟩) ?_ ?_
    rotate_left
    · intro w'
      go_simp
      with_reducible rfl
    rotate_left
    · simp only [Act.put, List.setIfInBounds_toArray, List.set_cons_zero, List.set_cons_succ, i64_w, i32_w]
      rfl
    refine done_ (done_of HT_.out (by kernel_rfl)) ?_
    have HS5 := Aside0.mk (HS4.out.cset60 (.int .i64 (s'.n : Int)) (.slice A1' l1.length c1') (.slice A2' l2'.length c2') (.int .i64 s'.r) (.int .i64 s'.wr) (.int .i64 s'.fl))
    clear HRF hHeld hz0 hz1 hz2 hz3 hz4 hz5 hf0 hf1 hf2 hf3 hf4 hf5 HS2 HS3 HS4
    generalize ((((((w4.setCell ⟨gd, 0, none⟩ (.int .i64 (s'.n : Int))).setCell ⟨gd, 1, none⟩ (.slice A1' l1.length c1')).setCell ⟨gd, 2, none⟩ (.slice A2' l2'.length c2')).setCell ⟨gd, 3, none⟩ (.int .i64 s'.r)).setCell ⟨gd, 4, none⟩ (.int .i64 s'.wr)).setCell ⟨gd, 5, none⟩ (.int .i64 s'.fl)) = w5 at HS5 ⊢
    go_upto_region 9 with (fail)
    have HS6 := Aside0.mk (HS5.out.step (below_drew1 (Below.refl w5.heap.size w5)))
    clear HS5
    refine start_ (n := 10) (S := fun W => W.cell? ⟨gp, 0, none⟩ = some (.pointer (some ⟨g, 0, none⟩)) ∧ W.cell? ⟨gb, 0, none⟩ = some (.int .i64 1) ∧ W.cell? ⟨gb, 1, none⟩ = some (.int .i64 a) ∧ W.cell? ⟨gb, 2, none⟩ = some (.int .i64 t) ∧ W.cell? ⟨gb, 3, none⟩ = some dv ∧ W.cell? ⟨gb, 4, none⟩ = some (.int .i64 fl) ∧ W.cell? ⟨gb, 5, none⟩ = some fv) (ds := [8]) (bb 10 0) (by kernel_rfl) rfl rfl ((pr_held4 HS6.out.drop.drop.drop)) (fun hHeld => ?_); refine with_tabW does9_tab does9_bits (fun HT_ HW_ => ?_)
    generalize w5.drew = wd5 at hHeld HS6 ⊢
    refine pure_ (i := 0) (N := (some 73)) (v := ?_) (a' := ?_) (bb 10 1) rfl rfl (any_of HT_.out (by kernel_rfl)) (fun _ _ _ h => h) (Or.inl ⟨by rfl, ?_⟩) ?_ ?_
    rotate_left
    · intro w'
      go_simp
      with_reducible rfl
    rotate_left
    · simp only [Act.put, List.setIfInBounds_toArray, List.set_cons_zero, List.set_cons_succ, i64_w, i32_w]
      rfl
    refine pure_ (i := 1) (N := (some 74)) (v := ?_) (a' := ?_) (bb 10 3) rfl rfl (any_of HT_.out (by kernel_rfl)) (fun _ _ _ h => h) (Or.inl ⟨by rfl, ?_⟩) ?_ ?_
    rotate_left
    · intro w'
      go_simp
      with_reducible rfl
    rotate_left
    · simp only [Act.put, List.setIfInBounds_toArray, List.set_cons_zero, List.set_cons_succ, i64_w, i32_w]
      rfl
    refine pure_ (i := 2) (N := (some 75)) (v := ?_) (a' := ?_) (bb 10 7) rfl rfl (any_of HT_.out (by kernel_rfl)) (fun _ _ _ h => h) (Or.inl ⟨by rfl, ?_⟩) ?_ ?_
    rotate_left
    · intro w'
      go_simp
      with_reducible rfl
    rotate_left
    · simp only [Act.put, List.setIfInBounds_toArray, List.set_cons_zero, List.set_cons_succ, i64_w, i32_w]
      rfl
    refine take_ (i := 3) (N := (some 76)) (v := ?_) (a' := ?_) (bb 10 15) rfl rfl (take_ofW HT_.out HW_.out (by kernel_rfl)) (fun _ _ _ h => h) (Or.inl ⟨by rfl, ?_⟩) hHeld ?_ ?_
    rotate_left
    · intro w' s0
      (try dsimp only at s0)
      go_simp
      with_reducible rfl
    rotate_left
    · simp only [Act.put, List.setIfInBounds_toArray, List.set_cons_zero, List.set_cons_succ, i64_w, i32_w]
      rfl
    refine pure_ (i := 4) (N := (some 77)) (v := ?_) (a' := ?_) (bb 10 31) rfl rfl (any_of HT_.out (by kernel_rfl)) (fun _ _ _ h => h) (Or.inl ⟨by rfl, ?_⟩) ?_ ?_
    rotate_left
    · intro w'
      go_simp
      with_reducible rfl
    rotate_left
    · simp only [Act.put, List.setIfInBounds_toArray, List.set_cons_zero, List.set_cons_succ, i64_w, i32_w]
      rfl
    refine take_ (i := 5) (N := (some 78)) (v := ?_) (a' := ?_) (bb 10 63) rfl rfl (take_ofW HT_.out HW_.out (by kernel_rfl)) (fun _ _ _ h => h) (Or.inl ⟨by rfl, ?_⟩) hHeld ?_ ?_
    rotate_left
    · intro w' s0
      (try dsimp only at s0)
      go_simp
      with_reducible rfl
    rotate_left
    · simp only [Act.put, List.setIfInBounds_toArray, List.set_cons_zero, List.set_cons_succ, i64_w, i32_w]
      rfl
    refine take_ (i := 6) (N := (some 79)) (v := ?_) (a' := ?_) (bb 10 127) rfl rfl (take_ofW HT_.out HW_.out (by kernel_rfl)) (fun _ _ _ h => h) (Or.inl ⟨by rfl, ?_⟩) hHeld ?_ ?_
    rotate_left
    · intro w' s0
      (try dsimp only at s0)
      go_simp
      with_reducible rfl
    rotate_left
    · simp only [Act.put, List.setIfInBounds_toArray, List.set_cons_zero, List.set_cons_succ, i64_w, i32_w]
      rfl
    refine one_ (i := 7) (N := (some 80)) (bb 10 255) rfl rfl (one_of HT_.out (by kernel_rfl)) (by decide) (fun K hK => ?_)
    refine goes_ Try.func50 (by kernel_rfl) rfl #[.agg #[.int .i64 1, .int .i64 a, .int .i64 t, dv, .int .i64 fl, fv]] (by rfl) rfl rfl (by (try simp only [List.map_toArray, List.map_cons, List.map_nil]); first | done | rfl) ?_
    with_reducible refine (HBD.out _ _ (Sub.c (Sub.c (Sub.c (Sub.c (Sub.c (Sub.c (Sub.r _))))))) HS6.out).mono ?_
    rintro e w7 ⟨A8, c8, rfl, h⟩
    have HS7 := Aside0.mk h
    clear h
    refine ⟨_, rfl, ?_⟩
    refine hK.out _ _ (pr_held4 HS7.out.drop.drop.drop.drop) (fun hHeld => ?_)
    clear hK K
    refine norm_ (a' := ?_) ?_ ?_
    rotate_left
    · show Act.put _ (some 80) _ = _
      simp only [Act.put, List.setIfInBounds_toArray, List.set_cons_zero, List.set_cons_succ, i64_w, i32_w]
      rfl
    refine last_ (i := 8) (N := (some 81)) (bb 10 511) rfl rfl (one_of HT_.out (by kernel_rfl)) (by decide) (fun K hK => ?_)
    refine goes_ Try.func16 (by kernel_rfl) rfl #[.pointer (some ⟨g, 0, none⟩), .int .i64 a, .slice A8 b.length c8] (by rfl) rfl rfl (by (try simp only [List.map_toArray, List.map_cons, List.map_nil]); first | done | rfl) ?_
    with_reducible refine (HI.out _ _ _ _ HS7.out.up6.up1).mono ?_
    rintro e w8 ⟨rfl, h⟩
    have HS8 := Aside0.mk h
    clear h
    refine ⟨_, rfl, ?_⟩
    refine hK.out _ _ ?_
    clear hK K
    refine norm_ (a' := ?_) ?_ ?_
    rotate_left
    · show Act.put _ (some 81) _ = _
      simp only [Act.put, List.setIfInBounds_toArray, List.set_cons_zero, List.set_cons_succ, i64_w, i32_w]
      rfl
    refine pure_ (i := 9) (N := (some 12)) (v := ?_) (a' := ?_) (bb 10 1023) rfl rfl (any_of HT_.out (by kernel_rfl)) (fun _ _ _ h => h) (Or.inl ⟨by rfl, ?_⟩) ?_ ?_
    rotate_left
    · intro w'
      go_simp
      with_reducible rfl
    rotate_left
    · simp only [Act.put, List.setIfInBounds_toArray, List.set_cons_zero, List.set_cons_succ, i64_w, i32_w]
      rfl
    refine done_ (done_of HT_.out (by kernel_rfl)) ?_
    clear HS6 HBD HI
    have hd := blk_cell HS8.out.up1.cells.1
    have hd0 : w8.cell? ⟨gd, 0, none⟩ = some (.int .i64 (s'.n : Int)) := hd 0
    have hd1 : w8.cell? ⟨gd, 1, none⟩ = some (.slice A1' l1.length c1') := hd 1
    have hd2 : w8.cell? ⟨gd, 2, none⟩ = some (.slice A2' l2'.length c2') := hd 2
    have hd3 : w8.cell? ⟨gd, 3, none⟩ = some (.int .i64 s'.r) := hd 3
    have hd4 : w8.cell? ⟨gd, 4, none⟩ = some (.int .i64 s'.wr) := hd 4
    have hd5 : w8.cell? ⟨gd, 5, none⟩ = some (.int .i64 s'.fl) := hd 5
    have hp := blk_cell HS8.out.up5.cells.1
    have hp1 : w8.cell? ⟨gp, 1, none⟩ = some (.int .i64 (s.n : Int)) := hp 1
    have hp2 : w8.cell? ⟨gp, 2, none⟩ = some (.slice A1 l1.length c1) := hp 2
    have hp3 : w8.cell? ⟨gp, 3, none⟩ = some (.slice A2 l2.length c2) := hp 3
    have hp4 : w8.cell? ⟨gp, 4, none⟩ = some (.int .i64 s.r) := hp 4
    have hp5 : w8.cell? ⟨gp, 5, none⟩ = some (.int .i64 s.wr) := hp 5
    have hp6 : w8.cell? ⟨gp, 6, none⟩ = some (.int .i64 s.fl) := hp 6
    have hf := blk_frozen HS8.out.up5.cells.1
    have hf1 := hf 1
    have hf2 := hf 2
    have hf3 := hf 3
    have hf4 := hf 4
    have hf5 := hf 5
    have hf6 := hf 6
    clear hd hp hf
    go_upto_region 11 with (fail)
    clear hd0 hd1 hd2 hd3 hd4 hd5 hp1 hp2 hp3 hp4 hp5 hp6 hf1 hf2 hf3 hf4 hf5 hf6
    have HS9 := Aside0.mk (HS8.out.up5.cset6 (.int .i64 (s'.n : Int)) (.slice A1' l1.length c1') (.slice A2' l2'.length c2') (.int .i64 s'.r) (.int .i64 s'.wr) (.int .i64 s'.fl))
    clear HS8
    generalize ((((((w8.setCell ⟨gp, 1, none⟩ (.int .i64 (s'.n : Int))).setCell ⟨gp, 2, none⟩ (.slice A1' l1.length c1')).setCell ⟨gp, 3, none⟩ (.slice A2' l2'.length c2')).setCell ⟨gp, 4, none⟩ (.int .i64 s'.r)).setCell ⟨gp, 5, none⟩ (.int .i64 s'.wr)).setCell ⟨gp, 6, none⟩ (.int .i64 s'.fl)) = w9 at HS9 ⊢
    have c9b0 : (code == code) = true := beq_iff_eq.mpr rfl
    go_wp2
    go_ret
    exact ⟨rfl, A1', c1', A2', c2', HS9.out.up2.drop.up3.drop.up3.drop⟩
end Go.Proofs.Ytddnhcnkjcdfgaa.M

namespace Go.Proofs.Ytddnhcnkjcdfgaa.M
open Go.RowKit Go.Maps Go.Proofs.YtddnhcnkjcdfgaaW.PrintWords Go.Proofs.YtddnhcnkjcdfgaaW.PrintLast Go.Proofs.YtddnhcnkjcdfgaaW.PrintMore
open Go.Proofs.Ytddnhcnkjcdfgaa.P hiding S106 k106 rd_T106 at_T106
open Go.Proofs.Ytddnhcnkjcdfgaa.R
set_option linter.unusedVariables false
set_option linter.unusedSimpArgs false
variable {w0 : World} {L : List Th}
theorem Sep.up7 {w : World} {a b c d e f g i : Th} (h : Sep w0 w (a :: b :: c :: d :: e :: f :: g :: i :: L)) : Sep w0 w (i :: a :: b :: c :: d :: e :: f :: g :: L) := h.perm (List.perm_middle (l₁ := [a, b, c, d, e, f, g]))
theorem load_rows {W : World} {L : List Th} {A : Option Addr} {n c : Nat} {X : List (List Int)} (h : Sep w0 W (rowsT KB 28 (.slice A n c) X :: L)) (hX : X.length = n) (h2 : 2 ≤ n) (hm : n ≤ 65536) (hl : ∀ i, i < n → (X.getD i []).length = 512) :
    Calls Try.prog 28 #[.slice A n c] W fun e w' => ∃ g, e = .returned (.tuple #[.pointer (some ⟨g, 0, none⟩), .int .i64 0]) ∧ Sep w0 w' (dkT g (DS.fresh n X) :: rowsT KB 28 (.slice A n c) X :: L) := by
  subst hX
  exact Sep.load h A c X h2 hm h.rows_own.own_C.1 hl
theorem rload_rows {W : World} {L : List Th} {A : Option Addr} {n c : Nat} {X : List (List Int)} (h : Sep w0 W (ownT KB 28 (.slice A n c) X :: L)) (hX : X.length = n) (h2 : 2 ≤ n) (hm : n ≤ 65536) (hl : ∀ i, i < n → (X.getD i []).length = 512) :
    Calls Try.prog 40 #[.slice A n c] W fun e w' => ∃ A1' c1' A2' c2', e = .returned (.tuple #[.agg #[.int .i64 (n : Int), .slice A1' (ldR X n).length c1', .slice A2' 0 c2', .int .i64 0, .int .i64 0, .int .i64 0], .int .i64 0]) ∧ Sep w0 w' (refT (.slice A1' (ldR X n).length c1') (.slice A2' 0 c2') (ldR X n) [] :: ownT KB 28 (.slice A n c) X :: L) := by
  subst hX
  obtain ⟨k, hk⟩ := load_ev X h2 hm hl
  exact Sep.rLoad h k A c X h.own_C.1 h.own_C.2 _ _ _ _ _ _ _ hk
set_option maxHeartbeats 8000000 in
set_option maxRecDepth 100000 in
theorem does_load (gp g : Nat) (s : DS) (A1 : Option Addr) (c1 : Nat) (A2 : Option Addr) (c2 : Nat) (l1 l2 : List S106) (w : World)
    (h : Sep w0 w (cellsT gp (prC g s (.slice A1 l1.length c1) (.slice A2 l2.length c2)) 78 :: dkT g s :: refT (.slice A1 l1.length c1) (.slice A2 l2.length c2) l1 l2 :: L)) (hl : l1.length + l2.length ≤ 1000000) (hR : Rl s l1 l2) (hn : 2 ≤ s.n ∧ s.n ≤ 65536)
    (b t fl : Int) (dv fv : Value) :
    Calls Try.prog 38 #[.pointer (some ⟨gp, 0, none⟩), .agg #[.int .i64 7, .int .i64 b, .int .i64 t, dv, .int .i64 fl, fv]] w fun e w' => e = .returned (.bool true) ∧ ∃ g' A1' c1' A2' c2',
      Sep w0 w' (cellsT gp (prC g' (DS.fresh s.n s.L) (.slice A1' (ldR s.L s.n).length c1') (.slice A2' 0 c2')) 78 :: dkT g' (DS.fresh s.n s.L) :: refT (.slice A1' (ldR s.L s.n).length c1') (.slice A2' 0 c2') (ldR s.L s.n) [] :: L) := by
  have HS0 := Aside0.mk (h.push_alloc #[.int .i64 7, .int .i64 b, .int .i64 t, dv, .int .i64 fl, fv] 73)
  have HIM := Aside0.mk hR.image
  have HN := Aside0.mk hn
  have HLEN := Aside0.mk hR.len
  have H512 := Aside0.mk (show ∀ i, i < s.n → (s.L.getD i []).length = 512 from fun i hi => by rw [← hR.hL i hi]; exact lastR_len hR.e1 _)
  have HL1 := Aside0.mk (show l1.length ≤ 1000000000 by omega)
  have HG := Aside0.mk (show ∀ j, j < l1.length → (∃ i : Nat, i < s.n ∧ (rd_T106 l1 (j : Int)).f0 = (i : Int)) ∧ (rd_T106 l1 (j : Int)).f1.length ≤ 1000000 from fun j hj => by
    rw [rd106 l1 j hj]
    obtain ⟨h1, h2⟩ := hR.e1 _ (List.getElem_mem hj)
    exact ⟨h1, by omega⟩)
  generalize hX1 : ldR s.L s.n = X1
  have HX1 := Aside0.mk hX1
  clear h hl hR hn hX1
  go_enter Try.func38, Try.ntmps38
  go_upto_region 1 with (fail)
  generalize w.alloc (.cells #[.int .i64 7, .int .i64 b, .int .i64 t, dv, .int .i64 fl, fv] 73) = w1 at HS0 ⊢
  generalize w.heap.size = gb at HS0 ⊢
  have hk : w1.cell? ⟨gb, 0, none⟩ = some (.int .i64 7) := blk_cell HS0.out.cells.1 0
  have hp0 : w1.cell? ⟨gp, 0, none⟩ = some (.pointer (some ⟨g, 0, none⟩)) := blk_cell HS0.out.up1.cells.1 0
  go_upto_region 29 with (first
    | (go_at_call 26; (with_reducible refine (Sep.image HS0.out.up2).mono ?_); rintro e w2 ⟨go, c, rfl, h⟩; have HS2 := Aside0.mk h; clear h hk hp0)
    | (go_at_call 28; (with_reducible refine (load_rows HS2.out HLEN.out HN.out.1 HN.out.2 H512.out).mono ?_); rintro e w3 ⟨g', rfl, h⟩; have HS3 := Aside0.mk h; clear h))
  have hp := blk_cell HS3.out.up4.cells.1
  have hp1 : w3.cell? ⟨gp, 1, none⟩ = some (.int .i64 (s.n : Int)) := hp 1
  have hp2 : w3.cell? ⟨gp, 2, none⟩ = some (.slice A1 l1.length c1) := hp 2
  have hp3 : w3.cell? ⟨gp, 3, none⟩ = some (.slice A2 l2.length c2) := hp 3
  have hp4 : w3.cell? ⟨gp, 4, none⟩ = some (.int .i64 s.r) := hp 4
  have hp5 : w3.cell? ⟨gp, 5, none⟩ = some (.int .i64 s.wr) := hp 5
  have hp6 : w3.cell? ⟨gp, 6, none⟩ = some (.int .i64 s.fl) := hp 6
  clear hp
  go_upto_region 30 with (first
    | (go_at_call 54; (with_reducible refine (rImage_calls A1 c1 l1 A2 l2.length c2 s.n s.r s.wr s.fl w3 HS3.out.up5.ref_C.1 HS3.out.up5.ref_C.2.1 HN.out.1 HN.out.2 HL1.out HG.out).mono ?_); rintro e w4 ⟨go2, c5, rfl, h⟩; have HS4 := Aside0.mk (HS3.out.nest h); clear h hp1 hp2 hp3 hp4 hp5 hp6; rw [HIM.out] at HS4)
    | (go_at_call 40; (with_reducible refine (rload_rows HS4.out HLEN.out HN.out.1 HN.out.2 H512.out).mono ?_); rintro e w5 ⟨A1', c1', A2', c2', rfl, h⟩; rw [HX1.out] at h ⊢; have HS5 := Aside0.mk h; clear h))
  have HS6 := Aside0.mk (HS5.out.push_alloc #[.int .i64 (s.n : Int), .slice A1' X1.length c1', .slice A2' 0 c2', .int .i64 0, .int .i64 0, .int .i64 0] 76)
  clear HS0 HS2 HS3 HS4 HS5 HIM HN HLEN H512 HL1 HG HX1
  generalize w5.alloc (.cells #[.int .i64 (s.n : Int), .slice A1' X1.length c1', .slice A2' 0 c2', .int .i64 0, .int .i64 0, .int .i64 0] 76) = w6 at HS6 ⊢
  generalize w5.heap.size = gd at HS6 ⊢
  have hd := blk_cell HS6.out.cells.1
  have hd0 : w6.cell? ⟨gd, 0, none⟩ = some (.int .i64 (s.n : Int)) := hd 0
  have hd1 : w6.cell? ⟨gd, 1, none⟩ = some (.slice A1' X1.length c1') := hd 1
  have hd2 : w6.cell? ⟨gd, 2, none⟩ = some (.slice A2' 0 c2') := hd 2
  have hd3 : w6.cell? ⟨gd, 3, none⟩ = some (.int .i64 0) := hd 3
  have hd4 : w6.cell? ⟨gd, 4, none⟩ = some (.int .i64 0) := hd 4
  have hd5 : w6.cell? ⟨gd, 5, none⟩ = some (.int .i64 0) := hd 5
  clear hd
  have hf0 : w6.frozen? ⟨gp, 0, none⟩ = false := blk_frozen HS6.out.up7.cells.1 0
  have hp0 : w6.cell? ⟨gp, 0, none⟩ = some (.pointer (some ⟨g, 0, none⟩)) := blk_cell HS6.out.up7.cells.1 0
  go_upto_region 33 with (fail)
  clear hd0 hd1 hd2 hd3 hd4 hd5 hf0 hp0
  have HS7 := Aside0.mk (HS6.out.up7.cset 0 (.pointer (some ⟨g', 0, none⟩)))
  clear HS6
  generalize w6.setCell ⟨gp, 0, none⟩ (.pointer (some ⟨g', 0, none⟩)) = w7 at HS7 ⊢
  have hd := blk_cell HS7.out.up1.cells.1
  have hd0 : w7.cell? ⟨gd, 0, none⟩ = some (.int .i64 (s.n : Int)) := hd 0
  have hd1 : w7.cell? ⟨gd, 1, none⟩ = some (.slice A1' X1.length c1') := hd 1
  have hd2 : w7.cell? ⟨gd, 2, none⟩ = some (.slice A2' 0 c2') := hd 2
  have hd3 : w7.cell? ⟨gd, 3, none⟩ = some (.int .i64 0) := hd 3
  have hd4 : w7.cell? ⟨gd, 4, none⟩ = some (.int .i64 0) := hd 4
  have hd5 : w7.cell? ⟨gd, 5, none⟩ = some (.int .i64 0) := hd 5
  have hp := blk_cell HS7.out.cells.1
  have hp1 : w7.cell? ⟨gp, 1, none⟩ = some (.int .i64 (s.n : Int)) := hp 1
  have hp2 : w7.cell? ⟨gp, 2, none⟩ = some (.slice A1 l1.length c1) := hp 2
  have hp3 : w7.cell? ⟨gp, 3, none⟩ = some (.slice A2 l2.length c2) := hp 3
  have hp4 : w7.cell? ⟨gp, 4, none⟩ = some (.int .i64 s.r) := hp 4
  have hp5 : w7.cell? ⟨gp, 5, none⟩ = some (.int .i64 s.wr) := hp 5
  have hp6 : w7.cell? ⟨gp, 6, none⟩ = some (.int .i64 s.fl) := hp 6
  have hf := blk_frozen HS7.out.cells.1
  have hf1 := hf 1
  have hf2 := hf 2
  have hf3 := hf 3
  have hf4 := hf 4
  have hf5 := hf 5
  have hf6 := hf 6
  clear hd hp hf
  have HS8 := Aside0.mk (Sep.cset6 (a0 := .pointer (some ⟨g', 0, none⟩)) HS7.out (.int .i64 (s.n : Int)) (.slice A1' X1.length c1') (.slice A2' 0 c2') (.int .i64 0) (.int .i64 0) (.int .i64 0))
  clear HS7
  go_wp2
  go_ret
  exact ⟨rfl, g', A1', c1', A2', c2', HS8.out.up1.drop.up2.drop.up2.up1.up3.drop.up3.drop.up3.drop.up3.drop⟩
end Go.Proofs.Ytddnhcnkjcdfgaa.M

namespace Go.Proofs.Ytddnhcnkjcdfgaa.M
open Go.RowKit Go.Maps Go.Proofs.YtddnhcnkjcdfgaaW.PrintWords Go.Proofs.YtddnhcnkjcdfgaaW.PrintLast Go.Proofs.YtddnhcnkjcdfgaaW.PrintMore
open Go.Proofs.Ytddnhcnkjcdfgaa.P hiding S106 k106 rd_T106 at_T106
open Go.Proofs.Ytddnhcnkjcdfgaa.R
set_option linter.unusedVariables false
set_option linter.unusedSimpArgs false
variable {w0 : World} {L : List Th}
def PrS (w0 w : World) (gp : Nat) (L : List Th) (s : DS) (B : Nat) : Prop := ∃ g A1 c1 A2 c2 l1 l2,
  Sep w0 w (cellsT gp (prC g s (.slice A1 (List.length l1) c1) (.slice A2 (List.length l2) c2)) 78 :: dkT g s :: refT (.slice A1 (List.length l1) c1) (.slice A2 (List.length l2) c2) l1 l2 :: L) ∧
  Rl s l1 l2 ∧ 2 ≤ s.n ∧ s.n ≤ 65536 ∧ l1.length + l2.length ≤ B ∧ s.c ≤ B
theorem does_any (gp : Nat) (s : DS) (B : Nat) (w : World) (h : PrS w0 w gp L s B) (hB : 65536 ≤ B) (hB2 : B ≤ 800000) (kd a t fl : Int) (A3 : Option Addr) (c3 : Nat) (d : List Int) (hC3 : ∀ (W : World) (M : List Th), Sub L M → Sep w0 W M → Kd.C (Kd.int .u8) W A3 d.length d) (hc3 : d.length ≤ c3) (hd3 : d.length ≤ 140737488355328)
    (A5 : Option Addr) (c5 : Nat) (fs : List Int) (hC5 : Kd.C (Kd.int .i64) w0 A5 fs.length fs) (hc5 : fs.length ≤ c5) :
    Calls Try.prog 38 #[.pointer (some ⟨gp, 0, none⟩), .agg #[.int .i64 kd, .int .i64 a, .int .i64 t, .slice A3 d.length c3, .int .i64 fl, .slice A5 fs.length c5]] w fun e w' => e = .returned (.bool true) ∧ ∃ s', PrS w0 w' gp L s' (B + 1) ∧ s'.n = s.n ∧ ((kd = 0 ∨ kd = 1 ∨ kd = 4) → s'.wr = s.wr ∨ s'.wr = wrap64 (s.wr + 1)) ∧ (kd = 1 → fl = 0 → 0 ≤ a → a < (s.n : Int) → s'.wr = wrap64 (s.wr + 1)) := by
  obtain ⟨g, A1, c1, A2, c2, l1, l2, hS, hR, hn2, hnm, hlB, hcB⟩ := h
  by_cases k0 : kd = 0
  · subst k0
    by_cases hi : 0 ≤ a ∧ a < (s.n : Int)
    · obtain ⟨i, rfl⟩ : ∃ i : Nat, a = (i : Int) := ⟨a.toNat, by omega⟩
      refine (does_read gp g s A1 c1 A2 c2 l1 l2 w hS (by omega) hR i (by omega) t fl _ _).mono ?_
      rintro e w' ⟨he, A1', c1', A2', c2', h1⟩
      exact ⟨he, s.reads, ⟨g, A1', c1', A2', c2', l1, l2, h1, hR.reads, hn2, hnm, by omega, Nat.le_succ_of_le hcB⟩, rfl, fun _ => .inl rfl, fun h => by omega⟩
    · refine (does_read_no gp g s A1 c1 A2 c2 l1 l2 w hS (by omega) hR a hi t fl _ _).mono ?_
      rintro e w' ⟨he, A1', c1', A2', c2', h1⟩
      exact ⟨he, s, ⟨g, A1', c1', A2', c2', l1, l2, h1, hR, hn2, hnm, by omega, by omega⟩, rfl, fun _ => .inl rfl, fun h => by omega⟩
  by_cases k1 : kd = 1
  · subst k1
    obtain ⟨b, hb⟩ : ∃ b : List Int, (b.length ≤ 140737488355328 ∧ (fl = 0 → b.length = 512)) ∧ ∀ (W : World) (M : List Th), Sub L M → Sep w0 W M → Calls Try.prog 50 #[.agg #[.int .i64 1, .int .i64 a, .int .i64 t, .slice A3 d.length c3, .int .i64 fl, .slice A5 fs.length c5]] W fun e w' => ∃ A c, e = .returned (.slice A b.length c) ∧ Sep w0 w' (ownT (Kd.int .u8) 5 (.slice A b.length c) b :: M) := by
      by_cases hf : fl = 0
      · subst hf
        obtain ⟨r, hr, hl⟩ := sector_ok d 0
        exact ⟨r, ⟨by omega, fun _ => hl⟩, fun W M hs h => body_sector W h 1 a t 513 r A3 c3 d (hC3 W M hs h) hc3 hr _⟩
      · exact ⟨d, ⟨hd3, fun h => absurd h hf⟩, fun W M hs h => body_copy W h 1 a t fl hf A3 c3 d (hC3 W M hs h) hc3 hd3 _⟩
    obtain ⟨⟨hbl, hb5⟩, hb⟩ := hb
    by_cases hi : 0 ≤ a ∧ a < (s.n : Int)
    · by_cases h5 : b.length = 512
      · obtain ⟨i, rfl⟩ : ∃ i : Nat, a = (i : Int) := ⟨a.toNat, by omega⟩
        have hi' : i < s.n := by omega
        refine (does_write gp g s (s.put i b) A1 c1 A2 c2 l1 l2 (l2 ++ [⟨(i : Int), b⟩]) w hS i t fl 0 _ _ b hb ⟨_, write_ev l1 l2 s.n i hi' s.r s.wr s.fl b h5 (by omega) _ (Nat.le_refl _)⟩ (fun W L A c h => ?_)).mono ?_
        · refine (Sep.write_own (.slice A b.length c) b h i hi' (by omega) h5).mono ?_
          rintro e w' ⟨he, h1⟩
          exact ⟨he, h1.drop⟩
        · rintro e w' ⟨he, A1', c1', A2', c2', h1⟩
          exact ⟨he, s.put i b, ⟨g, A1', c1', A2', c2', l1, _, h1, hR.put i hi' b h5, hn2, hnm, by rw [List.length_append, List.length_singleton]; omega, Nat.succ_le_succ hcB⟩, rfl, fun _ => .inr rfl, fun _ _ _ _ => rfl⟩
      · refine (does_write gp g s s A1 c1 A2 c2 l1 l2 l2 w hS a t fl 32 _ _ b hb ⟨_, write_sz l1 l2 s.n a s.r s.wr s.fl b hi h5 0⟩ (fun W L A c h => ?_)).mono ?_
        · refine (Sep.write_size h.drop a hi A b.length c h5 (by omega)).mono ?_
          rintro e w' ⟨he, rfl⟩
          exact ⟨he, h.drop⟩
        · rintro e w' ⟨he, A1', c1', A2', c2', h1⟩
          exact ⟨he, s, ⟨g, A1', c1', A2', c2', l1, l2, h1, hR, hn2, hnm, by omega, by omega⟩, rfl, fun _ => .inl rfl, fun _ h0 h1 h2 => absurd (hb5 h0) h5⟩
    · refine (does_write gp g s s A1 c1 A2 c2 l1 l2 l2 w hS a t fl 31 _ _ b hb ⟨_, write_no l1 l2 s.n a s.r s.wr s.fl b hi 0⟩ (fun W L A c h => ?_)).mono ?_
      · refine (Sep.write_none h.drop a hi A b.length c).mono ?_
        rintro e w' ⟨he, rfl⟩
        exact ⟨he, h.drop⟩
      · rintro e w' ⟨he, A1', c1', A2', c2', h1⟩
        exact ⟨he, s, ⟨g, A1', c1', A2', c2', l1, l2, h1, hR, hn2, hnm, by omega, by omega⟩, rfl, fun _ => .inl rfl, fun _ _ h1 h2 => absurd ⟨h1, h2⟩ hi⟩
  by_cases k2 : kd = 2
  · subst k2
    refine (does_flush gp g s A1 c1 A2 c2 l1 l2 w hS (by omega) (by omega) a t fl _ _).mono ?_
    rintro e w' ⟨he, A1', c1', A2', c2', h1⟩
    exact ⟨he, s.flush, ⟨g, A1', c1', A2', c2', _, [], h1, hR.flush, hn2, hnm, by have := flushR_len l1 l2; simp only [List.length_nil]; omega, Nat.zero_le _⟩, rfl, fun h => by omega, fun h => by omega⟩
  by_cases k3 : kd = 3
  · subst k3
    refine (does_crash gp g s A1 c1 A2 c2 l1 l2 w hS (by omega) (by omega) hR a t fl _ A5 c5 fs hC5 hc5).mono ?_
    rintro e w' ⟨he, A1', c1', A2', c2', h1⟩
    exact ⟨he, s.crash fs, ⟨g, A1', c1', A2', c2', _, [], h1, hR.crash fs, hn2, hnm, by have e1 := crashR_len l1 l2 fs s.keysI s.keysI.length; have e2 := wrt_len l2 l2.length; rw [hR.keys] at e2; simp only [List.length_nil]; omega, Nat.zero_le _⟩, rfl, fun h => by omega, fun h => by omega⟩
  by_cases k4 : kd = 4
  · subst k4
    by_cases hi : 0 ≤ a ∧ a < (s.n : Int)
    · by_cases hb : 0 ≤ t ∧ t < 4096
      · obtain ⟨i, rfl⟩ : ∃ i : Nat, a = (i : Int) := ⟨a.toNat, by omega⟩
        obtain ⟨bit, rfl⟩ : ∃ i : Nat, t = (i : Int) := ⟨t.toNat, by omega⟩
        refine (does_turn gp g s A1 c1 A2 c2 l1 l2 w hS (by omega) hR i (by omega) bit (by omega) fl _ _).mono ?_
        rintro e w' ⟨he, A1', c1', A2', c2', h1⟩
        exact ⟨he, s.turn i bit, ⟨g, A1', c1', A2', c2', _, _, h1, hR.turn i (by omega) bit, hn2, hnm, by have := putR_len l1 (i : Int) (flipL (bit / 8) (mskB (bit % 8)) (lastR l1 (i : Int))); have e2 : (turnR l2 (i : Int) bit).length = l2.length := List.length_map _; omega, Nat.le_succ_of_le hcB⟩, rfl, fun _ => .inl rfl, fun h => by omega⟩
      · refine (does_turn_ref gp g s A1 c1 A2 c2 l1 l2 w hS (by omega) a t 1 ⟨_, turn_bt l1 l2 s.n a t s.r s.wr s.fl hi (by omega) 0⟩ (fun W L h => Sep.turn_bit h a t hi (by omega)) fl _ _).mono ?_
        rintro e w' ⟨he, A1', c1', A2', c2', h1⟩
        exact ⟨he, s, ⟨g, A1', c1', A2', c2', l1, l2, h1, hR, hn2, hnm, by omega, by omega⟩, rfl, fun _ => .inl rfl, fun h => by omega⟩
    · refine (does_turn_ref gp g s A1 c1 A2 c2 l1 l2 w hS (by omega) a t 31 ⟨_, turn_no l1 l2 s.n a t s.r s.wr s.fl hi 0⟩ (fun W L h => Sep.turn_none h a t hi) fl _ _).mono ?_
      rintro e w' ⟨he, A1', c1', A2', c2', h1⟩
      exact ⟨he, s, ⟨g, A1', c1', A2', c2', l1, l2, h1, hR, hn2, hnm, by omega, by omega⟩, rfl, fun _ => .inl rfl, fun h => by omega⟩
  by_cases k5 : kd = 5
  · subst k5
    refine (does_image gp g s A1 c1 A2 c2 l1 l2 w hS (by omega) hR ⟨hn2, hnm⟩ a t fl _ _).mono ?_
    rintro e w' ⟨he, h1⟩
    exact ⟨he, s, ⟨g, A1, c1, A2, c2, l1, l2, h1, hR, hn2, hnm, by omega, by omega⟩, rfl, fun _ => .inl rfl, fun h => by omega⟩
  by_cases k6 : kd = 6
  · subst k6
    refine (does_sectors gp g s _ _ w hS a t fl _ _).mono ?_
    rintro e w' ⟨he, h1⟩
    exact ⟨he, s, ⟨g, A1, c1, A2, c2, l1, l2, hS.step h1, hR, hn2, hnm, by omega, by omega⟩, rfl, fun _ => .inl rfl, fun h => by omega⟩
  by_cases k7 : kd = 7
  · subst k7
    refine (does_load gp g s A1 c1 A2 c2 l1 l2 w hS (by omega) hR ⟨hn2, hnm⟩ a t fl _ _).mono ?_
    rintro e w' ⟨he, g', A1', c1', A2', c2', h1⟩
    have hg : ∀ i, i < s.L.length → (s.L.getD i []).length = 512 := fun i hi => by rw [← hR.hL i (by rw [← hR.len]; exact hi)]; exact lastR_len hR.e1 _
    have hr := Rl.load s.L hg
    rw [hR.len] at hr
    exact ⟨he, DS.fresh s.n s.L, ⟨g', A1', c1', A2', c2', _, [], h1, hr, hn2, hnm, by rw [ldR_len]; simp only [List.length_nil]; omega, Nat.zero_le _⟩, rfl, fun h => by omega, fun h => by omega⟩
  · refine (does_other _ kd (by omega) w a t fl _ _).mono ?_
    rintro e w' ⟨he, h1⟩
    exact ⟨he, s, ⟨g, A1, c1, A2, c2, l1, l2, hS.step h1, hR, hn2, hnm, by omega, by omega⟩, rfl, fun _ => .inl rfl, fun h => by omega⟩
end Go.Proofs.Ytddnhcnkjcdfgaa.M

namespace Go.Proofs.Ytddnhcnkjcdfgaa.M
open Go.RowKit Go.Maps Go.Proofs.YtddnhcnkjcdfgaaW.PrintWords Go.Proofs.YtddnhcnkjcdfgaaW.PrintLast Go.Proofs.YtddnhcnkjcdfgaaW.PrintMore
open Go.Proofs.Ytddnhcnkjcdfgaa.P hiding S106 k106 rd_T106 at_T106
open Go.Proofs.Ytddnhcnkjcdfgaa.R
set_option linter.unusedVariables false
set_option linter.unusedSimpArgs false
variable {w0 : World} {L : List Th}
theorem does_rd (gp : Nat) (s : DS) (B : Nat) (w : World) (h : PrS w0 w gp L s B) (hB2 : B ≤ 800000) (i : Nat) (hi : i < s.n) (t fl : Int) (dv fv : Value) :
    Calls Try.prog 38 #[.pointer (some ⟨gp, 0, none⟩), .agg #[.int .i64 0, .int .i64 (i : Int), .int .i64 t, dv, .int .i64 fl, fv]] w fun e w' => e = .returned (.bool true) ∧ PrS w0 w' gp L s.reads B := by
  obtain ⟨g, A1, c1, A2, c2, l1, l2, hS, hR, hn2, hnm, hlB, hcB⟩ := h
  refine (does_read gp g s A1 c1 A2 c2 l1 l2 w hS (by omega) hR i (by omega) t fl _ _).mono ?_
  rintro e w' ⟨he, A1', c1', A2', c2', h1⟩
  exact ⟨he, ⟨g, A1', c1', A2', c2', l1, l2, h1, hR.reads, hn2, hnm, by omega, hcB⟩⟩
def told1_T : Bool × List (List Nat × List Nat) := (true, [([], []), ([0], [0]), ([1], [1]), ([2], [2]), ([3], [3]), ([], []), ([5], [5]), ([6], [6]), ([7], [7]), ([8], [8]), ([4, 9], [4, 9]), ([10, 4], [10]), ([11], [11]), ([12, 11], [11, 12]), ([13, 11], [11, 13]), ([14, 11], [11, 14]), ([15, 11, 11], [11, 15]), ([11], [11]), ([17, 11], [11, 17]), ([18, 11], [11, 18]), ([19, 11], [11, 19]), ([20, 11], [11, 20]), ([16, 21, 11], [11, 16, 21]), ([11, 22], [11, 22]), ([23, 16], [23]), ([24], [24]), ([25, 24], [24, 25]), ([26, 24], [24, 26]), ([27, 24], [24, 27]), ([28, 24, 24], [24, 28]), ([24], [24]), ([30, 24], [24, 30]), ([31, 24], [24, 31]), ([32, 24], [24, 32]), ([33, 29, 24], [24, 33]), ([29, 34, 34, 24], [24, 29, 34]), ([35, 24], [24, 35]), ([24, 36], [24, 36])])
def told1_B : List Nat := [0, 1, 3, 7, 15, 0, 32, 96, 224, 480, 1023, 2047, 4095, 8191, 16383, 32767, 65535, 4095, 135167, 397311, 921599, 1970175, 4194303, 8388607, 16777215, 33554431, 67108863, 134217727, 268435455, 536870911, 33554431, 1107296255, 3254779903, 7549747199, 17179869183, 34359738367, 68719476735, 137438953471]
theorem told1_tab : rtab .any (opsOf Try.f39 1) = told1_T := by kernel_rfl
theorem told1_bits : waitsOk told1_T.2 told1_B = true := by kernel_rfl
def told8_T : Bool × List (List Nat × List Nat) := (true, [([], []), ([0], [0]), ([1], [1]), ([2], [2]), ([3], [3]), ([], []), ([5], [5]), ([6], [6]), ([7], [7]), ([8], [8]), ([4, 9], [4, 9]), ([10, 4, 0, 1, 2, 3, 4, 5, 6, 7, 8, 9, 10], [10])])
def told8_B : List Nat := [0, 1, 3, 7, 15, 0, 32, 96, 224, 480, 1023, 2047]
theorem told8_tab : rtab .any (opsOf Try.f39 8) = told8_T := by kernel_rfl
theorem told8_bits : waitsOk told8_T.2 told8_B = true := by kernel_rfl
set_option maxHeartbeats 8000000 in
set_option maxRecDepth 100000 in
theorem told_calls (gp : Nat) (s : DS) (B : Nat) (w : World) (h : PrS w0 w gp L s B) (hB2 : B ≤ 800000) :
    Calls Try.prog 39 #[.pointer (some ⟨gp, 0, none⟩)] w fun e w' => e = .returned (.bool true) ∧ ∃ s', PrS w0 w' gp L s' B := by
  obtain ⟨g, A1, c1, A2, c2, l1, l2, hS, hR, hn2, hnm, hlB, hcB⟩ := h
  have HS0 := Aside0.mk hS
  have HIM := Aside0.mk hR.image
  have HN := Aside0.mk (And.intro hn2 hnm)
  have HL1 := Aside0.mk (show l1.length ≤ 1000000000 by omega)
  have HLL := Aside0.mk (show s.L.length ≤ 1000000 by rw [hR.len]; omega)
  have HG := Aside0.mk (show ∀ j, j < l1.length → (∃ i : Nat, i < s.n ∧ (rd_T106 l1 (j : Int)).f0 = (i : Int)) ∧ (rd_T106 l1 (j : Int)).f1.length ≤ 1000000 from fun j hj => by
    rw [rd106 l1 j hj]
    obtain ⟨h1, h2⟩ := hR.e1 _ (List.getElem_mem hj)
    exact ⟨h1, by omega⟩)
  have HK := Aside0.mk (show ∀ W, Sep w0 W (cellsT gp (prC g s (.slice A1 l1.length c1) (.slice A2 l2.length c2)) 78 :: dkT g s :: refT (.slice A1 l1.length c1) (.slice A2 l2.length c2) l1 l2 :: L) → PrS w0 W gp L s B from fun W h => ⟨g, A1, c1, A2, c2, l1, l2, h, hR, hn2, hnm, hlB, hcB⟩)
  have HB2 := Aside0.mk hB2
  have hrr : (s.r == s.r) = true := beq_iff_eq.mpr rfl
  have hqq : (s.wr == s.wr) = true := beq_iff_eq.mpr rfl
  have hff : (s.fl == s.fl) = true := beq_iff_eq.mpr rfl
  have hnn : ((s.n : Int) != (s.n : Int)) = false := by simp
  clear hS hR hlB hcB hB2
  go_enter Try.func39, Try.ntmps39
  go_upto_region 1 with (fail)
  have HS1 := Aside0.mk (HS0.out.step (below_drew1 (Below.refl w.heap.size w)))
  refine start_ (n := 38) (S := fun W => W.cell? ⟨gp, 0, none⟩ = some (.pointer (some ⟨g, 0, none⟩)) ∧ W.cell? ⟨gp, 1, none⟩ = some (.int .i64 (s.n : Int)) ∧ W.cell? ⟨gp, 2, none⟩ = some (.slice A1 l1.length c1) ∧ W.cell? ⟨gp, 3, none⟩ = some (.slice A2 l2.length c2) ∧ W.cell? ⟨gp, 4, none⟩ = some (.int .i64 s.r) ∧ W.cell? ⟨gp, 5, none⟩ = some (.int .i64 s.wr) ∧ W.cell? ⟨gp, 6, none⟩ = some (.int .i64 s.fl)) (ds := [35]) (bb 38 0) (by kernel_rfl) rfl rfl ((pr_held0 HS1.out)) (fun hHeld => ?_); refine with_tabW told1_tab told1_bits (fun HT_ HW_ => ?_)
  generalize w.drew = wd at hHeld HS1 ⊢
  refine pure_ (i := 0) (N := (some 4)) (v := ?_) (a' := ?_) (bb 38 1) rfl rfl (any_of HT_.out (by kernel_rfl)) (fun _ _ _ h => h) (Or.inl ⟨by rfl, ?_⟩) ?_ ?_
  rotate_left
  · intro w'
    go_simp
    with_reducible rfl
  rotate_left
  · simp only [Act.put, List.setIfInBounds_toArray, List.set_cons_zero, List.set_cons_succ, i64_w, i32_w]
    rfl
  refine pure_ (i := 1) (N := (some 5)) (v := ?_) (a' := ?_) (bb 38 3) rfl rfl (any_of HT_.out (by kernel_rfl)) (fun _ _ _ h => h) (Or.inl ⟨by rfl, ?_⟩) ?_ ?_
  rotate_left
  · intro w'
    go_simp
    with_reducible rfl
  rotate_left
  · simp only [Act.put, List.setIfInBounds_toArray, List.set_cons_zero, List.set_cons_succ, i64_w, i32_w]
    rfl
  refine pure_ (i := 2) (N := (some 6)) (v := ?_) (a' := ?_) (bb 38 7) rfl rfl (any_of HT_.out (by kernel_rfl)) (fun _ _ _ h => h) (Or.inl ⟨by rfl, ?_⟩) ?_ ?_
  rotate_left
  · intro w'
    go_simp
    with_reducible rfl
  rotate_left
  · simp only [Act.put, List.setIfInBounds_toArray, List.set_cons_zero, List.set_cons_succ, i64_w, i32_w]
    rfl
  refine take_ (i := 3) (N := (some 7)) (v := ?_) (a' := ?_) (bb 38 15) rfl rfl (take_ofW HT_.out HW_.out (by kernel_rfl)) (fun _ _ _ h => h) (Or.inl ⟨by rfl, ?_⟩) hHeld ?_ ?_
  rotate_left
  · intro w' s0
    (try dsimp only at s0)
    go_simp
    with_reducible rfl
  rotate_left
  · simp only [Act.put, List.setIfInBounds_toArray, List.set_cons_zero, List.set_cons_succ, i64_w, i32_w]
    rfl
  refine pure_ (i := 5) (N := (some 9)) (v := ?_) (a' := ?_) (bb 38 47) rfl rfl (any_of HT_.out (by kernel_rfl)) (fun _ _ _ h => h) (Or.inl ⟨by rfl, ?_⟩) ?_ ?_
  rotate_left
  · intro w'
    go_simp
    with_reducible rfl
  rotate_left
  · simp only [Act.put, List.setIfInBounds_toArray, List.set_cons_zero, List.set_cons_succ, i64_w, i32_w]
    rfl
  refine pure_ (i := 6) (N := (some 10)) (v := ?_) (a' := ?_) (bb 38 111) rfl rfl (any_of HT_.out (by kernel_rfl)) (fun _ _ _ h => h) (Or.inl ⟨by rfl, ?_⟩) ?_ ?_
  rotate_left
  · intro w'
    go_simp
    with_reducible rfl
  rotate_left
  · simp only [Act.put, List.setIfInBounds_toArray, List.set_cons_zero, List.set_cons_succ, i64_w, i32_w]
    rfl
  refine pure_ (i := 7) (N := (some 11)) (v := ?_) (a' := ?_) (bb 38 239) rfl rfl (any_of HT_.out (by kernel_rfl)) (fun _ _ _ h => h) (Or.inl ⟨by rfl, ?_⟩) ?_ ?_
  rotate_left
  · intro w'
    go_simp
    with_reducible rfl
  rotate_left
  · simp only [Act.put, List.setIfInBounds_toArray, List.set_cons_zero, List.set_cons_succ, i64_w, i32_w]
    rfl
  refine pure_ (i := 8) (N := (some 12)) (v := ?_) (a' := ?_) (bb 38 495) rfl rfl (any_of HT_.out (by kernel_rfl)) (fun _ _ _ h => h) (Or.inl ⟨by rfl, ?_⟩) ?_ ?_
  rotate_left
  · intro w'
    go_simp
    with_reducible rfl
  rotate_left
  · simp only [Act.put, List.setIfInBounds_toArray, List.set_cons_zero, List.set_cons_succ, i64_w, i32_w]
    rfl
  refine take_ (i := 9) (N := (some 13)) (v := ?_) (a' := ?_) (bb 38 1007) rfl rfl (take_ofW HT_.out HW_.out (by kernel_rfl)) (fun _ _ _ h => h) (Or.inl ⟨by rfl, ?_⟩) hHeld ?_ ?_
  rotate_left
  · intro w' s0
    (try dsimp only at s0)
    go_simp
    with_reducible rfl
  rotate_left
  · simp only [Act.put, List.setIfInBounds_toArray, List.set_cons_zero, List.set_cons_succ, i64_w, i32_w]
    rfl
  refine one_ (i := 4) (N := (some 8)) (bb 38 1023) rfl rfl (one_of HT_.out (by kernel_rfl)) (by decide) (fun K hK => ?_)
  refine goes_ Try.func35 (by kernel_rfl) rfl #[.pointer (some ⟨g, 0, none⟩)] (by rfl) rfl rfl (by (try simp only [List.map_toArray, List.map_cons, List.map_nil]); first | done | rfl) ?_
  with_reducible refine (Sep.acts HS1.out.up1).mono ?_
  rintro e w2 ⟨rfl, h⟩
  have HS2 := Aside0.mk h.up1
  clear h
  refine ⟨_, rfl, ?_⟩
  refine hK.out _ _ (pr_held0 HS2.out) (fun hHeld => ?_)
  clear hK K
  refine norm_ (a' := ?_) ?_ ?_
  rotate_left
  · show Act.put _ (some 8) _ = _
    simp only [Act.put, List.setIfInBounds_toArray, List.set_cons_zero, List.set_cons_succ, i64_w, i32_w]
    rfl
  refine pure_ (i := 10) (N := (some 14)) (v := ?_) (a' := ?_) (bb 38 2047) rfl rfl (any_of HT_.out (by kernel_rfl)) (fun _ _ _ h => h) (Or.inl ⟨by rfl, ?_⟩) ?_ ?_
  rotate_left
  · intro w'
    go_simp
    with_reducible rfl
  rotate_left
  · simp only [Act.put, List.setIfInBounds_toArray, List.set_cons_zero, List.set_cons_succ, i64_w, i32_w]
    rfl
  refine pure_ (i := 11) (N := (some 15)) (v := ?_) (a' := ?_) (bb 38 4095) rfl rfl (any_of HT_.out (by kernel_rfl)) (fun _ _ _ h => h) (Or.inl ⟨by rfl, ?_⟩) ?_ ?_
  rotate_left
  · intro w'
    go_simp
    with_reducible rfl
  rotate_left
  · simp only [Act.put, List.setIfInBounds_toArray, List.set_cons_zero, List.set_cons_succ, i64_w, i32_w]
    rfl
  refine pure_ (i := 12) (N := (some 16)) (v := ?_) (a' := ?_) (bb 38 8191) rfl rfl (any_of HT_.out (by kernel_rfl)) (fun _ _ _ h => h) (Or.inl ⟨by rfl, ?_⟩) ?_ ?_
  rotate_left
  · intro w'
    go_simp
    with_reducible rfl
  rotate_left
  · simp only [Act.put, List.setIfInBounds_toArray, List.set_cons_zero, List.set_cons_succ, i64_w, i32_w]
    rfl
  refine pure_ (i := 13) (N := (some 17)) (v := ?_) (a' := ?_) (bb 38 16383) rfl rfl (any_of HT_.out (by kernel_rfl)) (fun _ _ _ h => h) (Or.inl ⟨by rfl, ?_⟩) ?_ ?_
  rotate_left
  · intro w'
    go_simp
    with_reducible rfl
  rotate_left
  · simp only [Act.put, List.setIfInBounds_toArray, List.set_cons_zero, List.set_cons_succ, i64_w, i32_w]
    rfl
  refine pure_ (i := 14) (N := (some 18)) (v := ?_) (a' := ?_) (bb 38 32767) rfl rfl (any_of HT_.out (by kernel_rfl)) (fun _ _ _ h => h) (Or.inl ⟨by rfl, ?_⟩) ?_ ?_
  rotate_left
  · intro w'
    go_simp
    with_reducible rfl
  rotate_left
  · simp only [Act.put, List.setIfInBounds_toArray, List.set_cons_zero, List.set_cons_succ, i64_w, i32_w]
    rfl
  refine take_ (i := 15) (N := (some 19)) (v := ?_) (a' := ?_) (bb 38 65535) rfl rfl (take_ofW HT_.out HW_.out (by kernel_rfl)) (fun _ _ _ h => h) (Or.inl ⟨by rfl, ?_⟩) hHeld ?_ ?_
  rotate_left
  · intro w' s0
    (try dsimp only at s0)
    go_simp
    with_reducible rfl
  rotate_left
  · simp only [Act.put, List.setIfInBounds_toArray, List.set_cons_zero, List.set_cons_succ, i64_w, i32_w]
    rfl
  refine pure_ (i := 17) (N := (some 21)) (v := ?_) (a' := ?_) (bb 38 196607) rfl rfl (any_of HT_.out (by kernel_rfl)) (fun _ _ _ h => h) (Or.inl ⟨by rfl, ?_⟩) ?_ ?_
  rotate_left
  · intro w'
    go_simp
    with_reducible rfl
  rotate_left
  · simp only [Act.put, List.setIfInBounds_toArray, List.set_cons_zero, List.set_cons_succ, i64_w, i32_w]
    rfl
  refine pure_ (i := 18) (N := (some 22)) (v := ?_) (a' := ?_) (bb 38 458751) rfl rfl (any_of HT_.out (by kernel_rfl)) (fun _ _ _ h => h) (Or.inl ⟨by rfl, ?_⟩) ?_ ?_
  rotate_left
  · intro w'
    go_simp
    with_reducible rfl
  rotate_left
  · simp only [Act.put, List.setIfInBounds_toArray, List.set_cons_zero, List.set_cons_succ, i64_w, i32_w]
    rfl
  refine pure_ (i := 19) (N := (some 23)) (v := ?_) (a' := ?_) (bb 38 983039) rfl rfl (any_of HT_.out (by kernel_rfl)) (fun _ _ _ h => h) (Or.inl ⟨by rfl, ?_⟩) ?_ ?_
  rotate_left
  · intro w'
    go_simp
    with_reducible rfl
  rotate_left
  · simp only [Act.put, List.setIfInBounds_toArray, List.set_cons_zero, List.set_cons_succ, i64_w, i32_w]
    rfl
  refine pure_ (i := 20) (N := (some 24)) (v := ?_) (a' := ?_) (bb 38 2031615) rfl rfl (any_of HT_.out (by kernel_rfl)) (fun _ _ _ h => h) (Or.inl ⟨by rfl, ?_⟩) ?_ ?_
  rotate_left
  · intro w'
    go_simp
    with_reducible rfl
  rotate_left
  · simp only [Act.put, List.setIfInBounds_toArray, List.set_cons_zero, List.set_cons_succ, i64_w, i32_w]
    rfl
  refine take_ (i := 21) (N := (some 25)) (v := ?_) (a' := ?_) (bb 38 4128767) rfl rfl (take_ofW HT_.out HW_.out (by kernel_rfl)) (fun _ _ _ h => h) (Or.inl ⟨by rfl, ?_⟩) hHeld ?_ ?_
  rotate_left
  · intro w' s0
    (try dsimp only at s0)
    go_simp
    with_reducible rfl
  rotate_left
  · simp only [Act.put, List.setIfInBounds_toArray, List.set_cons_zero, List.set_cons_succ, i64_w, i32_w]
    rfl
  refine one_ (i := 16) (N := (some 20)) (bb 38 4194303) rfl rfl (one_of HT_.out (by kernel_rfl)) (by decide) (fun K hK => ?_)
  refine goes_ Try.func29 (by kernel_rfl) rfl #[.pointer (some ⟨g, 0, none⟩)] (by rfl) rfl rfl (by (try simp only [List.map_toArray, List.map_cons, List.map_nil]); first | done | rfl) ?_
  with_reducible refine (Sep.sectors HS2.out.up1).mono ?_
  rintro e w3 ⟨rfl, hw⟩
  obtain rfl : w2 = w3 := hw.symm
  clear hw
  refine ⟨_, rfl, ?_⟩
  refine hK.out _ _ (hHeld) (fun hHeld => ?_)
  clear hK K
  refine norm_ (a' := ?_) ?_ ?_
  rotate_left
  · show Act.put _ (some 20) _ = _
    simp only [Act.put, List.setIfInBounds_toArray, List.set_cons_zero, List.set_cons_succ, i64_w, i32_w]
    rfl
  refine pure_ (i := 22) (N := (some 26)) (v := ?_) (a' := ?_) (bb 38 8388607) rfl rfl (any_of HT_.out (by kernel_rfl)) (fun _ _ _ h => h) (Or.inl ⟨by rfl, ?_⟩) ?_ ?_
  rotate_left
  · intro w'
    go_simp
    with_reducible rfl
  rotate_left
  · simp only [Act.put, List.setIfInBounds_toArray, List.set_cons_zero, List.set_cons_succ, i64_w, i32_w]
    rfl
  refine pure_ (i := 23) (N := (some 27)) (v := ?_) (a' := ?_) (bb 38 16777215) rfl rfl (any_of HT_.out (by kernel_rfl)) (fun _ _ _ h => h) (Or.inl ⟨by rfl, ?_⟩) ?_ ?_
  rotate_left
  · intro w'
    go_simp
    with_reducible rfl
  rotate_left
  · simp only [Act.put, List.setIfInBounds_toArray, List.set_cons_zero, List.set_cons_succ, i64_w, i32_w]
    rfl
  refine pure_ (i := 24) (N := (some 28)) (v := ?_) (a' := ?_) (bb 38 33554431) rfl rfl (any_of HT_.out (by kernel_rfl)) (fun _ _ _ h => h) (Or.inl ⟨by rfl, ?_⟩) ?_ ?_
  rotate_left
  · intro w'
    go_simp
    with_reducible rfl
  rotate_left
  · simp only [Act.put, List.setIfInBounds_toArray, List.set_cons_zero, List.set_cons_succ, i64_w, i32_w]
    rfl
  refine pure_ (i := 25) (N := (some 29)) (v := ?_) (a' := ?_) (bb 38 67108863) rfl rfl (any_of HT_.out (by kernel_rfl)) (fun _ _ _ h => h) (Or.inl ⟨by rfl, ?_⟩) ?_ ?_
  rotate_left
  · intro w'
    go_simp
    with_reducible rfl
  rotate_left
  · simp only [Act.put, List.setIfInBounds_toArray, List.set_cons_zero, List.set_cons_succ, i64_w, i32_w]
    rfl
  refine pure_ (i := 26) (N := (some 30)) (v := ?_) (a' := ?_) (bb 38 134217727) rfl rfl (any_of HT_.out (by kernel_rfl)) (fun _ _ _ h => h) (Or.inl ⟨by rfl, ?_⟩) ?_ ?_
  rotate_left
  · intro w'
    go_simp
    with_reducible rfl
  rotate_left
  · simp only [Act.put, List.setIfInBounds_toArray, List.set_cons_zero, List.set_cons_succ, i64_w, i32_w]
    rfl
  refine pure_ (i := 27) (N := (some 31)) (v := ?_) (a' := ?_) (bb 38 268435455) rfl rfl (any_of HT_.out (by kernel_rfl)) (fun _ _ _ h => h) (Or.inl ⟨by rfl, ?_⟩) ?_ ?_
  rotate_left
  · intro w'
    go_simp
    with_reducible rfl
  rotate_left
  · simp only [Act.put, List.setIfInBounds_toArray, List.set_cons_zero, List.set_cons_succ, i64_w, i32_w]
    rfl
  refine take_ (i := 28) (N := (some 32)) (v := ?_) (a' := ?_) (bb 38 536870911) rfl rfl (take_ofW HT_.out HW_.out (by kernel_rfl)) (fun _ _ _ h => h) (Or.inl ⟨by rfl, ?_⟩) hHeld ?_ ?_
  rotate_left
  · intro w' s0
    (try dsimp only at s0)
    go_simp
    with_reducible rfl
  rotate_left
  · simp only [Act.put, List.setIfInBounds_toArray, List.set_cons_zero, List.set_cons_succ, i64_w, i32_w]
    rfl
  refine pure_ (i := 30) (N := (some 34)) (v := ?_) (a' := ?_) (bb 38 1610612735) rfl rfl (any_of HT_.out (by kernel_rfl)) (fun _ _ _ h => h) (Or.inl ⟨by rfl, ?_⟩) ?_ ?_
  rotate_left
  · intro w'
    go_simp
    with_reducible rfl
  rotate_left
  · simp only [Act.put, List.setIfInBounds_toArray, List.set_cons_zero, List.set_cons_succ, i64_w, i32_w]
    rfl
  refine pure_ (i := 31) (N := (some 35)) (v := ?_) (a' := ?_) (bb 38 3758096383) rfl rfl (any_of HT_.out (by kernel_rfl)) (fun _ _ _ h => h) (Or.inl ⟨by rfl, ?_⟩) ?_ ?_
  rotate_left
  · intro w'
    go_simp
    with_reducible rfl
  rotate_left
  · simp only [Act.put, List.setIfInBounds_toArray, List.set_cons_zero, List.set_cons_succ, i64_w, i32_w]
    rfl
  refine pure_ (i := 32) (N := (some 36)) (v := ?_) (a' := ?_) (bb 38 8053063679) rfl rfl (any_of HT_.out (by kernel_rfl)) (fun _ _ _ h => h) (Or.inl ⟨by rfl, ?_⟩) ?_ ?_
  rotate_left
  · intro w'
    go_simp
    with_reducible rfl
  rotate_left
  · simp only [Act.put, List.setIfInBounds_toArray, List.set_cons_zero, List.set_cons_succ, i64_w, i32_w]
    rfl
  refine take_ (i := 33) (N := (some 37)) (v := ?_) (a' := ?_) (bb 38 16642998271) rfl rfl (take_ofW HT_.out HW_.out (by kernel_rfl)) (fun _ _ _ h => h) (Or.inl ⟨by rfl, ?_⟩) hHeld ?_ ?_
  rotate_left
  · intro w' s0
    (try dsimp only at s0)
    go_simp
    with_reducible rfl
  rotate_left
  · simp only [Act.put, List.setIfInBounds_toArray, List.set_cons_zero, List.set_cons_succ, i64_w, i32_w]
    rfl
  refine one_ (i := 29) (N := (some 33)) (bb 38 17179869183) rfl rfl (one_of HT_.out (by kernel_rfl)) (by decide) (fun K hK => ?_)
  refine goes_ Try.func26 (by kernel_rfl) rfl #[.pointer (some ⟨g, 0, none⟩)] (by rfl) rfl rfl (by (try simp only [List.map_toArray, List.map_cons, List.map_nil]); first | done | rfl) ?_
  with_reducible refine (Sep.image HS2.out.up1).mono ?_
  rintro e w3 ⟨go, c, rfl, h⟩
  have HS3 := Aside0.mk h
  clear h
  refine ⟨_, rfl, ?_⟩
  refine hK.out _ _ (pr_held0 HS3.out.up2) (fun hHeld => ?_)
  clear hK K
  refine norm_ (a' := ?_) ?_ ?_
  rotate_left
  · show Act.put _ (some 33) _ = _
    simp only [Act.put, List.setIfInBounds_toArray, List.set_cons_zero, List.set_cons_succ, i64_w, i32_w]
    rfl
  refine one_ (i := 34) (N := (some 38)) (bb 38 34359738367) rfl rfl (one_of HT_.out (by kernel_rfl)) (by decide) (fun K hK => ?_)
  refine goes_ Try.func54 (by kernel_rfl) rfl #[.agg #[.int .i64 (s.n : Int), .slice A1 l1.length c1, .slice A2 l2.length c2, .int .i64 s.r, .int .i64 s.wr, .int .i64 s.fl]] (by rfl) rfl rfl (by (try simp only [List.map_toArray, List.map_cons, List.map_nil]); first | done | rfl) ?_
  with_reducible refine (rImage_calls A1 c1 l1 A2 l2.length c2 s.n s.r s.wr s.fl w3 HS3.out.up3.ref_C.1 HS3.out.up3.ref_C.2.1 HN.out.1 HN.out.2 HL1.out HG.out).mono ?_
  rintro e w4 ⟨go2, c5, rfl, h⟩
  have HS4 := Aside0.mk (HS3.out.nest h)
  clear h
  rw [HIM.out] at HS4
  refine ⟨_, rfl, ?_⟩
  refine hK.out _ _ (pr_held0 HS4.out.up3) (fun hHeld => ?_)
  clear hK K
  refine norm_ (a' := ?_) ?_ ?_
  rotate_left
  · show Act.put _ (some 38) _ = _
    simp only [Act.put, List.setIfInBounds_toArray, List.set_cons_zero, List.set_cons_succ, i64_w, i32_w]
    rfl
  refine last_ (i := 35) (N := (some 39)) (bb 38 68719476735) rfl rfl (one_of HT_.out (by kernel_rfl)) (by decide) (fun K hK => ?_)
  refine goes_ Try.func36 (by kernel_rfl) rfl #[.slice (some ⟨go, 0, none⟩) s.n c, .slice (some ⟨go2, 0, none⟩) s.n c5] (by rfl) rfl rfl (by (try simp only [List.map_toArray, List.map_cons, List.map_nil]); first | done | rfl) ?_
  with_reducible refine (same_calls (HS4.out.up1.rows_own) HS4.out s.L.length (same_ok _ HLL.out)).mono ?_
  rintro e w5 ⟨rfl, hd⟩
  have HB5 := Aside0.mk hd
  clear hd
  refine ⟨_, rfl, ?_⟩
  refine hK.out _ _ ?_
  clear hK K
  refine norm_ (a' := ?_) ?_ ?_
  rotate_left
  · show Act.put _ (some 39) _ = _
    simp only [Act.put, List.setIfInBounds_toArray, List.set_cons_zero, List.set_cons_succ, i64_w, i32_w]
    rfl
  refine pure_ (i := 36) (N := (some 40)) (v := ?_) (a' := ?_) (bb 38 137438953471) rfl rfl (any_of HT_.out (by kernel_rfl)) (fun _ _ _ h => h) (Or.inl ⟨by rfl, ?_⟩) ?_ ?_
  rotate_left
  · intro w'
    go_simp
    with_reducible rfl
  rotate_left
  · simp only [Act.put, List.setIfInBounds_toArray, List.set_cons_zero, List.set_cons_succ, i64_w, i32_w]
    rfl
  refine pure_ (i := 37) (N := (some 41)) (v := ?_) (a' := ?_) (bb 38 274877906943) rfl rfl (any_of HT_.out (by kernel_rfl)) (fun _ _ _ h => h) (Or.inl ⟨by rfl, ?_⟩) ?_ ?_
  rotate_left
  · intro w'
    go_simp
    with_reducible rfl
  rotate_left
  · simp only [Act.put, List.setIfInBounds_toArray, List.set_cons_zero, List.set_cons_succ, i64_w, i32_w]
    rfl
  refine done_ (done_of HT_.out (by kernel_rfl)) ?_
  have HP0 := Aside0.mk (HK.out _ ((HS4.out.step (show Below w4.heap.size w4 w5 from by obtain ⟨nd, rfl⟩ := HB5.out; exact pw_below_drewN (Below.refl _ _) nd)).drop.drop.up1))
  clear HS0 HS1 HS2 HS3 HS4 HB5 HIM HL1 HLL HG HK hrr hqq hff hnn
  go_wp2
  go_loopg [3] s.n (fun kq v3 wr => ∃ (i : Nat) (s' : DS), v3 = .int .i64 i ∧ Aside0 (i + kq = s.n) ∧ Aside0 (s'.n = s.n) ∧ Aside0 (PrS w0 wr gp L s' B))
  case atStart => exact ⟨0, s, rfl, ⟨Nat.zero_add _⟩, ⟨rfl⟩, HP0⟩
  case round =>
    obtain ⟨i, s', rfl, HJ, HSN, HP⟩ := hrel
    obtain ⟨g', A1', c1', A2', c2', l1', l2', hS, hrest⟩ := HP.out
    have hp1 : wr.cell? ⟨gp, 1, none⟩ = some (.int .i64 (s'.n : Int)) := blk_cell hS.cells.1 1
    rw [HSN.out] at hp1
    by_cases hj : i < s.n
    · have HRD := Aside0.mk (does_rd gp s' B wr HP.out HB2.out i (by rw [HSN.out]; exact hj) 0 0 (.slice none 0 0) (.slice none 0 0))
      have hjb : decide (i < s.n) = true := decide_eq_true hj
      have HJ2 := Aside0.mk hj
      clear hS hrest hj
      go_wp2_with (go_at_call 38; (with_reducible refine HRD.out.mono ?_); rintro e w8 ⟨rfl, h⟩; have HP8 := Aside0.mk h; clear h)
      go_roundg (gk - 1)
      case measure => have := HJ.out; have := HJ2.out; omega
      case rel => exact ⟨i + 1, s'.reads, (by have hi_ := HJ2.out; have hl_ := HN.out; first | rfl | (simp; done) | (rw [show wrap64 ((i : Int) + 1) = (i : Int) + 1 from by unfold wrap64; omega]; rfl)), ⟨by have := HJ.out; have := HJ2.out; omega⟩, ⟨HSN.out⟩, HP8⟩
    · have hjb : decide (i < s.n) = false := decide_eq_false hj
      have HS6 := Aside0.mk (hS.step (below_drew1 (Below.refl wr.heap.size wr)))
      have HK := Aside0.mk (show ∀ W, Sep w0 W (cellsT gp (prC g' s' (.slice A1' l1'.length c1') (.slice A2' l2'.length c2')) 78 :: dkT g' s' :: refT (.slice A1' l1'.length c1') (.slice A2' l2'.length c2') l1' l2' :: L) → PrS w0 W gp L s' B from fun W h => ⟨g', A1', c1', A2', c2', l1', l2', h, hrest⟩)
      have hrr : (s'.r == s'.r) = true := beq_iff_eq.mpr rfl
      have hqq : (s'.wr == s'.wr) = true := beq_iff_eq.mpr rfl
      have hff : (s'.fl == s'.fl) = true := beq_iff_eq.mpr rfl
      clear hS hrest HP HP0 HB2 hj
      go_upto_region 8 with (fail)
      refine start_ (n := 12) (S := fun W => W.cell? ⟨gp, 0, none⟩ = some (.pointer (some ⟨g', 0, none⟩)) ∧ W.cell? ⟨gp, 4, none⟩ = some (.int .i64 s'.r) ∧ W.cell? ⟨gp, 5, none⟩ = some (.int .i64 s'.wr) ∧ W.cell? ⟨gp, 6, none⟩ = some (.int .i64 s'.fl)) (ds := [11]) (bb 12 0) (by kernel_rfl) rfl rfl ((let h := pr_held0 HS6.out; ⟨h.1, h.2.2.2.2.1, h.2.2.2.2.2.1, h.2.2.2.2.2.2⟩)) (fun hHeld => ?_); refine with_tabW told8_tab told8_bits (fun HT_ HW_ => ?_)
      generalize wr.drew = wd8 at hHeld HS6 ⊢
      refine pure_ (i := 0) (N := (some 56)) (v := ?_) (a' := ?_) (bb 12 1) rfl rfl (any_of HT_.out (by kernel_rfl)) (fun _ _ _ h => h) (Or.inl ⟨by rfl, ?_⟩) ?_ ?_
      rotate_left
      · intro w'
        go_simp
        with_reducible rfl
      rotate_left
      · simp only [Act.put, List.setIfInBounds_toArray, List.set_cons_zero, List.set_cons_succ, i64_w, i32_w]
        rfl
      refine pure_ (i := 1) (N := (some 57)) (v := ?_) (a' := ?_) (bb 12 3) rfl rfl (any_of HT_.out (by kernel_rfl)) (fun _ _ _ h => h) (Or.inl ⟨by rfl, ?_⟩) ?_ ?_
      rotate_left
      · intro w'
        go_simp
        with_reducible rfl
      rotate_left
      · simp only [Act.put, List.setIfInBounds_toArray, List.set_cons_zero, List.set_cons_succ, i64_w, i32_w]
        rfl
      refine pure_ (i := 2) (N := (some 58)) (v := ?_) (a' := ?_) (bb 12 7) rfl rfl (any_of HT_.out (by kernel_rfl)) (fun _ _ _ h => h) (Or.inl ⟨by rfl, ?_⟩) ?_ ?_
      rotate_left
      · intro w'
        go_simp
        with_reducible rfl
      rotate_left
      · simp only [Act.put, List.setIfInBounds_toArray, List.set_cons_zero, List.set_cons_succ, i64_w, i32_w]
        rfl
      refine take_ (i := 3) (N := (some 59)) (v := ?_) (a' := ?_) (bb 12 15) rfl rfl (take_ofW HT_.out HW_.out (by kernel_rfl)) (fun _ _ _ h => h) (Or.inl ⟨by rfl, ?_⟩) hHeld ?_ ?_
      rotate_left
      · intro w' s0
        (try dsimp only at s0)
        go_simp
        with_reducible rfl
      rotate_left
      · simp only [Act.put, List.setIfInBounds_toArray, List.set_cons_zero, List.set_cons_succ, i64_w, i32_w]
        rfl
      refine pure_ (i := 5) (N := (some 61)) (v := ?_) (a' := ?_) (bb 12 47) rfl rfl (any_of HT_.out (by kernel_rfl)) (fun _ _ _ h => h) (Or.inl ⟨by rfl, ?_⟩) ?_ ?_
      rotate_left
      · intro w'
        go_simp
        with_reducible rfl
      rotate_left
      · simp only [Act.put, List.setIfInBounds_toArray, List.set_cons_zero, List.set_cons_succ, i64_w, i32_w]
        rfl
      refine pure_ (i := 6) (N := (some 62)) (v := ?_) (a' := ?_) (bb 12 111) rfl rfl (any_of HT_.out (by kernel_rfl)) (fun _ _ _ h => h) (Or.inl ⟨by rfl, ?_⟩) ?_ ?_
      rotate_left
      · intro w'
        go_simp
        with_reducible rfl
      rotate_left
      · simp only [Act.put, List.setIfInBounds_toArray, List.set_cons_zero, List.set_cons_succ, i64_w, i32_w]
        rfl
      refine pure_ (i := 7) (N := (some 63)) (v := ?_) (a' := ?_) (bb 12 239) rfl rfl (any_of HT_.out (by kernel_rfl)) (fun _ _ _ h => h) (Or.inl ⟨by rfl, ?_⟩) ?_ ?_
      rotate_left
      · intro w'
        go_simp
        with_reducible rfl
      rotate_left
      · simp only [Act.put, List.setIfInBounds_toArray, List.set_cons_zero, List.set_cons_succ, i64_w, i32_w]
        rfl
      refine pure_ (i := 8) (N := (some 64)) (v := ?_) (a' := ?_) (bb 12 495) rfl rfl (any_of HT_.out (by kernel_rfl)) (fun _ _ _ h => h) (Or.inl ⟨by rfl, ?_⟩) ?_ ?_
      rotate_left
      · intro w'
        go_simp
        with_reducible rfl
      rotate_left
      · simp only [Act.put, List.setIfInBounds_toArray, List.set_cons_zero, List.set_cons_succ, i64_w, i32_w]
        rfl
      refine take_ (i := 9) (N := (some 65)) (v := ?_) (a' := ?_) (bb 12 1007) rfl rfl (take_ofW HT_.out HW_.out (by kernel_rfl)) (fun _ _ _ h => h) (Or.inl ⟨by rfl, ?_⟩) hHeld ?_ ?_
      rotate_left
      · intro w' s0
        (try dsimp only at s0)
        go_simp
        with_reducible rfl
      rotate_left
      · simp only [Act.put, List.setIfInBounds_toArray, List.set_cons_zero, List.set_cons_succ, i64_w, i32_w]
        rfl
      refine one_ (i := 4) (N := (some 60)) (bb 12 1023) rfl rfl (one_of HT_.out (by kernel_rfl)) (by decide) (fun K hK => ?_)
      refine goes_ Try.func35 (by kernel_rfl) rfl #[.pointer (some ⟨g', 0, none⟩)] (by rfl) rfl rfl (by (try simp only [List.map_toArray, List.map_cons, List.map_nil]); first | done | rfl) ?_
      with_reducible refine (Sep.acts HS6.out.up1).mono ?_
      rintro e w7 ⟨rfl, h⟩
      have HS7 := Aside0.mk h
      clear h
      refine ⟨_, rfl, ?_⟩
      refine hK.out _ _ ((let h := pr_held0 HS7.out.up1; ⟨h.1, h.2.2.2.2.1, h.2.2.2.2.2.1, h.2.2.2.2.2.2⟩)) (fun hHeld => ?_)
      clear hK K
      refine norm_ (a' := ?_) ?_ ?_
      rotate_left
      · show Act.put _ (some 60) _ = _
        simp only [Act.put, List.setIfInBounds_toArray, List.set_cons_zero, List.set_cons_succ, i64_w, i32_w]
        rfl
      refine pure_ (i := 10) (N := (some 66)) (v := ?_) (a' := ?_) (bb 12 2047) rfl rfl (any_of HT_.out (by kernel_rfl)) (fun _ _ _ h => h) (Or.inl ⟨by rfl, ?_⟩) ?_ ?_
      rotate_left
      · intro w'
        go_simp
        with_reducible rfl
      rotate_left
      · simp only [Act.put, List.setIfInBounds_toArray, List.set_cons_zero, List.set_cons_succ, i64_w, i32_w]
        rfl
      refine pure_ (i := 11) (N := (some 2)) (v := ?_) (a' := ?_) (bb 12 4095) rfl rfl (any_of HT_.out (by kernel_rfl)) (fun _ _ _ h => h) (Or.inl ⟨by rfl, ?_⟩) ?_ ?_
      rotate_left
      · intro w'
        go_simp
        with_reducible rfl
      rotate_left
      · simp only [Act.put, List.setIfInBounds_toArray, List.set_cons_zero, List.set_cons_succ, i64_w, i32_w]
        rfl
      refine done_ (done_of HT_.out (by kernel_rfl)) ?_
      go_wp2
      go_ret
      exact ⟨by simp, s', HK.out _ HS7.out.up1⟩
end Go.Proofs.Ytddnhcnkjcdfgaa.M

namespace Go.Proofs.Ytddnhcnkjcdfgaa.BulkW
open Go.ChangeShapes Go.WideShapes Go.Proofs.YtddnhcnkjcdfgaaW.PrintWords
set_option linter.unusedVariables false
section
variable {H : Type} (enc : TypeId × Value → H) (P : Program) (W : World) (base : Nat) (spare : Nat → Bool) (held : Bool)
def Opens {α : Type} (t : TypeId) (d : Kd α) (Ok : α → Prop) : Prop :=
  ∀ (fuel : Nat) (cs : List Value) (x : DataW H × List MemPlace), DataW.trod enc P W base spare held fuel t cs = some x → (∀ n ∈ x.1.weights P t, n ≤ reachBytes) → ∃ y, d.K W y cs ∧ Ok y
variable {enc P W base spare held}
theorem opens_int {t : TypeId} {k : IntKind} (ht : P.underlying t = some (.int k)) : Opens enc P W base spare held t (Kd.int k) (fun y => (Lit.int k y).wf = true) := by
  intro fuel cs x h _
  obtain ⟨n, rfl, rfl, hw⟩ := DataW.trod_int ht h
  exact ⟨n, rfl, hw⟩
theorem cells_of {a : Addr} {n : Nat} {cs : List Value} (h : W.cells? base a n = some cs) : cs.length = n ∧ ∀ i u, cs[i]? = some u → W.cell? (a.add i) = some u := by
  obtain ⟨_, hl, hc⟩ := World.cells?_some h
  refine ⟨hl, fun i u hu => ?_⟩
  have hi : i < cs.length := (List.getElem?_eq_some_iff.1 hu).1
  rw [hc i (by omega), hu]
theorem in_all {P : Program} {e : TypeId} {n : Nat} : ∀ {l : List (DataW H)} {d : DataW H}, d ∈ l → n ∈ d.weights P e → n ∈ DataW.weightsAll P e l
  | x :: r, d, hd, hn => by
    unfold DataW.weightsAll
    rcases List.mem_cons.1 hd with rfl | hd
    · exact List.mem_append_left _ hn
    · exact List.mem_append_right _ (in_all hd hn)
theorem opens_slice {α : Type} {t e q : TypeId} {d : Kd α} {Ok : α → Prop} (ht : P.underlying t = some (.slice e)) (hc : P.cellsOf e = d.sz)
    (he : Opens enc P W base spare held e d Ok) :
    Opens enc P W base spare held t (Kd.slice q d) (fun ys => ys.length * P.bytesOf e ≤ reachBytes ∧ ∀ y ∈ ys, Ok y) := by
  intro fuel cs x h hwt
  rcases DataW.trod_slice ht h with ⟨rfl, rfl⟩ | ⟨a, len, cap, elems, rest, n, _, rfl, rfl, hb, hl, hmax, hlen, hel, _, _⟩
  · refine ⟨[], ⟨none, 0, rfl, Nat.le_refl _, rfl, Nat.zero_le _, fun h => absurd h (Nat.lt_irrefl _)⟩, by simp, fun y hy => by cases hy⟩
  · have hw1 : ∀ n ∈ ((elems.map (·.1)).length + (rest.map (·.1)).length) * P.bytesOf e :: (DataW.weightsAll P e (elems.map (·.1)) ++ DataW.weightsAll P e (rest.map (·.1))), n ≤ reachBytes := by
      have h1 := hwt
      dsimp only at h1
      unfold DataW.weights at h1
      rw [ht] at h1
      exact h1
    have each : ∀ i (hi : i < elems.length), ∃ y, (∃ c, c.length = d.sz ∧ d.K W y c ∧ ∀ j u, c[j]? = some u → W.cell? (a.add (i * d.sz + j)) = some u) ∧ Ok y := by
      intro i hi
      have h1 := hel i (by omega)
      rw [List.getElem?_eq_getElem hi, Option.bind_eq_some_iff] at h1
      obtain ⟨c, h2, h3⟩ := h1
      obtain ⟨y, hk, hok⟩ := he _ _ _ h3 (fun n hn => hw1 n (List.mem_cons_of_mem _ (List.mem_append_left _ (in_all (List.mem_map.2 ⟨elems[i], List.getElem_mem hi, rfl⟩) hn))))
      obtain ⟨hcl, hcell⟩ := cells_of h2
      rw [hc] at hcl hcell
      refine ⟨y, ⟨c, hcl, hk, fun j u hu => ?_⟩, hok⟩
      have := hcell j u hu
      rwa [Addr.add_add] at this
    have all : ∀ m, m ≤ elems.length → ∃ ys : List α, ys.length = m ∧ ∀ i y, ys[i]? = some y → (∃ c, c.length = d.sz ∧ d.K W y c ∧ ∀ j u, c[j]? = some u → W.cell? (a.add (i * d.sz + j)) = some u) ∧ Ok y := by
      intro m
      induction m with
      | zero => intro _; exact ⟨[], rfl, fun i y hy => by simp at hy⟩
      | succ m ih =>
        intro hm1
        obtain ⟨ys, hys, hall⟩ := ih (by omega)
        obtain ⟨y, hy, hoky⟩ := each m (by omega)
        refine ⟨ys ++ [y], by simp [hys], fun i z hz => ?_⟩
        by_cases hi : i < m
        · rw [List.getElem?_append_left (by omega)] at hz
          exact hall i z hz
        · have hi2 : i < (ys ++ [y]).length := (List.getElem?_eq_some_iff.1 hz).1
          simp [hys] at hi2
          obtain rfl : i = m := by omega
          rw [List.getElem?_append_right (by omega), hys] at hz
          simp at hz
          subst hz
          exact ⟨hy, hoky⟩
    obtain ⟨ys, hys, hall⟩ := all elems.length (Nat.le_refl _)
    refine ⟨ys, ⟨some a, cap, by rw [hys, hlen], by omega, rfl, ?_, fun _ => ⟨a, rfl, fun j p hp => (hall j p hp).1⟩⟩, ?_, fun y hy => ?_⟩
    · rw [hys, hlen]
      have : (maxLen : Nat) ≤ 9223372036854775807 := by decide
      omega
    · have h1 := hw1 _ List.mem_cons_self
      rw [List.length_map, List.length_map] at h1
      rw [hys]
      exact Nat.le_trans (Nat.mul_le_mul_right _ (Nat.le_add_right _ _)) h1
    · obtain ⟨i, hi⟩ := List.getElem?_of_mem hy
      exact (hall i y hi).2
theorem arg_full {α : Type} {t q : TypeId} {d : Kd α} {Ok : List α → Prop} {a : Option Addr} {len cap : Nat} {dd : DataW H} {ps : List MemPlace}
    (hs : Opens enc P W base spare held t (Kd.slice q d) Ok) (h : DataW.Trod enc P W base spare held t (.slice a len cap) dd ps) (hw : ∀ n ∈ dd.weights P t, n ≤ reachBytes) : ∃ l, len = l.length ∧ l.length ≤ cap ∧ Kd.C d W a l.length l ∧ l.length ≤ 9223372036854775807 ∧ Ok l := by
  obtain ⟨fuel, hf⟩ := h
  obtain ⟨l, ⟨A, c, he, hl, hC⟩, hok⟩ := hs _ _ _ hf hw
  simp [Value.cells] at he
  obtain ⟨rfl, rfl, rfl⟩ := he
  exact ⟨l, rfl, hl, hC, hC.2.1, hok⟩
end
theorem weights_at {H : Type} {P : Program} : ∀ {ts : List TypeId} {ds : List (DataW H)}, (DataW.weightsEach P ts ds).all (· ≤ reachBytes) = true → ∀ (j : Nat) (t : TypeId) (d : DataW H), ts[j]? = some t → ds[j]? = some d → ∀ n ∈ d.weights P t, n ≤ reachBytes
  | t0 :: ts, d0 :: ds, h, j, t, d, ht, hd, n, hn => by
    unfold DataW.weightsEach at h
    rw [List.all_append, Bool.and_eq_true] at h
    cases j with
    | zero =>
      obtain rfl : t0 = t := Option.some.inj ht
      obtain rfl : d0 = d := Option.some.inj hd
      exact of_decide_eq_true (List.all_eq_true.1 h.1 n hn)
    | succ j => exact weights_at h.2 j t d ht hd n hn
  | [], _, _, j, t, d, ht, _, _, _ => by simp at ht
  | _ :: _, [], _, j, t, d, _, hd, _, _ => by simp at hd
end Go.Proofs.Ytddnhcnkjcdfgaa.BulkW

namespace Go.Proofs.Ytddnhcnkjcdfgaa.M
open Go.RowKit Go.Maps Go.Proofs.YtddnhcnkjcdfgaaW.PrintWords Go.Proofs.YtddnhcnkjcdfgaaW.PrintLast Go.Proofs.YtddnhcnkjcdfgaaW.PrintMore
set_option linter.unusedVariables false
set_option linter.unusedSimpArgs false
structure S73 where
  f0 : Int
  f1 : Int
  f2 : Int
  f3 : List Int
  f4 : Int
  f5 : List Int
def z73 : S73 := ⟨0, 0, 0, [], 0, []⟩
def k73 : Kd S73 := Kd.iso (Kd.pair (Kd.int .i64) (Kd.pair (Kd.int .i64) (Kd.pair (Kd.int .i64) (Kd.pair (Kd.slice 5 (Kd.int .u8)) (Kd.pair (Kd.int .i64) (Kd.slice 3 (Kd.int .i64))))))) (fun x : S73 => (x.f0, x.f1, x.f2, x.f3, x.f4, x.f5))
theorem k73_open {w : World} {x : S73} {cs : List Value} (h : k73.K w x cs) : ∃ A3 c3 A5 c5, cs = [.int .i64 x.f0, .int .i64 x.f1, .int .i64 x.f2, .slice A3 x.f3.length c3, .int .i64 x.f4, .slice A5 x.f5.length c5] ∧ x.f3.length ≤ c3 ∧ (Kd.int .u8).C w A3 x.f3.length x.f3 ∧ x.f5.length ≤ c5 ∧ (Kd.int .i64).C w A5 x.f5.length x.f5 := by
  obtain ⟨_, _, rfl, rfl, ⟨_, _, rfl, rfl, ⟨_, _, rfl, rfl, ⟨_, _, rfl, ⟨A3, c3, rfl, l3, g3⟩, ⟨_, _, rfl, rfl, ⟨A5, c5, rfl, l5, g5⟩⟩⟩⟩⟩⟩ := h
  exact ⟨A3, c3, A5, c5, rfl, l3, g3, l5, g5⟩
theorem k73_mk (w : World) (x : S73) {A3 : Option Addr} {c3 : Nat} (l3 : x.f3.length ≤ c3) (g3 : (Kd.int .u8).C w A3 x.f3.length x.f3) {A5 : Option Addr} {c5 : Nat} (l5 : x.f5.length ≤ c5) (g5 : (Kd.int .i64).C w A5 x.f5.length x.f5) : k73.K w x [.int .i64 x.f0, .int .i64 x.f1, .int .i64 x.f2, .slice A3 x.f3.length c3, .int .i64 x.f4, .slice A5 x.f5.length c5] :=
  ⟨[.int .i64 x.f0], _, rfl, rfl, ⟨[.int .i64 x.f1], _, rfl, rfl, ⟨[.int .i64 x.f2], _, rfl, rfl, ⟨[.slice A3 x.f3.length c3], _, rfl, ⟨A3, c3, rfl, l3, g3⟩, ⟨[.int .i64 x.f4], [.slice A5 x.f5.length c5], rfl, rfl, ⟨A5, c5, rfl, l5, g5⟩⟩⟩⟩⟩⟩
theorem at_T73 {w : World} {A : Option Addr} {n : Nat} {xs : List S73} (h : Kd.C k73 w A n xs) (j : Nat) (h1 : j < n) : ∃ ad A3 c3 A5 c5, A = some ad ∧ w.cell? (ad.add (j * 6)) = some (.int .i64 (xs.getD j z73).f0) ∧ w.cell? ⟨(ad.add (j * 6)).block, (ad.add (j * 6)).off + 1, none⟩ = some (.int .i64 (xs.getD j z73).f1) ∧ w.cell? ⟨(ad.add (j * 6)).block, (ad.add (j * 6)).off + 2, none⟩ = some (.int .i64 (xs.getD j z73).f2) ∧ w.cell? ⟨(ad.add (j * 6)).block, (ad.add (j * 6)).off + 3, none⟩ = some (.slice A3 (xs.getD j z73).f3.length c3) ∧ w.cell? ⟨(ad.add (j * 6)).block, (ad.add (j * 6)).off + 4, none⟩ = some (.int .i64 (xs.getD j z73).f4) ∧ w.cell? ⟨(ad.add (j * 6)).block, (ad.add (j * 6)).off + 5, none⟩ = some (.slice A5 (xs.getD j z73).f5.length c5) ∧
    (xs.getD j z73).f3.length ≤ c3 ∧ (Kd.int .u8).C w A3 (xs.getD j z73).f3.length (xs.getD j z73).f3 ∧ (xs.getD j z73).f5.length ≤ c5 ∧ (Kd.int .i64).C w A5 (xs.getD j z73).f5.length (xs.getD j z73).f5 := by
  obtain ⟨ad, c, e, _, hK, hc0⟩ := Kd.C_get h z73 (j : Int) (by omega) (by omega)
  rw [Int.toNat_natCast] at hK hc0
  have hc : ∀ i u, c[i]? = some u → w.cell? (ad.add (j * 6 + i)) = some u := hc0
  obtain ⟨A3, c3, A5, c5, rfl, l3, g3, l5, g5⟩ := k73_open hK
  exact ⟨ad, A3, c3, A5, c5, e, hc 0 _ rfl, by rw [← add_field _ _ 1 (by omega)]; exact hc 1 _ rfl, by rw [← add_field _ _ 2 (by omega)]; exact hc 2 _ rfl, by rw [← add_field _ _ 3 (by omega)]; exact hc 3 _ rfl, by rw [← add_field _ _ 4 (by omega)]; exact hc 4 _ rfl, by rw [← add_field _ _ 5 (by omega)]; exact hc 5 _ rfl, l3, g3, l5, g5⟩
end Go.Proofs.Ytddnhcnkjcdfgaa.M
namespace Go.Proofs.Ytddnhcnkjcdfgaa.BulkW
open Go.ChangeShapes Go.WideShapes Go.Proofs.YtddnhcnkjcdfgaaW.PrintWords Go.Proofs.Ytddnhcnkjcdfgaa.M
set_option linter.unusedVariables false
section
variable {H : Type} {enc : TypeId × Value → H} {W : World} {base : Nat} {spare : Nat → Bool} {held : Bool}
theorem opens_i64 : Opens enc Try.prog W base spare held 3 (Kd.int .i64) (fun y => (Lit.int .i64 y).wf = true) := opens_int Try.underlying3
set_option maxRecDepth 100000 in
theorem opens_28 : Opens enc Try.prog W base spare held 28 (Kd.slice 5 (Kd.int .u8)) (fun ys => ys.length ≤ reachBytes) := fun f cs x h hw => by
  obtain ⟨y, h1, h2, _⟩ := opens_slice (q := 5) (d := Kd.int .u8) Try.underlying28 (by kernel_rfl) (opens_int Try.underlying5) f cs x h hw
  rw [show Try.prog.bytesOf 5 = 1 by kernel_rfl, Nat.mul_one] at h2
  exact ⟨y, h1, h2⟩
set_option maxRecDepth 100000 in
theorem opens_51 : Opens enc Try.prog W base spare held 51 (Kd.slice 3 (Kd.int .i64)) (fun ys => True) := fun f cs x h hw => by
  obtain ⟨y, h1, h2, _⟩ := opens_slice (q := 3) (d := Kd.int .i64) Try.underlying51 (by kernel_rfl) (opens_int Try.underlying3) f cs x h hw
  exact ⟨y, h1, trivial⟩
set_option maxRecDepth 100000 in
theorem opens_73 : Opens enc Try.prog W base spare held 73 k73 (fun y => y.f3.length ≤ reachBytes) := by
  intro fuel cs x h hw
  obtain ⟨xs, n, _, rfl, hl, hx, hf⟩ := DataW.trod_struct Try.underlying73 h
  rw [show Try.prog.cellsOf 73 = 6 by kernel_rfl] at hl
  obtain ⟨c0, c1, c2, c3, c4, c5, rfl⟩ : ∃ c0 c1 c2 c3 c4 c5, cs = [c0, c1, c2, c3, c4, c5] := by
    match cs, hl with
    | [c0, c1, c2, c3, c4, c5], _ => exact ⟨c0, c1, c2, c3, c4, c5, rfl⟩
  obtain ⟨x0, x1, x2, x3, x4, x5, rfl⟩ : ∃ x0 x1 x2 x3 x4 x5, xs = [x0, x1, x2, x3, x4, x5] := by
    match xs, hx with
    | [x0, x1, x2, x3, x4, x5], _ => exact ⟨x0, x1, x2, x3, x4, x5, rfl⟩
  have hw1 : ∀ n ∈ x0.1.weights Try.prog 3 ++ (x1.1.weights Try.prog 3 ++ (x2.1.weights Try.prog 3 ++ (x3.1.weights Try.prog 28 ++ (x4.1.weights Try.prog 3 ++ (x5.1.weights Try.prog 51 ++ []))))), n ≤ reachBytes := by
    have h1 := hw
    dsimp only at h1
    unfold DataW.weights at h1
    rw [Try.underlying73] at h1
    exact h1
  have q3 : Try.prog.cellsOf 3 = 1 := by kernel_rfl
  have q28 : Try.prog.cellsOf 28 = 1 := by kernel_rfl
  have q51 : Try.prog.cellsOf 51 = 1 := by kernel_rfl
  have f0 : DataW.trod enc Try.prog W base spare held n 3 (([c0, c1, c2, c3, c4, c5].drop 0).take (Try.prog.cellsOf 3)) = some x0 := hf 0 _ rfl
  rw [q3] at f0
  have f1 : DataW.trod enc Try.prog W base spare held n 3 (([c0, c1, c2, c3, c4, c5].drop 1).take (Try.prog.cellsOf 3)) = some x1 := hf 1 _ rfl
  rw [q3] at f1
  have f2 : DataW.trod enc Try.prog W base spare held n 3 (([c0, c1, c2, c3, c4, c5].drop 2).take (Try.prog.cellsOf 3)) = some x2 := hf 2 _ rfl
  rw [q3] at f2
  have f3 : DataW.trod enc Try.prog W base spare held n 28 (([c0, c1, c2, c3, c4, c5].drop 3).take (Try.prog.cellsOf 28)) = some x3 := hf 3 _ rfl
  rw [q28] at f3
  have f4 : DataW.trod enc Try.prog W base spare held n 3 (([c0, c1, c2, c3, c4, c5].drop 4).take (Try.prog.cellsOf 3)) = some x4 := hf 4 _ rfl
  rw [q3] at f4
  have f5 : DataW.trod enc Try.prog W base spare held n 51 (([c0, c1, c2, c3, c4, c5].drop 5).take (Try.prog.cellsOf 51)) = some x5 := hf 5 _ rfl
  rw [q51] at f5
  obtain ⟨y0, k0, o0⟩ := opens_i64 _ _ _ f0 (fun n hn => hw1 n (by simp only [List.mem_append]; exact .inl hn))
  obtain ⟨y1, k1, o1⟩ := opens_i64 _ _ _ f1 (fun n hn => hw1 n (by simp only [List.mem_append]; exact .inr (.inl hn)))
  obtain ⟨y2, k2, o2⟩ := opens_i64 _ _ _ f2 (fun n hn => hw1 n (by simp only [List.mem_append]; exact .inr (.inr (.inl hn))))
  obtain ⟨y3, k3, o3⟩ := opens_28 _ _ _ f3 (fun n hn => hw1 n (by simp only [List.mem_append]; exact .inr (.inr (.inr (.inl hn)))))
  obtain ⟨y4, k4, o4⟩ := opens_i64 _ _ _ f4 (fun n hn => hw1 n (by simp only [List.mem_append]; exact .inr (.inr (.inr (.inr (.inl hn))))))
  obtain ⟨y5, k5, o5⟩ := opens_51 _ _ _ f5 (fun n hn => hw1 n (by simp only [List.mem_append]; exact .inr (.inr (.inr (.inr (.inr (.inl hn)))))))
  obtain ⟨A3, r3, k3, l3, g3⟩ := k3
  obtain ⟨A5, r5, k5, l5, g5⟩ := k5
  obtain rfl : c0 = .int .i64 y0 := by simpa using (show [c0] = [.int .i64 y0] from k0)
  obtain rfl : c1 = .int .i64 y1 := by simpa using (show [c1] = [.int .i64 y1] from k1)
  obtain rfl : c2 = .int .i64 y2 := by simpa using (show [c2] = [.int .i64 y2] from k2)
  obtain rfl : c3 = .slice A3 y3.length r3 := by simpa using (show [c3] = _ from k3)
  obtain rfl : c4 = .int .i64 y4 := by simpa using (show [c4] = [.int .i64 y4] from k4)
  obtain rfl : c5 = .slice A5 y5.length r5 := by simpa using (show [c5] = _ from k5)
  exact ⟨⟨y0, y1, y2, y3, y4, y5⟩, k73_mk W _ l3 g3 l5 g5, o3⟩
theorem arg_67 {a : Option Addr} {len cap : Nat} {dd : DataW H} {ps : List MemPlace}
    (h : DataW.Trod enc Try.prog W base spare held 67 (.slice a len cap) dd ps) (hw : ∀ n ∈ dd.weights Try.prog 67, n ≤ reachBytes) : ∃ l, len = l.length ∧ l.length ≤ cap ∧ Kd.C k73 W a l.length l ∧ l.length ≤ 9223372036854775807 ∧ ∀ y ∈ l, y.f3.length ≤ 140737488351232 := by
  obtain ⟨l, h1, h2, h3, h4, _, h5⟩ := arg_full (q := 73) (opens_slice Try.underlying67 (by kernel_rfl) opens_73) h hw
  exact ⟨l, h1, h2, h3, h4, h5⟩
end
end Go.Proofs.Ytddnhcnkjcdfgaa.BulkW

namespace Go.Proofs.YtddnhcnkjcdfgaaW.PrintLast
open Go.RowKit
section
variable {P : Program} {ops : Array Oper} {Q : Exit → Act → World → Prop} {md : Region.Mode} {S S' : World → Prop} {ds ds' : List Nat}
end
end Go.Proofs.YtddnhcnkjcdfgaaW.PrintLast
namespace Go.Proofs.Ytddnhcnkjcdfgaa.M
open Go.RowKit Go.Maps Go.Proofs.YtddnhcnkjcdfgaaW.PrintWords Go.Proofs.YtddnhcnkjcdfgaaW.PrintLast Go.Proofs.YtddnhcnkjcdfgaaW.PrintMore
open Go.Proofs.Ytddnhcnkjcdfgaa.P hiding S106 k106 rd_T106 at_T106
open Go.Proofs.Ytddnhcnkjcdfgaa.R
theorem Sep.nestL {w0 w w' : World} {L M : List Th} (h : Sep w0 w L) (h2 : Sep w w' M) : Sep w0 w' (M ++ L) := by
  refine ⟨below_step h.below h2.below, ?_⟩
  have h1 : Hold w L (fun b => w0.heap.size ≤ b ∧ b < w.heap.size) := h.hold.mono (fun b hb hlt => ⟨hb, hlt⟩)
  have h3 : Hold w' L (fun b => w0.heap.size ≤ b ∧ b < w.heap.size) := h1.move (fun b hb hlt => h2.below.block b hlt)
  exact Hold.append h2.hold h3 (fun b hb => ⟨Nat.le_trans h.size hb, fun hx => Nat.not_lt.2 hb hx.2⟩) (fun b hb => hb.1)
theorem PrS.start {w w' : World} {gp g n : Nat} {A1 A2 : Option Addr} {c1 c2 : Nat} (h2 : 2 ≤ n) (hm : n ≤ 65536) (h : Sep w w' (prL gp g (DS.fresh n (List.replicate n zeros)) (.slice A1 0 c1) (.slice A2 0 c2) [] [])) : PrS w w' gp [] (DS.fresh n (List.replicate n zeros)) 65536 :=
  ⟨g, A1, c1, A2, c2, [], [], h, Rl.fresh n, h2, hm, by simp, Nat.zero_le _⟩
theorem PrS.startL {w0 w w' : World} {L : List Th} {gp g n : Nat} {A1 A2 : Option Addr} {c1 c2 : Nat} (h0 : Sep w0 w L) (h2 : 2 ≤ n) (hm : n ≤ 65536) (h : Sep w w' (prL gp g (DS.fresh n (List.replicate n zeros)) (.slice A1 0 c1) (.slice A2 0 c2) [] [])) : PrS w0 w' gp L (DS.fresh n (List.replicate n zeros)) 65536 :=
  ⟨g, A1, c1, A2, c2, [], [], h0.nestL h, Rl.fresh n, h2, hm, by simp, Nat.zero_le _⟩
end Go.Proofs.Ytddnhcnkjcdfgaa.M

namespace Go.Proofs.Ytddnhcnkjcdfgaa.M
open Go.RowKit Go.Maps Go.Proofs.YtddnhcnkjcdfgaaW.PrintWords Go.Proofs.YtddnhcnkjcdfgaaW.PrintLast Go.Proofs.YtddnhcnkjcdfgaaW.PrintMore
open Go.Proofs.Ytddnhcnkjcdfgaa.P hiding S106 k106 rd_T106 at_T106
open Go.Proofs.Ytddnhcnkjcdfgaa.R
set_option linter.unusedVariables false
set_option linter.unusedSimpArgs false
variable {w0 : World} {L : List Th}
theorem PrS.below {w : World} {gp : Nat} {s : DS} {B : Nat} (h : PrS w0 w gp L s B) : Below w0.heap.size w0 w := by
  obtain ⟨_, _, _, _, _, _, _, h, _⟩ := h
  exact h.below
end Go.Proofs.Ytddnhcnkjcdfgaa.M

namespace Go.Proofs.Ytddnhcnkjcdfgaa.M
open Go.RowKit Go.Maps Go.Proofs.YtddnhcnkjcdfgaaW.PrintWords Go.Proofs.YtddnhcnkjcdfgaaW.PrintLast Go.Proofs.YtddnhcnkjcdfgaaW.PrintMore
open Go.Proofs.Ytddnhcnkjcdfgaa.P hiding S106 k106 rd_T106 at_T106
open Go.Proofs.Ytddnhcnkjcdfgaa.R
set_option linter.unusedVariables false
set_option linter.unusedSimpArgs false
def IsPr (gp : Nat) (s : DS) (B : Nat) (M : List Th) : Prop := ∃ g A1 c1 A2 c2 l1 l2,
  M = [cellsT gp (prC g s (.slice A1 (List.length l1) c1) (.slice A2 (List.length l2) c2)) 78, dkT g s, refT (.slice A1 (List.length l1) c1) (.slice A2 (List.length l2) c2) l1 l2] ∧
  Rl s l1 l2 ∧ 2 ≤ s.n ∧ s.n ≤ 65536 ∧ l1.length + l2.length ≤ B ∧ s.c ≤ B
theorem IsPr.mono {gp : Nat} {s : DS} {B C : Nat} {M : List Th} (h : IsPr gp s B M) (hc : B ≤ C) : IsPr gp s C M := by
  obtain ⟨g, A1, c1, A2, c2, l1, l2, e, h1, h2, h3, h4, h5⟩ := h
  exact ⟨g, A1, c1, A2, c2, l1, l2, e, h1, h2, h3, Nat.le_trans h4 hc, Nat.le_trans h5 hc⟩
theorem PrS.is {w0 w : World} {gp : Nat} {s : DS} {B : Nat} {L : List Th} (h : PrS w0 w gp L s B) : ∃ M, IsPr gp s B M ∧ Sep w0 w (M ++ L) := by
  obtain ⟨g, A1, c1, A2, c2, l1, l2, hs, hr⟩ := h
  exact ⟨_, ⟨g, A1, c1, A2, c2, l1, l2, rfl, hr⟩, hs⟩
theorem PrS.of {w0 w : World} {gp : Nat} {s : DS} {B : Nat} {L M : List Th} (h : IsPr gp s B M) (hs : Sep w0 w (M ++ L)) : PrS w0 w gp L s B := by
  obtain ⟨g, A1, c1, A2, c2, l1, l2, rfl, hr⟩ := h
  exact ⟨g, A1, c1, A2, c2, l1, l2, hs, hr⟩
def PrT (w0 w : World) (gx gy : Nat) (B : Nat) : Prop := ∃ sx sy Mx My, IsPr gx sx B Mx ∧ IsPr gy sy B My ∧ Sep w0 w (Mx ++ My)
theorem PrT.below {w0 w : World} {gx gy B : Nat} (h : PrT w0 w gx gy B) : Below w0.heap.size w0 w := by
  obtain ⟨_, _, _, _, _, _, h⟩ := h
  exact h.below
theorem PrT.comm {w0 w : World} {gx gy B : Nat} (h : PrT w0 w gx gy B) : PrT w0 w gy gx B := by
  obtain ⟨sx, sy, Mx, My, h1, h2, h3⟩ := h
  exact ⟨sy, sx, My, Mx, h2, h1, h3.perm List.perm_append_comm⟩
theorem does_two {w0 : World} (gx gy B : Nat) (w : World) (h : PrT w0 w gx gy B) (hB : 65536 ≤ B) (hB2 : B ≤ 800000) (kd a t fl : Int) (A3 : Option Addr) (c3 : Nat) (d : List Int) (hC3 : Kd.C (Kd.int .u8) w0 A3 d.length d) (hc3 : d.length ≤ c3) (hd3 : d.length ≤ 140737488355328)
    (A5 : Option Addr) (c5 : Nat) (fs : List Int) (hC5 : Kd.C (Kd.int .i64) w0 A5 fs.length fs) (hc5 : fs.length ≤ c5) :
    Calls Try.prog 38 #[.pointer (some ⟨gx, 0, none⟩), .agg #[.int .i64 kd, .int .i64 a, .int .i64 t, .slice A3 d.length c3, .int .i64 fl, .slice A5 fs.length c5]] w fun e w' => e = .returned (.bool true) ∧ PrT w0 w' gx gy (B + 1) := by
  obtain ⟨sx, sy, Mx, My, h1, h2, h3⟩ := h
  refine (does_any gx sx B w (PrS.of h1 h3) hB hB2 kd a t fl A3 c3 d (fun W M _ h => Kd.C_below hC3 h.below) hc3 hd3 A5 c5 fs hC5 hc5).mono ?_
  rintro e w' ⟨he, s', h4, _⟩
  obtain ⟨M', h5, h6⟩ := h4.is
  exact ⟨he, s', sy, M', My, h5, h2.mono (Nat.le_succ _), h6⟩
theorem told_two {w0 : World} (gx gy B : Nat) (w : World) (h : PrT w0 w gx gy B) (hB2 : B ≤ 800000) :
    Calls Try.prog 39 #[.pointer (some ⟨gx, 0, none⟩)] w fun e w' => e = .returned (.bool true) ∧ PrT w0 w' gx gy B := by
  obtain ⟨sx, sy, Mx, My, h1, h2, h3⟩ := h
  refine (told_calls gx sx B w (PrS.of h1 h3) hB2).mono ?_
  rintro e w' ⟨he, s', h4⟩
  obtain ⟨M', h5, h6⟩ := h4.is
  exact ⟨he, s', sy, M', My, h5, h2, h6⟩
theorem act_at {w0 : World} {A1 : Option Addr} {l1 : List S73} (hC : Kd.C k73 w0 A1 l1.length l1) (hb : ∀ y ∈ l1, y.f3.length ≤ 140737488351232) (gx gy B : Nat) (hB : 65536 ≤ B) (hB2 : B ≤ 800000) (j : Nat) (hj : j < l1.length) : ∃ (ad : Addr) (o0 o1 o2 o4 : Int) (v3 v5 : Value), A1 = some ad ∧
    (∀ W, Below w0.heap.size w0 W → W.cell? (ad.add (j * 6)) = some (.int .i64 o0) ∧ W.cell? ⟨(ad.add (j * 6)).block, (ad.add (j * 6)).off + 1, none⟩ = some (.int .i64 o1) ∧ W.cell? ⟨(ad.add (j * 6)).block, (ad.add (j * 6)).off + 2, none⟩ = some (.int .i64 o2) ∧ W.cell? ⟨(ad.add (j * 6)).block, (ad.add (j * 6)).off + 3, none⟩ = some v3 ∧ W.cell? ⟨(ad.add (j * 6)).block, (ad.add (j * 6)).off + 4, none⟩ = some (.int .i64 o4) ∧ W.cell? ⟨(ad.add (j * 6)).block, (ad.add (j * 6)).off + 5, none⟩ = some v5) ∧
    (∃ A n c, v3 = .slice A n c) ∧ (∃ A n c, v5 = .slice A n c) ∧
    ∀ W, PrT w0 W gx gy B → Calls Try.prog 38 #[.pointer (some ⟨gx, 0, none⟩), .agg #[.int .i64 o0, .int .i64 o1, .int .i64 o2, v3, .int .i64 o4, v5]] W fun e w' => e = .returned (.bool true) ∧ PrT w0 w' gx gy (B + 1) := by
  have ho := hb (l1.getD j z73) (by rw [List.getD_eq_getElem?_getD, List.getElem?_eq_getElem hj]; exact List.getElem_mem _)
  obtain ⟨ad, A3, c3, A5, c5, rfl, x0, x1, x2, x3, x4, x5, l3, g3, l5, g5⟩ := at_T73 hC j hj
  exact ⟨ad, _, _, _, _, _, _, rfl, fun W hW => ⟨cell_later hW x0, cell_later hW x1, cell_later hW x2, cell_later hW x3, cell_later hW x4, cell_later hW x5⟩, ⟨_, _, _, rfl⟩, ⟨_, _, _, rfl⟩, fun W h => does_two gx gy B W h hB hB2 _ _ _ _ A3 c3 _ g3 l3 (by omega) A5 c5 _ g5 l5⟩
set_option maxHeartbeats 8000000 in
set_option maxRecDepth 100000 in
theorem apart_calls (A1 : Option Addr) (c1 : Nat) (l1 : List S73) (A2 : Option Addr) (c2 : Nat) (l2 : List S73) (w : World) (hC1 : Kd.C k73 w A1 l1.length l1) (hb1 : ∀ y ∈ l1, y.f3.length ≤ 140737488351232) (hC2 : Kd.C k73 w A2 l2.length l2) (hb2 : ∀ y ∈ l2, y.f3.length ≤ 140737488351232) :
    Calls Try.prog 14 #[.slice A1 l1.length c1, .slice A2 l2.length c2] w fun e w' => e = .returned (.bool true) ∧ Below w.heap.size w w' := by
  have HST := Aside0.mk (fun W => (show Calls Try.prog 37 #[.int .i64 9] W _ from started_yes 9 (by decide) (by decide) W))
  have HX := Aside0.mk (And.intro hC1 hb1)
  have HY := Aside0.mk (And.intro hC2 hb2)
  have hm1 := hC1.2.1
  have hm2 := hC2.2.1
  have HLM := Aside0.mk (And.intro hm1 hm2)
  obtain ⟨m, hmm⟩ : ∃ m, m = min l1.length 40 := ⟨_, rfl⟩
  have HM := Aside0.mk (show m ≤ l1.length ∧ m ≤ 40 ∧ (m = l1.length ∨ m = 40) by omega)
  clear hC1 hb1 hC2 hb2 hmm
  go_enter Try.func14, Try.ntmps14
  go_upto_region 2 with (go_at_call 37; (with_reducible refine (HST.out _).mono ?_); rintro e w1 ⟨gx, g, A1', c1', A2', c2', rfl, h⟩; have HS1 := Aside0.mk h; clear h)
  go_wp2_with (go_at_call 37; (with_reducible refine (HST.out _).mono ?_); rintro e w2 ⟨gy, g', A3', c3', A4', c4', rfl, h⟩; have HS2 := Aside0.mk h; clear h)
  have HP0 := Aside0.mk (show PrT w w2 gx gy 65536 from by
    obtain ⟨Mx, h1, h2⟩ := (PrS.start (by decide) (by decide) HS1.out).is
    rw [List.append_nil] at h2
    obtain ⟨My, h3, h4⟩ := (PrS.startL h2 (by decide) (by decide) HS2.out).is
    exact PrT.comm ⟨_, _, My, Mx, h3, h1, h4⟩)
  clear HS1 HS2 HST
  go_loopg [9] m (fun kq v9 wr => ∃ (j : Nat), v9 = .int .i64 j ∧ Aside0 (j + kq = m) ∧ Aside0 (PrT w wr gx gy (65536 + 2 * j)))
  case atStart => exact ⟨0, rfl, ⟨Nat.zero_add _⟩, HP0⟩
  case round =>
    obtain ⟨j, rfl, HJ, HP⟩ := hrel
    by_cases hj : j < m
    · have h1b : decide (j < l1.length) = true := decide_eq_true (by have := HM.out; omega)
      have h1t : (j < l1.length) = True := eq_true (by have := HM.out; omega)
      have h2b : decide ((j : Int) < 40) = true := decide_eq_true (by have := HM.out; omega)
      have hj0 : (0 : Int) ≤ (j : Int) := by omega
      have HJ2 := Aside0.mk hj
      by_cases ho : j < l2.length
      · have h3b : decide (j < l2.length) = true := decide_eq_true ho
        have h3t : (j < l2.length) = True := eq_true ho
        obtain ⟨ay, y0, y1, y2, y4, y3, y5, rfl, HCy, ⟨_, _, _, rfl⟩, ⟨_, _, _, rfl⟩, HAy⟩ := act_at HY.out.1 HY.out.2 gy gx (65536 + 2 * j) (by omega) (by have := HM.out; omega) j ho
        obtain ⟨ax, x0, x1, x2, x4, x3, x5, rfl, HCx, ⟨_, _, _, rfl⟩, ⟨_, _, _, rfl⟩, HAx⟩ := act_at HX.out.1 HX.out.2 gx gy (65536 + 2 * j + 1) (by omega) (by have := HM.out; omega) j (by have := HM.out; omega)
        have HCX := Aside0.mk HCx
        have HAX := Aside0.mk HAx
        have HAY := Aside0.mk HAy
        obtain ⟨hy0, hy1, hy2, hy3, hy4, hy5⟩ := HCy wr HP.out.below
        clear HCx HAx HAy HCy hj ho
        go_wp2_with (first
          | (go_at_call 38; (with_reducible refine (HAY.out _ HP.out.comm).mono ?_); rintro e w8 ⟨rfl, h⟩; have HP8 := Aside0.mk h.comm; clear h hy0 hy1 hy2 hy3 hy4 hy5; obtain ⟨hx0, hx1, hx2, hx3, hx4, hx5⟩ := HCX.out w8 HP8.out.below)
          | (go_at_call 38; (with_reducible refine (HAX.out _ HP8.out).mono ?_); rintro e w9 ⟨rfl, h⟩; have HP9 := Aside0.mk h; clear h hx0 hx1 hx2 hx3 hx4 hx5))
        go_roundg (gk - 1)
        case measure => have := HJ.out; have := HJ2.out; omega
        case rel => exact ⟨j + 1, (by have hi_ := HJ2.out; have hl_ := HM.out; first | rfl | (simp; done) | (rw [show wrap64 ((j : Int) + 1) = (j : Int) + 1 from by unfold wrap64; omega]; rfl)), ⟨by have := HJ.out; have := HJ2.out; omega⟩, HP9⟩
      · have h3b : decide (j < l2.length) = false := decide_eq_false ho
        have h3t : (j < l2.length) = False := eq_false ho
        obtain ⟨ax, x0, x1, x2, x4, x3, x5, rfl, HCx, ⟨_, _, _, rfl⟩, ⟨_, _, _, rfl⟩, HAx⟩ := act_at HX.out.1 HX.out.2 gx gy (65536 + 2 * j) (by omega) (by have := HM.out; omega) j (by have := HM.out; omega)
        have HAX := Aside0.mk HAx
        obtain ⟨hx0, hx1, hx2, hx3, hx4, hx5⟩ := HCx wr HP.out.below
        clear HCx HAx hj ho
        go_wp2_with (first
          | (go_at_call 38; (with_reducible refine (HAX.out _ HP.out).mono ?_); rintro e w9 ⟨rfl, h⟩; have HP9 := Aside0.mk h; clear h hx0 hx1 hx2 hx3 hx4 hx5))
        go_roundg (gk - 1)
        case measure => have := HJ.out; have := HJ2.out; omega
        case rel => exact ⟨j + 1, (by have hi_ := HJ2.out; have hl_ := HM.out; first | rfl | (simp; done) | (rw [show wrap64 ((j : Int) + 1) = (j : Int) + 1 from by unfold wrap64; omega]; rfl)), ⟨by have := HJ.out; have := HJ2.out; omega⟩, ⟨by
          obtain ⟨sx, sy, Mx, My, h1, h2, h3⟩ := HP9.out
          exact ⟨sx, sy, Mx, My, h1.mono (by omega), h2.mono (by omega), h3⟩⟩⟩
    · have HT := Aside0.mk (told_two gx gy (65536 + 2 * j) wr HP.out (by have := HJ.out; have := HM.out; omega))
      have HT2 := Aside0.mk (fun W (h : PrT w W gx gy (65536 + 2 * j)) => told_two gy gx (65536 + 2 * j) W h.comm (by have := HJ.out; have := HM.out; omega))
      by_cases hl : j < l1.length
      · have h1b : decide (j < l1.length) = true := decide_eq_true hl
        have h1t : (j < l1.length) = True := eq_true hl
        have h2b : decide ((j : Int) < 40) = false := decide_eq_false (by have := HJ.out; have := HM.out; omega)
        clear hj hl
        go_wp2_with (first
          | (go_at_call 39; (with_reducible refine HT.out.mono ?_); rintro e w9 ⟨rfl, h⟩; have HP9 := Aside0.mk h; clear h)
          | (go_at_call 39; (with_reducible refine (HT2.out _ HP9.out).mono ?_); rintro e w10 ⟨rfl, h⟩; have HP10 := Aside0.mk h; clear h))
        go_ret
        exact ⟨rfl, HP10.out.below⟩
      · have h1b : decide (j < l1.length) = false := decide_eq_false hl
        have h1t : (j < l1.length) = False := eq_false hl
        clear hj hl
        go_wp2_with (first
          | (go_at_call 39; (with_reducible refine HT.out.mono ?_); rintro e w9 ⟨rfl, h⟩; have HP9 := Aside0.mk h; clear h)
          | (go_at_call 39; (with_reducible refine (HT2.out _ HP9.out).mono ?_); rintro e w10 ⟨rfl, h⟩; have HP10 := Aside0.mk h; clear h))
        go_ret
        exact ⟨rfl, HP10.out.below⟩
def apartF (_k : Nat) (l1 l2 : List S73) : Option Bool := if (∀ y ∈ l1, y.f3.length ≤ 140737488351232) ∧ (∀ y ∈ l2, y.f3.length ≤ 140737488351232) then some true else none
theorem apart_row (k : Nat) (A1 : Option Addr) (c1 : Nat) (l1 : List S73) (A2 : Option Addr) (c2 : Nat) (l2 : List S73) (r : Bool) (w : World) (hC1 : Kd.C k73 w A1 l1.length l1) (hc1 : l1.length ≤ c1) (hC2 : Kd.C k73 w A2 l2.length l2) (hc2 : l2.length ≤ c2) (h : apartF k l1 l2 = some r) :
    Calls Try.prog 14 #[.slice A1 l1.length c1, .slice A2 l2.length c2] w fun e w' => e = .returned (.bool r) ∧ Below w.heap.size w w' := by
  unfold apartF at h
  by_cases hb : (∀ y ∈ l1, y.f3.length ≤ 140737488351232) ∧ (∀ y ∈ l2, y.f3.length ≤ 140737488351232)
  · rw [if_pos hb] at h
    cases h
    exact apart_calls A1 c1 l1 A2 c2 l2 w hC1 hb.1 hC2 hb.2
  · rw [if_neg hb] at h
    cases h
theorem apart_pure : ∀ (l1 l2 : List S73), l1.length ≤ 9223372036854775807 → (∀ y ∈ l1, y.f3.length ≤ 140737488351232) → l2.length ≤ 9223372036854775807 → (∀ y ∈ l2, y.f3.length ≤ 140737488351232) → ∃ k, apartF k l1 l2 = some true := fun _ _ _ h1 _ h2 => ⟨0, if_pos ⟨h1, h2⟩⟩
end Go.Proofs.Ytddnhcnkjcdfgaa.M

namespace Go.Proofs.Ytddnhcnkjcdfgaa.diskApart
open Go.ChangeShapes Go.WideShapes Go.ChangeAt Go.RowKit Go.Proofs.YtddnhcnkjcdfgaaW.PrintWords Go.Proofs.YtddnhcnkjcdfgaaW.PrintLast Go.Proofs.YtddnhcnkjcdfgaaW.PrintMore Go.Proofs.Ytddnhcnkjcdfgaa.P Go.Proofs.Ytddnhcnkjcdfgaa.M
set_option linter.unusedVariables false
theorem own : ownKnob Try.prog.godebug = none := by kernel_rfl
theorem laidOut : laidOutB Try.prog = true := by kernel_rfl
def IsRow (k : IntKind) (w : World) (a : Option Addr) (len cap : Nat) (zs : List Int) : Prop :=
  (a = none ∧ len = 0 ∧ cap = 0 ∧ zs = []) ∨
  ∃ x, a = some x ∧ len ≤ cap ∧ cap ≤ maxLen ∧ zs.length = cap ∧ (∀ i, i < zs.length → w.cell? (x.add i) = some (.int k (zs.getD i 0))) ∧ ∀ n ∈ zs, (Lit.int k n).wf = true
set_option maxRecDepth 100000 in
theorem contract (H : Type) (enc : TypeId × Value → H) (W : World) (base : Nat) (args : Array Value) (ds gs : List (DataW H)) (before : List MemPlace)
    (hval : ∀ (j : Nat) t v, Try.f14.params[j]? = some t → args[j]? = some v → Value.okWide Try.prog W .any base t v)
    (hW : DataW.Whole enc Try.prog Try.f14.params.toList Rows.diskApartSpec.vars false W args.toList ds gs before)
    (hsz0 : (DataW.weightsEach Try.prog (Try.f14.params.toList ++ Rows.diskApartSpec.plain.varTypes Try.prog) (ds ++ gs)).all (· ≤ reachBytes) = true)
    (hL : laidMetH Try.prog Rows.diskApartRow.laid W) :
    Calls Try.prog 14 args W fun e W' => ∃ v, e = .returned v ∧ Rows.diskApartSpec.post enc Try.prog Try.f14 false true false false W args v W' := by
  have hW' := hW
  have hsz : (DataW.weightsEach Try.prog (Try.f14.params.toList ++ Rows.diskApartSpec.plain.varTypes Try.prog) (ds ++ gs)).all (· ≤ reachBytes) = true := hsz0
  obtain ⟨p, q, hA0, hV, rfl, hfz, hnd⟩ := hW
  have hA : DataW.TrodAll enc Try.prog W 0 (fun _ => true) true Try.f14.params.toList args.toList ds p := hA0
  rw [Try.params14] at hA hval hsz
  obtain ⟨v0, vs0, d0, ds0, p0, q0, hargs, rfl, rfl, h0, r0⟩ := trodAll_cons hA
  obtain ⟨v1, vs1, d1, ds1, p1, q1, rfl, rfl, rfl, h1, r1⟩ := trodAll_cons r0
  obtain ⟨rfl, rfl, rfl⟩ := trodAll_nil r1
  obtain rfl : args = #[v0, v1] := by cases args; simp_all
  obtain ⟨rfl, rfl⟩ := trodVars_none hV
  obtain ⟨a0, len0, cap0, rfl⟩ := okWide_slice Try.underlying67 (hval 0 67 v0 rfl rfl)
  have k0 := h0
  have lt0 : ∀ x ∈ p0, x.block < W.heap.size := by obtain ⟨m, hm⟩ := k0; exact DataW.trod_lt m _ _ _ hm
  obtain ⟨l0, rfl, hc0, hr0, hn0, hw0⟩ := BulkW.arg_67 h0 (BulkW.weights_at hsz 0 67 d0 rfl rfl)
  obtain ⟨a1, len1, cap1, rfl⟩ := okWide_slice Try.underlying67 (hval 1 67 v1 rfl rfl)
  have k1 := h1
  have lt1 : ∀ x ∈ p1, x.block < W.heap.size := by obtain ⟨m, hm⟩ := k1; exact DataW.trod_lt m _ _ _ hm
  obtain ⟨l1, rfl, hc1, hr1, hn1, hw1⟩ := BulkW.arg_67 h1 (BulkW.weights_at hsz 1 67 d1 rfl rfl)
  clear hA0 hsz0 hsz
  obtain ⟨k, h⟩ := M.apart_pure l0 l1 (by omega) hw0 (by omega) hw1
  refine (M.apart_row k _ _ l0 _ _ l1 true W hr0 hc0 hr1 hc1 h).mono ?_
  rintro e W' ⟨rfl, bel⟩
  exact ⟨_, rfl, _, _, _, [], _, [], hW', trodAll_mk1 (shut_bool Try.underlying4 _), (trodAll_cons_mk (Below.trod laidOut (by kernel_rfl) (of_decide_eq_true (by kernel_rfl)) k0 bel lt0) (trodAll_cons_mk (Below.trod laidOut (by kernel_rfl) (of_decide_eq_true (by kernel_rfl)) k1 bel lt1) trodAll_mk0)), rfl, bel.frame _, fun h => by cases h⟩
noncomputable def laidWorld (os : Os) : World := World.holding Try.prog os ⟨#[], #[], []⟩
theorem laid_met (os : Os) : laidMet Try.prog Rows.diskApartRow.laid ((laidWorld os).forCall (fun _ _ => 0) ⟨#[], #[.slice none 0 0, .slice none 0 0], []⟩).memory :=
  laidMet_of_run' 8 (by kernel_rfl) (by kernel_rfl)
theorem reads (os : Os) {H : Type} (enc : TypeId × Value → H) : ∃ places, DataW.whole enc Try.prog ((laidWorld os).forCall (fun _ _ => 0) ⟨#[], #[.slice none 0 0, .slice none 0 0], []⟩).memory Try.f14.params.toList Rows.diskApartSpec.vars false (#[.slice none 0 0, .slice none 0 0] : Array Value).toList 8 = some ([.nil, .nil], [], places) :=
  ⟨[], by kernel_rfl⟩
set_option maxRecDepth 100000 in
theorem lifted (os : Os) (started : os.Started) (H : Type) (enc : TypeId × Value → H) (F : Stop.Interp) :
    ReturnsInHanded {} Try.checked os 14 .any ((OpenSpec.ofChange Rows.diskApartSpec).preRow enc Try.prog Try.f14 Rows.diskApartRow.domain false Rows.diskApartRow.laid) (((OpenSpec.ofChange Rows.diskApartSpec).at F).post enc Try.prog Try.f14 false true false false) := by
  obtain ⟨places, hx⟩ := reads os enc
  refine returnsInHanded_of_row (C := Try.checked) (s := OpenSpec.ofChange Rows.diskApartSpec) own started (by kernel_rfl) Try.func14
    (witness_row_at (enc := enc) (C := Try.checked) false (laidWorld os) #[.slice none 0 0, .slice none 0 0] rfl (by kernel_rfl) (by kernel_rfl) (by kernel_rfl)
      (OpenSpec.preRow_of_cond 8 hx (by kernel_rfl) (fun k hk => by cases hk) (by kernel_rfl) (laid_met os))) ?_
  intro W base args ds gs before hval hW _ hcond hsz hL _ _
  exact contract H enc W base args ds gs before hval hW hsz hL
theorem said : Rows.DiskApartSaid :=
  OpenClaim.holds_of_cond 14 Try.f14 rfl rfl rfl rfl rfl rfl rfl ⟨rfl, rfl, rfl, rfl, rfl⟩ rfl rfl rfl rfl rfl (by kernel_rfl) Try.func14 (by kernel_rfl)
    (of_decide_eq_true (by kernel_rfl)) (by unfold Func.isWrapper; first | (rw [if_pos (by decide +kernel)]; kernel_rfl) | (rw [if_neg (by decide +kernel)]; exact ⟨rfl, rfl⟩))
    (fun os started H enc _ F => by rw [OpenClaim.pre_eq_preRow]; exact lifted os started H enc F)
#print axioms said
end Go.Proofs.Ytddnhcnkjcdfgaa.diskApart
namespace Go.Proofs.Ytddnhcnkjcdfgaa
theorem diskApart_holds : Rows.DiskApartSaid := diskApart.said
end Go.Proofs.Ytddnhcnkjcdfgaa
