/- JournalAgain: one record and one buffer, changed in place between two calls: each call tells of what they hold now. No condition beyond the statement's own. -/
import Derived.Test.YtagodmmpkapgnaaDoorPgZ2
import Derived.Test.YtagodmmpkapgnaaDoorRows
import Derived.ChangeSlices
import Derived.SizedLaws
import Derived.ChangeArms
import Derived.OpenShut
import Derived.WideShapes
import Derived.Test.YtagodmmpkapgnaaDoorCards
import Derived.Test.YtagodmmpkapgnaaDoorTie
import Derived.WalkKit
import Derived.ProofKit
import Derived.ShutString
import Derived.ChangeOld
import Derived.Below
import Derived.Deep.DeepHandedRow
import Derived.Lib.LaidTab
namespace Go.Proofs.YtagodmmpkapgnaaDoor.M
open Go.RowKit Go.Maps Go.Proofs.YtagodmmpkapgnaaDoorW.PrintWords Go.Proofs.YtagodmmpkapgnaaDoorW.PrintLast Go.Proofs.YtagodmmpkapgnaaDoorW.PrintMore Go.Proofs.YtagodmmpkapgnaaDoor.Wr Go.Proofs.YtagodmmpkapgnaaDoor.Pl Go.Proofs.YtagodmmpkapgnaaDoor.P Go.Proofs.YtagodmmpkapgnaaDoor.A
set_option linter.unusedVariables false
set_option linter.unusedSimpArgs false
def to5_T : Bool × List (List Nat × List Nat) := (true, [([], []), ([0], [0]), ([1], [1]), ([2], [2]), ([3, 2], [2, 3]), ([2, 4], [2, 4]), ([5, 2], [5]), ([6], [6]), ([7, 6], [6, 7]), ([6, 8], [6, 8]), ([9, 6], [9]), ([10], [10]), ([10], [10]), ([11, 12, 10, 10], [10, 11, 12]), ([13, 10], [10, 13]), ([10, 14], [10, 14]), ([15, 13], [15]), ([16], [16]), ([16, 16], [16]), ([17, 18, 18, 16], [16, 17, 18]), ([19, 16], [16, 19]), ([16, 20], [16, 20])])
def to5_B : List Nat := [0, 1, 3, 7, 15, 31, 63, 127, 255, 511, 1023, 2047, 2047, 8191, 16383, 32767, 65535, 131071, 131071, 524287, 1048575, 2097151]
theorem to5_tab : rtab .any (opsOf Tryd.f14 5) = to5_T := by kernel_rfl
theorem to5_bits : waitsOk to5_T.2 to5_B = true := by kernel_rfl
def toD1 : DS := DS.fresh 24 (List.replicate 24 zeros)
def toD2 : DS := (toD1.rdN 1).put 2 (encJ (oneR 0))
theorem toD1_cur {j : Nat} (h : j < 24) : toD1.cur j = zeros := fresh_cur h
theorem toD1_rep : repJ toD1.cur 2 8 8 0 = [] := repJ_none (by rw [show (2 + 0 % 8 : Nat) = 2 from rfl, toD1_cur (by decide)]; exact decJ_zeros)
theorem toD2_cur2 : toD2.flush.cur 2 = encJ (oneR 0) := by rw [flush_cur _ (show 2 < 24 by decide)]; exact put_cur _ _ _
theorem toD2_cur {j : Nat} (h : j < 24) (h2 : j ≠ 2) : toD2.flush.cur j = zeros := by
  rw [flush_cur _ (show j < 24 from h)]
  unfold toD2
  rw [put_cur_ne _ _ h2, DS.rdN_cur]
  exact toD1_cur h
theorem toD2_bytes (j : Nat) (h : j < 24) : bytes_ (toD2.flush.cur j) := by
  by_cases h2 : j = 2
  · subst h2; rw [toD2_cur2]; exact bytes_encJ (one_ok 0) (show 1 ≤ 8 by decide)
  · rw [toD2_cur h h2]; exact zeros_bytes
theorem toD2_rep : repJ toD2.flush.cur 2 8 8 0 = [oneR 0] := by
  rw [repJ_some (r := oneR 0) (by rw [show (2 + 0 % 8 : Nat) = 2 from rfl, toD2_cur2]; exact decJ_enc (one_ok 0) (one_may 0 (by decide) (by decide))) rfl]
  rw [repJ_none (by rw [show (2 + (0 + 1) % 8 : Nat) = 3 from rfl, toD2_cur (by decide) (by decide)]; exact decJ_zeros)]
theorem told_open {w0 w : World} {L : List Th} {g : Nat} (h : Sep w0 w (dkT g toD1 :: L)) (hH : Wr.Half w0) : Calls Tryd.prog 30 #[.pointer (some ⟨g, 0, none⟩), .int .i64 2, .int .i64 8, .int .i64 0] w fun e w' => ∃ gj A c, e = .returned (.tuple #[.pointer (some ⟨gj, 0, none⟩), .slice A 0 c, .int .i64 0]) ∧ Sep w0 w' (cellsT gj (jC g 2 8 0 0) 134 :: dkT g (toD1.rdN 1) :: L) := by
  refine (h.opens hH (fun i hi => by rw [toD1_cur hi]; exact zeros_bytes) 2 8 0 (by decide) (by decide) (show 2 + 8 ≤ 24 by decide) (by decide)).mono ?_
  rintro e w' ⟨gj, A, c, l, k, hl, hk, he, hS⟩
  rw [toD1_rep] at hl
  subst hl
  subst hk
  exact ⟨gj, A, c, he, hS.up1.drop⟩
theorem told_add {w0 w : World} {L : List Th} {gj g : Nat} {A : Option Addr} {c : Nat} (h : Sep w0 w (ownT kRF 69 (.slice A 1 c) (oneR 0).r :: cellsT gj (jC g 2 8 0 0) 134 :: L)) : Calls Tryd.prog 32 #[.pointer (some ⟨gj, 0, none⟩), .agg (nums .u8 (oneR 0).p).toArray, .slice A 1 c] w fun e w' => ∃ gw, e = .returned (.tuple #[.pointer (some ⟨gw, 0, none⟩), .int .i64 0]) ∧ Sep w0 w' (wT gw (newW gj (oneR 0).p (oneR 0).r) :: cellsT gj (jC g 2 8 0 0) 134 :: L) := by
  refine (h.up1.add (by decide) (by decide) (by decide) (by decide) (oneR 0).p rfl (oneR 0).r 1 rfl A c h.own_C.1).mono ?_
  rintro e w' ⟨h1, _⟩
  obtain ⟨gw, he, hS⟩ := h1 ⟨(refsM_iff _).2 ⟨Nat.le_refl _, (show 1 ≤ 8 by decide), (one_may 0 (by decide) (by decide)).r⟩, rfl⟩
  exact ⟨gw, he, hS.up2.drop⟩
theorem told_step1 {w0 w : World} {L : List Th} {gj gw g : Nat} (h : Sep w0 w (wT gw (newW gj (oneR 0).p (oneR 0).r) :: cellsT gj (jC g 2 8 0 0) 134 :: dkT g (toD1.rdN 1) :: L)) (hH : Wr.Half w0) : Calls Tryd.prog 33 #[.pointer (some ⟨gw, 0, none⟩)] w fun e w' => e = .returned (.tuple #[.bool false, .int .i64 0]) ∧ Sep w0 w' (wT gw { newW gj (oneR 0).p (oneR 0).r with nm := 0, wt := true } :: cellsT gj (jC g 2 8 0 1) 134 :: dkT g toD2 :: L) :=
  Sep.step_yes (x := newW gj (oneR 0).p (oneR 0).r) (fr := 2) (n := 8) (st := 0) (nx := 0) h hH rfl rfl (one_ok 0) ((refsM_iff _).2 ⟨Nat.le_refl _, (show 1 ≤ 8 by decide), (one_may 0 (by decide) (by decide)).r⟩) (by decide) (by decide) rfl (by decide) (show 2 + 8 ≤ 24 by decide) (by decide)
theorem told_replay {w0 w : World} {L : List Th} {g : Nat} (h : Sep w0 w (dkT g toD2.flush :: L)) (hH : Wr.Half w0) : Calls Tryd.prog 37 #[.pointer (some ⟨g, 0, none⟩), .int .i64 2, .int .i64 8, .int .i64 0] w fun e w' => ∃ A c, e = .returned (.tuple #[.slice A 1 c, .int .i64 0]) ∧ Sep w0 w' (ownT kRC 26 (.slice A 1 c) [oneR 0] :: L) := by
  refine (h.replay hH toD2_bytes 2 8 0 (by decide) (by decide) (show 2 + 8 ≤ 24 by decide) (by decide)).mono ?_
  rintro e w' ⟨A, c, l, k, hl, hk, he, hS⟩
  rw [toD2_rep] at hl
  subst hl
  subst hk
  exact ⟨A, c, he, hS.up1.drop⟩
set_option maxHeartbeats 16000000 in
set_option maxRecDepth 100000 in
theorem told_calls (w : World) (hH : Wr.Half w) : Calls Tryd.prog 14 #[] w fun e w' => e = .returned (.bool true) ∧ Below w.heap.size w w' := by
  have HH := Aside0.mk hH
  have HS0 := Aside0.mk (Sep.refl w)
  have HONE := Aside0.mk (fun (n : Int) (W : World) => one_calls n W)
  have HOK := Aside0.mk (one_ok 3)
  have HMAY := Aside0.mk (one_may 3 (by decide) (by decide))
  have HBB := Aside0.mk (And.intro (bytes_encJ HOK.out HMAY.out.r8) (encJ_len HOK.out HMAY.out.r8))
  have HE17 := Aside0.mk (fun (W : World) (A : Option Addr) (c : Nat) (M : List Th) (h : Sep w W (ownT kRF 69 (.slice A 1 c) (oneR 3).r :: M)) => encode17_yes (oneR 3) HOK.out HMAY.out A c W h.own_C.1)
  have HE := Aside0.mk (fun (W : World) (A : Option Addr) (c : Nat) (M : List Th) (h : Sep w W (ownT kRF 69 (.slice A 1 c) (oneR 3).r :: M)) => encode_yes (oneR 3) HOK.out HMAY.out A c W (hH.below h.below) h.own_C.1)
  have HDE := Aside0.mk (decJ_enc HOK.out HMAY.out)
  generalize encJ (oneR 3) = b at HBB HE17 HE HDE
  have hz := (zero_of_info (P := Tryd.prog) (t := 26) (v := .agg zRC) (n := 34) (by unfold zRC; kernel_rfl)).1
  have HSZ := Aside0.mk (show (Tryd.prog.info? 26).map (·.size) = some zRC.size from size26 zRC_size)
  have HZs := Aside0.mk zRC_size
  have HZA := Aside0.mk zRC_all
  generalize hZE : zRC = Z at hz HSZ HZs HZA
  have HZE := Aside0.mk hZE
  clear hZE
  have HZC := Aside0.mk (fun (W : World) (A : Option Addr) (c : Nat) (M : List Th) (h : Sep w W (ownT (Kd.int .u8) 5 (.slice A 512 c) zeros :: M)) => (show Calls Tryd.prog 24 #[.slice A 512 c] W (fun e w' => e = .returned (.tuple #[.agg Z, .int .i64 61]) ∧ Below W.heap.size W w') from by
    have h2 := h.own_C
    rw [zeros_len] at h2
    rw [← HZE.out]
    exact decode_none zeros zeros_bytes A 512 c zeros_len h2.2 W (hH.below h.below) h2.1 decJ_zeros))
  clear hH
  go_enter Tryd.func14, Tryd.ntmps14
  go_upto_region 2 with (first
    | (go_at_call 36; (with_reducible refine (HONE.out 3 _).mono ?_); rintro e w1 ⟨A1, c1, rfl, h1⟩; have HS1 := Aside0.mk h1; clear h1)
    | (go_at_call 18; (with_reducible refine (HE17.out _ _ _ _ HS1.out).mono ?_); rintro e w2 ⟨A2, c2, rfl, h2⟩; have HS2 := Aside0.mk ((HS1.out.then_ h2).up1.drop); clear h2))
  go_upto_region 3 with (first
    | (go_at_call 36; (with_reducible refine (HONE.out 3 _).mono ?_); rintro e w3 ⟨A3, c3, rfl, h3⟩; have HS3 := Aside0.mk (HS2.out.then_ h3); clear h3)
    | (go_at_call 17; (with_reducible refine (HE.out _ _ _ _ HS3.out).mono ?_); rintro e w4 ⟨A4, c4, rfl, h4⟩; have HS4 := Aside0.mk ((HS3.out.then_ h4).up1.drop); clear h4))
  clear HS1 HS2 HS3 HS0 HE HE17
  have HC4 := Aside0.mk (show (Kd.int .u8).C w4 A4 512 b ∧ 512 ≤ c4 from by have h := HS4.out.own_C; rwa [HBB.out.2] at h)
  have HC2 := Aside0.mk (show (Kd.int .u8).C w4 A2 512 b ∧ 512 ≤ c2 from by have h := HS4.out.up1.own_C; rwa [HBB.out.2] at h)
  have HDC := Aside0.mk (decode_some b HBB.out.1 A2 512 c2 HBB.out.2 HC2.out.2 w4 (HH.out.below HS4.out.below) HC2.out.1 (oneR 3) HDE.out)
  have HSV := Aside0.mk (fun A c => RC.size HOK.out A c)
  have HAV := Aside0.mk (fun A c => RC.V_all (oneR 3) A c)
  have HVS := Aside0.mk (fun A c => (show ((oneR 3).V A c).toArray.size = 34 from by simpa using RC.V_len HOK.out A c))
  have HSM := Aside0.mk (fun (W : World) (t u : Th) (h : Sep w W (t :: u :: ownT (Kd.int .u8) 5 (.slice A4 512 c4) b :: ownT (Kd.int .u8) 5 (.slice A2 512 c2) b :: [])) => (show Calls Tryd.prog 19 #[.slice A4 512 c4, .slice A2 512 c2] W (fun e w' => e = .returned (.bool true) ∧ Below W.heap.size W w') from by
    have h4 := h.up2.own_C; have h2 := h.up3.own_C
    rw [HBB.out.2] at h4 h2
    have h5 := same19 h4.1 h2.1 HBB.out.2 HBB.out.2 h4.2 h2.2 (by decide)
    rwa [decide_eq_true (rfl : b = b)] at h5))
  go_upto_region 4 with (first
    | (go_at_call 24; (with_reducible refine HDC.out.mono ?_); rintro e w5 ⟨A5, c5, rfl, h5⟩; have HS5 := Aside0.mk (HS4.out.then_ h5); clear h5; generalize hV : ((oneR 3).V A5 c5).toArray = V3; have HV := Aside0.mk hV; have HSV3 := Aside0.mk (HSV.out A5 c5); have HAV3 := Aside0.mk (HAV.out A5 c5); have HVS3 := Aside0.mk (HVS.out A5 c5); rw [hV] at HSV3 HAV3 HVS3; clear hV)
    | ((with_reducible refine gate_store (ty := 26) rfl ?_); refine Sep.store_own rfl 26 _ _ rfl rfl rfl (HS5.out.push_alloc Z 26) HSV3.out (HZs.out.trans HVS3.out.symm) HAV3.out ?_; intro w6 h6; have HS6 := Aside0.mk h6; clear h6))
  generalize w5.heap.size = g5 at HS6 ⊢
  clear HS5 HS4 HC4 HC2 HDC HDE
  go_upto_region 5 with (first
    | (at_make; refine Kd.R_make (Kd.int .u8) (w0 := w6) w6.heap.size 5 rfl (N := 33) rfl 29 (.const (.int .i64 512)) (.const (.int .i64 512)) rfl (512 : Int) rfl rfl Tryd.underlying29 (.int .u8 0) 1 info_u8 rfl (by decide) (by decide) 0 (ok := fun _ => True) (okp := fun _ => True) rfl (fun _ h => h) trivial (by decide) (by decide) (Below.refl _ _) (Nat.le_refl _) ?_; intro v7 w7 hr hb hg hat; have hS7 := HS6.out.push_own (xs := zeros) hr hb; have HS7 := Aside0.mk hS7; clear hr hb hg hat hS7; obtain ⟨A7, c7, rfl⟩ := HS7.out.own_slice; rw [zeros_len] at HS7 ⊢)
    | (go_at_call 24; (with_reducible refine (HZC.out _ _ _ _ HS7.out).mono ?_); rintro e w8 ⟨rfl, hb⟩; have HS8 := Aside0.mk (HS7.out.drop.step hb); clear hb)
    | ((with_reducible refine gate_store (ty := 26) rfl ?_); refine Sep.store_own rfl 26 _ _ rfl rfl rfl (HS8.out.push_alloc Z 26) HSZ.out rfl HZA.out ?_; intro w9 h9; have HS9 := Aside0.mk h9.drop; clear h9))
  clear HS6 HS7 HS8 hz HZC
  have HHS := Aside0.mk (fun (W : World) (M : List Th) (h : Sep w W (cellsT g5 V3 26 :: M)) => (show ∀ j v, V3.toList[j]? = some v → W.cell? ((⟨g5, 0, none⟩ : Addr).add j) = some v from fun j v hv => seg_at (cs := V3.toList) h.cells.1 0 V3.toList (by rw [List.drop_zero]; exact List.take_of_length_le (Nat.le_refl _)) j v hv))
  have HSR := Aside0.mk (fun (W : World) (A8 : Option Addr) (c8 : Nat) (M : List Th) (h : Sep w W (ownT kRF 69 (.slice A8 1 c8) (oneR 3).r :: cellsT g5 V3 26 :: ownT kRF 69 (.slice A5 1 c5) (oneR 3).r :: M)) => (show Calls Tryd.prog 27 #[.agg V3, .agg ((oneR 3).V A8 c8).toArray] W (fun e w' => e = .returned (.bool true) ∧ Below W.heap.size W w') from by
    have h2 := sameRecord (oneR 3) HOK.out 1 rfl A5 A8 c5 c8 W h.up2.own_C.1 h.own_C.1
    rw [HV.out] at h2
    exact h2))
  have HSx := Aside0.mk (HS9.out.step (below_drew1 (Below.refl w9.heap.size w9)))
  clear HS9
  refine start_ (n := 22) (S := fun W => ∀ j v, V3.toList[j]? = some v → W.cell? ((⟨g5, 0, none⟩ : Addr).add j) = some v) (ds := []) (bb 22 0) (by kernel_rfl) rfl rfl (HHS.out _ _ HSx.out) (fun hHeld => ?_); refine with_tabW to5_tab to5_bits (fun HT_ HW_ => ?_)
  generalize w9.drew = wd at hHeld HSx ⊢
  refine pure_ (i := 0) (N := (some 37)) (v := ?_) (a' := ?_) (bb 22 1) rfl rfl (any_of HT_.out (by kernel_rfl)) (fun _ _ _ h => h) (Or.inl ⟨by rfl, ?_⟩) ?_ ?_
  rotate_left
  · intro w'
    go_simp
    with_reducible rfl
  rotate_left
  · simp only [Act.put, List.setIfInBounds_toArray, List.set_cons_zero, List.set_cons_succ, i64_w, i32_w]
    rfl
  refine pure_ (i := 1) (N := (some 38)) (v := ?_) (a' := ?_) (bb 22 3) rfl rfl (any_of HT_.out (by kernel_rfl)) (fun _ _ _ h => h) (Or.inl ⟨by rfl, ?_⟩) ?_ ?_
  rotate_left
  · intro w'
    go_simp
    with_reducible rfl
  rotate_left
  · simp only [Act.put, List.setIfInBounds_toArray, List.set_cons_zero, List.set_cons_succ, i64_w, i32_w]
    rfl
  refine pure_ (i := 2) (N := (some 39)) (v := ?_) (a' := ?_) (bb 22 7) rfl rfl (any_of HT_.out (by kernel_rfl)) (fun _ _ _ h => h) (Or.inl ⟨by rfl, ?_⟩) ?_ ?_
  rotate_left
  · intro w'
    go_simp
    with_reducible rfl
  rotate_left
  · simp only [Act.put, List.setIfInBounds_toArray, List.set_cons_zero, List.set_cons_succ, i64_w, i32_w]
    rfl
  refine pure_ (i := 3) (N := (some 40)) (v := ?_) (a' := ?_) (bb 22 15) rfl rfl (any_of HT_.out (by kernel_rfl)) (fun _ _ _ h => h) (Or.inl ⟨by rfl, ?_⟩) ?_ ?_
  rotate_left
  · intro w'
    go_simp
    with_reducible rfl
  rotate_left
  · simp only [Act.put, List.setIfInBounds_toArray, List.set_cons_zero, List.set_cons_succ, i64_w, i32_w]
    rfl
  refine pure_ (i := 4) (N := (some 41)) (v := ?_) (a' := ?_) (bb 22 31) rfl rfl (any_of HT_.out (by kernel_rfl)) (fun _ _ _ h => h) (Or.inl ⟨by rfl, ?_⟩) ?_ ?_
  rotate_left
  · intro w'
    go_simp
    with_reducible rfl
  rotate_left
  · simp only [Act.put, List.setIfInBounds_toArray, List.set_cons_zero, List.set_cons_succ, i64_w, i32_w]
    rfl
  refine pure_ (i := 5) (N := (some 42)) (v := ?_) (a' := ?_) (bb 22 63) rfl rfl (any_of HT_.out (by kernel_rfl)) (fun _ _ _ h => h) (Or.inl ⟨by rfl, ?_⟩) ?_ ?_
  rotate_left
  · intro w'
    go_simp
    with_reducible rfl
  rotate_left
  · simp only [Act.put, List.setIfInBounds_toArray, List.set_cons_zero, List.set_cons_succ, i64_w, i32_w]
    rfl
  refine pure_ (i := 6) (N := (some 43)) (v := ?_) (a' := ?_) (bb 22 127) rfl rfl (any_of HT_.out (by kernel_rfl)) (fun _ _ _ h => h) (Or.inl ⟨by rfl, ?_⟩) ?_ ?_
  rotate_left
  · intro w'
    go_simp
    with_reducible rfl
  rotate_left
  · simp only [Act.put, List.setIfInBounds_toArray, List.set_cons_zero, List.set_cons_succ, i64_w, i32_w]
    rfl
  refine pure_ (i := 7) (N := (some 44)) (v := ?_) (a' := ?_) (bb 22 255) rfl rfl (any_of HT_.out (by kernel_rfl)) (fun _ _ _ h => h) (Or.inl ⟨by rfl, ?_⟩) ?_ ?_
  rotate_left
  · intro w'
    go_simp
    with_reducible rfl
  rotate_left
  · simp only [Act.put, List.setIfInBounds_toArray, List.set_cons_zero, List.set_cons_succ, i64_w, i32_w]
    rfl
  refine pure_ (i := 8) (N := (some 45)) (v := ?_) (a' := ?_) (bb 22 511) rfl rfl (any_of HT_.out (by kernel_rfl)) (fun _ _ _ h => h) (Or.inl ⟨by rfl, ?_⟩) ?_ ?_
  rotate_left
  · intro w'
    go_simp
    with_reducible rfl
  rotate_left
  · simp only [Act.put, List.setIfInBounds_toArray, List.set_cons_zero, List.set_cons_succ, i64_w, i32_w]
    rfl
  refine pure_ (i := 9) (N := (some 46)) (v := ?_) (a' := ?_) (bb 22 1023) rfl rfl (any_of HT_.out (by kernel_rfl)) (fun _ _ _ h => h) (Or.inl ⟨by rfl, ?_⟩) ?_ ?_
  rotate_left
  · intro w'
    go_simp
    with_reducible rfl
  rotate_left
  · simp only [Act.put, List.setIfInBounds_toArray, List.set_cons_zero, List.set_cons_succ, i64_w, i32_w]
    rfl
  refine pure_ (i := 10) (N := (some 47)) (v := ?_) (a' := ?_) (bb 22 2047) rfl rfl (any_of HT_.out (by kernel_rfl)) (fun _ _ _ h => h) (Or.inl ⟨by rfl, ?_⟩) ?_ ?_
  rotate_left
  · intro w'
    go_simp
    with_reducible rfl
  rotate_left
  · simp only [Act.put, List.setIfInBounds_toArray, List.set_cons_zero, List.set_cons_succ, i64_w, i32_w]
    rfl
  refine pure_ (i := 11) (N := (some 48)) (v := ?_) (a' := ?_) (bb 22 4095) rfl rfl (any_of HT_.out (by kernel_rfl)) (fun _ _ _ h => h) (Or.inl ⟨by rfl, ?_⟩) ?_ ?_
  rotate_left
  · intro w'
    go_simp
    with_reducible rfl
  rotate_left
  · simp only [Act.put, List.setIfInBounds_toArray, List.set_cons_zero, List.set_cons_succ, i64_w, i32_w]
    rfl
  refine pure_ (i := 12) (N := (some 49)) (v := ?_) (a' := ?_) (bb 22 8191) rfl rfl (any_of HT_.out (by kernel_rfl)) (fun _ _ _ h => h) (Or.inl ⟨by rfl, ?_⟩) ?_ ?_
  rotate_left
  · intro w'
    go_simp
    with_reducible rfl
  rotate_left
  · simp only [Act.put, List.setIfInBounds_toArray, List.set_cons_zero, List.set_cons_succ, i64_w, i32_w]
    rfl
  refine one_ (i := 13) (N := (some 50)) (bb 22 16383) rfl rfl (one_of HT_.out (by kernel_rfl)) (by decide) (fun K hK => ?_)
  refine goes_ Tryd.func19 (by kernel_rfl) rfl #[.slice A4 512 c4, .slice A2 512 c2] (by rfl) rfl rfl (by (try simp only [List.map_toArray, List.map_cons, List.map_nil]); first | done | rfl) ?_
  with_reducible refine (HSM.out _ _ _ HSx.out).mono ?_
  rintro e wa ⟨rfl, hb⟩
  have HSa := Aside0.mk (HSx.out.step hb)
  clear hb
  refine ⟨_, rfl, ?_⟩
  refine hK.out _ _ (HHS.out _ _ HSa.out) (fun hHeld => ?_)
  clear hK K
  refine norm_ (a' := ?_) ?_ ?_
  rotate_left
  · show Act.put _ (some 50) _ = _
    simp only [Act.put, List.setIfInBounds_toArray, List.set_cons_zero, List.set_cons_succ, i64_w, i32_w]
    rfl
  refine pure_ (i := 14) (N := (some 51)) (v := ?_) (a' := ?_) (bb 22 32767) rfl rfl (any_of HT_.out (by kernel_rfl)) (fun _ _ _ h => h) (Or.inl ⟨by rfl, ?_⟩) ?_ ?_
  rotate_left
  · intro w'
    go_simp
    with_reducible rfl
  rotate_left
  · simp only [Act.put, List.setIfInBounds_toArray, List.set_cons_zero, List.set_cons_succ, i64_w, i32_w]
    rfl
  refine pure_ (i := 15) (N := (some 52)) (v := ?_) (a' := ?_) (bb 22 65535) rfl rfl (any_of HT_.out (by kernel_rfl)) (fun _ _ _ h => h) (Or.inl ⟨by rfl, ?_⟩) ?_ ?_
  rotate_left
  · intro w'
    go_simp
    with_reducible rfl
  rotate_left
  · simp only [Act.put, List.setIfInBounds_toArray, List.set_cons_zero, List.set_cons_succ, i64_w, i32_w]
    rfl
  refine pure_ (i := 16) (N := (some 53)) (v := ?_) (a' := ?_) (bb 22 131071) rfl rfl (any_of HT_.out (by kernel_rfl)) (fun _ _ _ h => h) (Or.inl ⟨by rfl, ?_⟩) ?_ ?_
  rotate_left
  · intro w'
    go_simp
    with_reducible rfl
  rotate_left
  · simp only [Act.put, List.setIfInBounds_toArray, List.set_cons_zero, List.set_cons_succ, i64_w, i32_w]
    rfl
  refine take_ (i := 17) (N := (some 54)) (v := .agg V3) (a' := ?_) (bb 22 262143) rfl rfl (take_ofW HT_.out HW_.out (by kernel_rfl)) (fun _ _ _ h => h) (Or.inl ⟨by rfl, fun w' s0 => yields_ld 26 _ rfl ⟨g5, 0, none⟩ rfl V3 _ s0 Tryd.underlying26 rfl HSV3.out⟩) hHeld ?_ ?_
  rotate_left
  · simp only [Act.put, List.setIfInBounds_toArray, List.set_cons_zero, List.set_cons_succ, i64_w, i32_w]
    rfl
  refine one_ (i := 18) (N := (some 55)) (bb 22 524287) rfl rfl (one_of HT_.out (by kernel_rfl)) (by decide) (fun K hK => ?_)
  refine goes_ Tryd.func36 (by kernel_rfl) rfl #[.int .i64 3] (by rfl) rfl rfl (by (try simp only [List.map_toArray, List.map_cons, List.map_nil]); first | done | rfl) ?_
  with_reducible refine (HONE.out 3 _).mono ?_
  rintro e wb ⟨Ab, cb, rfl, hb⟩
  have HSb := Aside0.mk (HSa.out.then_ hb)
  clear hb
  refine ⟨_, rfl, ?_⟩
  refine hK.out _ _ (HHS.out _ _ HSb.out.up1) (fun hHeld => ?_)
  clear hK K
  refine norm_ (a' := ?_) ?_ ?_
  rotate_left
  · show Act.put _ (some 55) _ = _
    simp only [Act.put, List.setIfInBounds_toArray, List.set_cons_zero, List.set_cons_succ, i64_w, i32_w]
    rfl
  refine one_ (i := 19) (N := (some 56)) (bb 22 1048575) rfl rfl (one_of HT_.out (by kernel_rfl)) (by decide) (fun K hK => ?_)
  refine goes_ Tryd.func27 (by kernel_rfl) rfl #[.agg V3, .agg ((oneR 3).V Ab cb).toArray] (by rfl) rfl rfl (by (try simp only [List.map_toArray, List.map_cons, List.map_nil]); first | done | rfl) ?_
  with_reducible refine (HSR.out _ _ _ _ HSb.out).mono ?_
  rintro e wc ⟨rfl, hb⟩
  have HSc := Aside0.mk (HSb.out.step hb)
  clear hb
  refine ⟨_, rfl, ?_⟩
  refine hK.out _ _ (HHS.out _ _ HSc.out.up1) (fun hHeld => ?_)
  clear hK K
  refine norm_ (a' := ?_) ?_ ?_
  rotate_left
  · show Act.put _ (some 56) _ = _
    simp only [Act.put, List.setIfInBounds_toArray, List.set_cons_zero, List.set_cons_succ, i64_w, i32_w]
    rfl
  refine pure_ (i := 20) (N := (some 57)) (v := ?_) (a' := ?_) (bb 22 2097151) rfl rfl (any_of HT_.out (by kernel_rfl)) (fun _ _ _ h => h) (Or.inl ⟨by rfl, ?_⟩) ?_ ?_
  rotate_left
  · intro w'
    go_simp
    with_reducible rfl
  rotate_left
  · simp only [Act.put, List.setIfInBounds_toArray, List.set_cons_zero, List.set_cons_succ, i64_w, i32_w]
    rfl
  refine pure_ (i := 21) (N := (some 58)) (v := ?_) (a' := ?_) (bb 22 4194303) rfl rfl (any_of HT_.out (by kernel_rfl)) (fun _ _ _ h => h) (Or.inl ⟨by rfl, ?_⟩) ?_ ?_
  rotate_left
  · intro w'
    go_simp
    with_reducible rfl
  rotate_left
  · simp only [Act.put, List.setIfInBounds_toArray, List.set_cons_zero, List.set_cons_succ, i64_w, i32_w]
    rfl
  refine done_ (done_of HT_.out (by kernel_rfl)) ?_
  clear hHeld HT_ HW_ HSx HSa HSb HSM HSR HHS HSV3 HAV3 HVS3 HV HSV HAV HVS HBB HOK HMAY
  have HSn := Aside0.mk (Sep.start HSc.out.below)
  clear HSc
  have HNW := Aside0.mk (fun (W : World) (h : Sep w W []) => (show Calls Tryd.prog 29 #[.int .i64 24] W (fun e w' => ∃ g, e = .returned (.tuple #[.pointer (some ⟨g, 0, none⟩), .int .i64 0]) ∧ Sep w w' [dkT g toD1]) from h.new 24 (by decide) (by decide)))
  have HOK := Aside0.mk (one_ok 0)
  have HFP := Aside0.mk (fun A c W => field26_1 (oneR 0) rfl A c W)
  have HFR := Aside0.mk (fun (A : Option Addr) (c : Nat) (W : World) => (show (Instr.field 26 (.agg ((oneR 0).V A c).toArray) 2).run Tryd.prog W = .ok (.slice A 1 c) W from field26_2 (oneR 0) rfl A c W))
  go_upto_region 13 with (first
    | (go_at_call 29; (with_reducible refine (HNW.out _ HSn.out).mono ?_); rintro e w10 ⟨g, rfl, h1⟩; have HSd := Aside0.mk h1; clear h1)
    | (go_at_call 30; (with_reducible refine (told_open HSd.out HH.out).mono ?_); rintro e w11 ⟨gj, A11, c11, rfl, h1⟩; have HSe := Aside0.mk h1; clear h1))
  clear HSn HSd HNW
  go_upto_region 14 with (first
    | (go_at_call 36; (with_reducible refine (HONE.out 0 _).mono ?_); rintro e w13 ⟨An, cn, rfl, h1⟩; have HSg := Aside0.mk ((HSf.out.then_ h1).up1.drop); clear h1)
    | (go_at_call 32; (with_reducible refine (told_add HSg.out).mono ?_); rintro e w14 ⟨gw, rfl, h1⟩; have HSh := Aside0.mk h1; clear h1)
    | (go_at_call 36; (with_reducible refine (HONE.out 0 _).mono ?_); rintro e w12 ⟨Am, cm, rfl, h1⟩; have HSf := Aside0.mk (HSe.out.then_ h1); clear h1)
    | ((with_reducible refine gate_field (ty := 26) (f := 1) rfl ?_); refine wpList_fieldw rfl 26 _ 1 rfl _ _ rfl (HFP.out _ _ _) ?_)
    | ((with_reducible refine gate_field (ty := 26) (f := 2) rfl ?_); refine wpList_fieldw rfl 26 _ 2 rfl _ _ rfl (HFR.out _ _ _) ?_))
  clear HSe HSf HSg HFP HFR
  go_upto_region 18 with (first
    | (go_at_call 33; (with_reducible refine (told_step1 HSh.out HH.out).mono ?_); rintro e w15 ⟨rfl, h1⟩; have HSi := Aside0.mk h1; clear h1 HSh)
    | (go_at_call 33; (with_reducible refine (HSi.out.step_flush rfl rfl).mono ?_); rintro e w16 ⟨rfl, h1⟩; have HSj := Aside0.mk h1; clear h1 HSi))
  have HSk := Aside0.mk (show Sep w w16 (dkT g toD2.flush :: cellsT gj (jC g 2 8 0 1) 134 :: []) from HSj.out.drop.up1)
  clear HSj
  go_upto_region 19 with (go_at_call 37; (with_reducible refine (told_replay HSk.out HH.out).mono ?_); rintro e w17 ⟨Ar, cr, rfl, h1⟩; have HSl := Aside0.mk h1; clear h1)
  clear HSk
  have HSA := Aside0.mk (fun (W : World) (A1 A2 : Option Addr) (c1 c2 : Nat) (M : List Th) (h : Sep w W (ownT kRC 26 (.slice A2 1 c2) [oneR 0] :: ownT kRC 26 (.slice A1 1 c1) [oneR 0] :: M)) => sameAll [oneR 0] 1 rfl A1 A2 c1 c2 W h.up1.own_C.1 h.own_C.1)
  have HVS := Aside0.mk (fun A c => (show ((oneR 0).V A c).toArray.size = 34 from by simpa using RC.V_len HOK.out A c))
  go_wp2_with (first
    | (go_at_call 34; (with_reducible refine (next_calls HSl.out.up1.cells.1).mono ?_); rintro e w18 ⟨rfl, hb⟩; have HSm := Aside0.mk (HSl.out.step hb); clear hb)
    | (go_at_call 36; (with_reducible refine (HONE.out 0 _).mono ?_); rintro e w19 ⟨Ao, co, rfl, h1⟩; have HSo := Aside0.mk (HSm.out.then_ h1); clear h1)
    | ((with_reducible refine gate_bs (ty := 53) rfl ?_); refine gate_guard (by rfl) ?_; dsimp only; refine wpList_bs26 rfl _ rfl _ rfl (HVS.out Ao co) ?_; have HSp := Aside0.mk (HSo.out.push_rec (oneR 0) HOK.out))
    | (go_at_call 39; (with_reducible refine (HSA.out _ _ _ _ _ _ HSp.out).mono ?_); rintro e w20 ⟨rfl, hb⟩; have HSq := Aside0.mk (HSp.out.step hb); clear hb))
  go_ret
  exact ⟨rfl, HSq.out.below⟩
end Go.Proofs.YtagodmmpkapgnaaDoor.M

namespace Go.Proofs.YtagodmmpkapgnaaDoor.M
open Go.RowKit Go.Maps Go.Proofs.YtagodmmpkapgnaaDoorW.PrintWords Go.Proofs.YtagodmmpkapgnaaDoorW.PrintLast Go.Proofs.YtagodmmpkapgnaaDoorW.PrintMore Go.Proofs.YtagodmmpkapgnaaDoor.Wr Go.Proofs.YtagodmmpkapgnaaDoor.Pl Go.Proofs.YtagodmmpkapgnaaDoor.P Go.Proofs.YtagodmmpkapgnaaDoor.A
set_option linter.unusedVariables false
set_option linter.unusedSimpArgs false
def it7_T : Bool × List (List Nat × List Nat) := (true, [([], []), ([], []), ([0, 1], [0, 1]), ([2], [2]), ([], []), ([], []), ([4, 5], [4, 5]), ([6], [6]), ([3, 7], [3, 7])])
def it7_B : List Nat := [0, 0, 3, 7, 0, 0, 48, 112, 255]
theorem it7_tab : rtab .any (opsOf Tryd.f20 7) = it7_T := by kernel_rfl
theorem it7_bits : waitsOk it7_T.2 it7_B = true := by kernel_rfl
def mk1 : RF := ⟨List.replicate 32 0, -201, 0⟩
def mk2 : RF := ⟨List.replicate 32 0, -202, 0⟩
theorem mk1_ok : mk1.Ok := ⟨by decide, fun x hx => by rw [List.eq_of_mem_replicate hx]; omega⟩
theorem mk2_ok : mk2.Ok := ⟨by decide, fun x hx => by rw [List.eq_of_mem_replicate hx]; omega⟩
set_option maxRecDepth 100000 in
theorem built_mk1 : Tryd.prog.built 69 [(1, .int .i64 (-201))] = some mk1.V.toArray := by kernel_rfl
set_option maxRecDepth 100000 in
theorem built_mk2 : Tryd.prog.built 69 [(1, .int .i64 (-202))] = some mk2.V.toArray := by kernel_rfl
set_option maxRecDepth 100000 in
theorem run_bsmk (W : World) : (Instr.buildSlice 24 2 #[(0, .agg mk1.V.toArray), (1, .agg mk2.V.toArray)]).run Tryd.prog W = .ok (.slice (some ⟨W.heap.size, 0, none⟩) 2 2) (W.alloc (.cells (mk1.V ++ mk2.V).toArray 69)) := by
  kernel_rfl
theorem C_mk (W : World) : kRF.C (W.alloc (.cells (mk1.V ++ mk2.V).toArray 69)) (some ⟨W.heap.size, 0, none⟩) 2 [mk1, mk2] := by
  have h := Reps.snoc (Reps.snoc (Reps.none (kRF.K (W.alloc (.cells (mk1.V ++ mk2.V).toArray 69))) 34) (p := mk1) (c := mk1.V) ⟨mk1_ok, rfl⟩ (RF.V_len mk1_ok)) (p := mk2) (c := mk2.V) ⟨mk2_ok, rfl⟩ (RF.V_len mk2_ok)
  have h2 := World.ownsRow_lit (base := W.heap.size) (e := 69) (size := 34) W (mk1.V ++ mk2.V).toArray 2 (Nat.le_refl _) (by decide) (by simp [RF.V_len mk1_ok, RF.V_len mk2_ok])
  have h4 : (W.alloc (.cells (mk1.V ++ mk2.V).toArray 69)).ownsRow W.heap.size 69 34 (.slice (some ⟨W.heap.size, 0, none⟩) 2 2) 2 (mk1.V ++ mk2.V) := by simpa using h2
  obtain ⟨A, c, he, hl, hr⟩ := OwnRow.reads (show OwnRow (kRF.K (W.alloc (.cells (mk1.V ++ mk2.V).toArray 69))) 69 34 (W.alloc (.cells (mk1.V ++ mk2.V).toArray 69)) W.heap.size (.slice (some ⟨W.heap.size, 0, none⟩) 2 2) [mk1, mk2] from ⟨_, h4, h⟩)
  injection he with e1 e2 e3
  subst e1
  exact hr
section
variable {ops : Array Oper} {rest : List Oper} {o : Oper} {a : Act} {Q : Exit → Act → World → Prop} {W : World}
theorem wpList_bsmk (hgd : o.guard = none) (x y : Operand) (ho : o.op = .buildSlice 24 2 #[(0, x), (1, y)]) (hx : a.eval x = .agg mk1.V.toArray) (hy : a.eval y = .agg mk2.V.toArray)
    (hk : wpList Tryd.prog ops Q rest (a.put o.dst (.slice (some ⟨W.heap.size, 0, none⟩) 2 2)) (W.alloc (.cells (mk1.V ++ mk2.V).toArray 69))) : wpList Tryd.prog ops Q (o :: rest) a W :=
  wpList_plain hgd fun K hK => by
    have h1 := run_bsmk W
    unfold Oper.wp execOp
    simp only [ho, hx, hy, Sem.run_bind, List.map_toArray, List.map_cons, List.map_nil, h1, Result.andThen_ok]
    exact hK _ _ hk
end
set_option maxHeartbeats 4000000 in
set_option maxRecDepth 100000 in
theorem cut15 (A : Option Addr) (m c : Nat) (hc : m ≤ c) (hm : m ≤ 9223372036854775807) (w : World) : Calls Tryd.prog 15 #[.slice A m c] w fun e w' => e = .returned (.slice A (min m 12) c) ∧ w' = w := by
  by_cases h : 12 < m
  · have t1 : decide ((12 : Int) < (m : Int)) = true := decide_eq_true (by omega)
    have hc1 : (12 : Int) ≤ (c : Int) := by omega
    have HM := Aside0.mk (show min m 12 = 12 by omega)
    clear h hm hc
    go_enter Tryd.func15, Tryd.ntmps15
    go_wp2
    go_ret
    rw [HM.out]
    exact ⟨rfl, rfl⟩
  · have t1 : decide ((12 : Int) < (m : Int)) = false := decide_eq_false (by omega)
    have HM := Aside0.mk (show min m 12 = m by omega)
    clear h hm hc
    go_enter Tryd.func15, Tryd.ntmps15
    go_wp2
    go_ret
    rw [HM.out]
    exact ⟨rfl, rfl⟩
set_option maxHeartbeats 4000000 in
set_option maxRecDepth 100000 in
theorem laid16 (l : List RF) (n : Nat) (hn : l.length = n) (A : Option Addr) (c : Nat) (w : World) (hC : kRF.C w A n l) (hl : n ≤ 1000) :
    Calls Tryd.prog 16 #[.slice A n c] w fun e w' => ∃ A' c', e = .returned (.slice A' n c') ∧ n + 2 ≤ c' ∧ Sep w w' [ownT kRF 69 (.slice A' (n + 2) c') (l ++ [mk1, mk2])] := by
  have HS0 := Aside0.mk ((Sep.refl w).push_nil kRF 69)
  have HC := Aside0.mk (fun W (hb : Below w.heap.size w W) => Kd.C_below hC hb)
  have HL := Aside0.mk (And.intro hn hl)
  have HB1 := Aside0.mk built_mk1
  have HB2 := Aside0.mk built_mk2
  clear hC hn hl
  go_enter Tryd.func16, Tryd.ntmps16
  go_upto_region 4 with (first
    | ((with_reducible refine gate_builtin (b := .append) (xs := #[.tmp 4, .tmp 5]) rfl ?_); refine Sep.app_refs rfl _ _ rfl l rfl rfl HS0.out (HC.out _ HS0.out.below) ?aL ?_; (case aL => have := HL.out; simp; omega); intro v1 w1 h1; have HS1 := Aside0.mk h1; clear h1; obtain ⟨A1, c1, rfl⟩ := HS1.out.own_slice)
    | ((with_reducible refine gate_build (ty := 69) rfl ?_); refine wpList_buildTo rfl 69 _ rfl (some 8) rfl mk1.V.toArray ?aB ?_; (case aB => (simp only [List.map_toArray, List.map_cons, List.map_nil]; exact HB1.out)))
    | ((with_reducible refine gate_build (ty := 69) rfl ?_); refine wpList_buildTo rfl 69 _ rfl (some 9) rfl mk2.V.toArray ?aB ?_; (case aB => (simp only [List.map_toArray, List.map_cons, List.map_nil]; exact HB2.out)))
    | ((with_reducible refine gate_bs (ty := 24) rfl ?_); refine wpList_bsmk rfl _ _ rfl rfl rfl ?_)
    | ((with_reducible refine gate_builtin (b := .append) (xs := #[.tmp 7, .tmp 10]) rfl ?_); refine Sep.app_refs rfl _ _ rfl [mk1, mk2] rfl rfl (HS1.out.step (below_alloc (Below.refl _ _) _)) (C_mk _) ?aL ?_; (case aL => have := HL.out; simp; omega); intro v2 w2 h2; have HS2 := Aside0.mk h2; clear h2; obtain ⟨A2, c2, rfl⟩ := HS2.out.own_slice))
  have HLL := Aside0.mk (show ([] ++ l ++ [mk1, mk2]).length = n + 2 from by have := HL.out.1; simp; omega)
  have HCC := Aside0.mk (show n + 2 ≤ c2 from by have h := HS2.out.own_C.2; rwa [HLL.out] at h)
  have hc2 : (n : Int) ≤ (c2 : Int) := by have := HCC.out; omega
  go_wp2
  go_ret
  refine ⟨A2, c2, rfl, HCC.out, ?_⟩
  have h := HS2.out
  rw [HLL.out] at h
  exact h
set_option maxHeartbeats 8000000 in
set_option maxRecDepth 100000 in
theorem intact20 (l : List RF) (n : Nat) (hn : l.length = n) (A1 A2 : Option Addr) (c1 c2 : Nat) (w : World) (hC1 : kRF.C w A1 (n + 2) (l ++ [mk1, mk2])) (hC2 : kRF.C w A2 n l) (hc : n + 2 ≤ c1) (hl : n ≤ 1000) :
    Calls Tryd.prog 20 #[.slice A1 n c1, .slice A2 n c2] w fun e w' => e = .returned (.bool true) ∧ Below w.heap.size w w' := by
  have HC := Aside0.mk (And.intro hC1 hC2)
  have HB0 := Aside0.mk (Below.refl w.heap.size w)
  have hn0 : (n : Int) ≤ 1000 := by omega
  have hc0 : (n : Int) + 2 ≤ (c1 : Int) := by omega
  obtain ⟨_, ad1, e1, _⟩ := at_RF hC1 0 (by omega)
  subst e1
  have HE1 := Aside0.mk (fun i (hi : i < n + 2) W (hw : Below w.heap.size w W) => (show ∀ j v, ((l ++ [mk1, mk2]).getD i zRF).V.toArray.toList[j]? = some v → W.cell? ((ad1.add (i * 34)).add j) = some v from fun j v hv => by
    obtain ⟨_, ad', e, h⟩ := at_RF (Kd.C_below hC1 hw) i hi
    cases e
    rw [Addr.add_add]
    exact h j v (by simpa using hv)))
  have HG0 := Aside0.mk (show (l ++ [mk1, mk2]).getD n zRF = mk1 from by rw [List.getD_eq_getElem?_getD, List.getElem?_append_right (by omega), hn, Nat.sub_self]; rfl)
  have HG1 := Aside0.mk (show (l ++ [mk1, mk2]).getD (n + 1) zRF = mk2 from by rw [List.getD_eq_getElem?_getD, List.getElem?_append_right (by omega), hn, Nat.add_sub_cancel_left]; rfl)
  have HGi := Aside0.mk (fun i (hi : i < n) => (show (l ++ [mk1, mk2]).getD i zRF = l.getD i zRF from by rw [List.getD_eq_getElem?_getD, List.getElem?_append_left (by omega), ← List.getD_eq_getElem?_getD]))
  have hcn : ¬ c1 = n := by omega
  have HB1 := Aside0.mk built_mk1
  have HB2 := Aside0.mk built_mk2
  clear hC1 hC2 hn hc hl
  go_enter Tryd.func20, Tryd.ntmps20
  go_upto_region 2 with (fail)
  have HA1 := Aside0.mk (show ∀ j v, mk1.V.toArray.toList[j]? = some v → w.cell? ((ad1.add (n * 34)).add j) = some v from by have h := HE1.out n (by omega) w (Below.refl _ _); rwa [HG0.out] at h)
  have HA2 := Aside0.mk (show ∀ j v, mk2.V.toArray.toList[j]? = some v → w.cell? (((ad1.add (n * 34)).add 34).add j) = some v from by have h := HE1.out (n + 1) (by omega) w (Below.refl _ _); rw [HG1.out] at h; intro j v hv; have h2 := h j v hv; rwa [show (n + 1) * 34 = n * 34 + 34 by omega, ← Addr.add_add] at h2)
  generalize ad1.add (n * 34) = ap at HA1 HA2 ⊢
  generalize c1 - n = cp
  have HS1 := Aside0.mk (show (Tryd.prog.info? 69).map (·.size) = some mk1.V.toArray.size from size69 (by simpa using RF.V_len mk1_ok))
  have HS2 := Aside0.mk (show (Tryd.prog.info? 69).map (·.size) = some mk2.V.toArray.size from size69 (by simpa using RF.V_len mk2_ok))
  have HEQ1 := Aside0.mk (fun W => (show (Op.equalIn 10000 69 (.agg mk1.V.toArray) (.agg mk1.V.toArray)).run Tryd.prog W = .ok true W from by have h := eq_ref 9997 mk1_ok mk1_ok W; rwa [(ref_eq mk1 mk1).2 rfl] at h))
  have HEQ2 := Aside0.mk (fun W => (show (Op.equalIn 10000 69 (.agg mk2.V.toArray) (.agg mk2.V.toArray)).run Tryd.prog W = .ok true W from by have h := eq_ref 9997 mk2_ok mk2_ok W; rwa [(ref_eq mk2 mk2).2 rfl] at h))
  generalize mk1.V.toArray = K1 at HA1 HS1 HEQ1 HB1
  generalize mk2.V.toArray = K2 at HA2 HS2 HEQ2 HB2
  go_upto_region 4 with (first
    | ((with_reducible refine gate_load (ty := 69) rfl ?_); refine wpList_ldw ?_ 69 _ rfl ap ?_ K1 _ HA1.out Tryd.underlying69 rfl HS1.out ?_; exact rfl; exact rfl; skip)
    | ((with_reducible refine gate_load (ty := 69) rfl ?_); refine wpList_ldw ?_ 69 _ rfl (ap.add 34) ?_ K2 _ HA2.out Tryd.underlying69 rfl HS2.out ?_; exact rfl; exact rfl; skip)
    | ((with_reducible refine gate_build (ty := 69) rfl ?_); refine gate_guard (by rfl) ?_; dsimp only; refine wpList_buildTo rfl 69 _ rfl (some 24) rfl K1 ?aB ?_; (case aB => (simp only [List.map_toArray, List.map_cons, List.map_nil]; exact HB1.out)))
    | ((with_reducible refine gate_build (ty := 69) rfl ?_); refine gate_guard (by rfl) ?_; dsimp only; refine wpList_buildTo rfl 69 _ rfl (some 31) rfl K2 ?aB ?_; (case aB => (simp only [List.map_toArray, List.map_cons, List.map_nil]; exact HB2.out)))
    | ((with_reducible refine gate_neq (t := 69) rfl ?_); refine wpList_neqw ?_ 69 69 _ _ rfl K1 K1 ?_ ?_ guard69 true (HEQ1.out _) ?_; exact rfl; exact rfl; exact rfl; skip)
    | ((with_reducible refine gate_neq (t := 69) rfl ?_); refine wpList_neqw ?_ 69 69 _ _ rfl K2 K2 ?_ ?_ guard69 true (HEQ2.out _) ?_; exact rfl; exact rfl; exact rfl; skip))
  clear HA1 HA2 HS1 HS2 HEQ1 HEQ2 HB1 HB2
  go_upto_region 5 with (fail)
  go_loopg [6] n (fun kq v6 wr => ∃ i : Nat, v6 = .int .i64 i ∧ Aside0 (i + kq = n) ∧ Aside0 (Below w.heap.size w wr))
  case atStart => exact ⟨0, rfl, ⟨by omega⟩, HB0⟩
  case round =>
    obtain ⟨i, rfl, HJ, HB⟩ := hrel
    clear HB0
    by_cases hi : i < n
    · have t0 : decide ((i : Int) < (n : Int)) = true := decide_eq_true (by omega)
      have hi1 : (i : Int) < (n : Int) := by omega
      have HI := Aside0.mk hi
      obtain ⟨hx, ad2, e2, _⟩ := at_RF (Kd.C_below HC.out.2 HB.out) i hi
      subst e2
      have HE2 := Aside0.mk (fun W (hw : Below w.heap.size w W) => (show ∀ j v, (l.getD i zRF).V.toArray.toList[j]? = some v → W.cell? ((ad2.add (i * 34)).add j) = some v from fun j v hv => by
        obtain ⟨_, ad', e, h⟩ := at_RF (Kd.C_below HC.out.2 hw) i hi
        cases e
        rw [Addr.add_add]
        exact h j v (by simpa using hv)))
      have HE3 := Aside0.mk (fun W (hw : Below w.heap.size w W) => (show ∀ j v, (l.getD i zRF).V.toArray.toList[j]? = some v → W.cell? ((ad1.add (i * 34)).add j) = some v from by have h := HE1.out i (by omega) W hw; rwa [HGi.out i hi] at h))
      generalize l.getD i zRF = x at hx HE2 HE3
      have HSX := Aside0.mk (show (Tryd.prog.info? 69).map (·.size) = some x.V.toArray.size from size69 (by simpa using RF.V_len hx))
      have HEQ := Aside0.mk (fun W => (show (Op.equalIn 10000 69 (.agg x.V.toArray) (.agg x.V.toArray)).run Tryd.prog W = .ok true W from by have h := eq_ref 9997 hx hx W; rwa [(ref_eq x x).2 rfl] at h))
      have HHS := Aside0.mk (fun W (h : Below w.heap.size w W) => (show (∀ j v, x.V.toArray.toList[j]? = some v → W.cell? ((ad1.add (i * 34)).add j) = some v) ∧ (∀ j v, x.V.toArray.toList[j]? = some v → W.cell? ((ad2.add (i * 34)).add j) = some v) from ⟨HE3.out _ h, HE2.out _ h⟩))
      clear hx
      go_upto_region 7 with (fail)
      have HBz := Aside0.mk (below_step HB.out (below_drew1 (Below.refl wr.heap.size wr)))
      clear HB
      refine start_ (n := 9) (S := fun W => (∀ j v, x.V.toArray.toList[j]? = some v → W.cell? ((ad1.add (i * 34)).add j) = some v) ∧ (∀ j v, x.V.toArray.toList[j]? = some v → W.cell? ((ad2.add (i * 34)).add j) = some v)) (ds := []) (bb 9 0) (by kernel_rfl) rfl rfl (HHS.out _ HBz.out) (fun hHeld => ?_); refine with_tabW it7_tab it7_bits (fun HT_ HW_ => ?_)
      generalize wr.drew = wd at hHeld HBz ⊢
      refine pure_ (i := 0) (N := (some 40)) (v := ?_) (a' := ?_) (bb 9 1) rfl rfl (any_of HT_.out (by kernel_rfl)) (fun _ _ _ h => h) (Or.inl ⟨by rfl, ?_⟩) ?_ ?_
      rotate_left
      · intro w'
        go_simp
        with_reducible rfl
      rotate_left
      · simp only [Act.put, List.setIfInBounds_toArray, List.set_cons_zero, List.set_cons_succ, i64_w, i32_w]
        rfl
      refine pure_ (i := 1) (N := (some 41)) (v := ?_) (a' := ?_) (bb 9 3) rfl rfl (any_of HT_.out (by kernel_rfl)) (fun _ _ _ h => h) (Or.inl ⟨by rfl, ?_⟩) ?_ ?_
      rotate_left
      · intro w'
        go_simp
        with_reducible rfl
      rotate_left
      · simp only [Act.put, List.setIfInBounds_toArray, List.set_cons_zero, List.set_cons_succ, i64_w, i32_w]
        rfl
      refine pure_ (i := 2) (N := (some 42)) (v := ?_) (a' := ?_) (bb 9 7) rfl rfl (any_of HT_.out (by kernel_rfl)) (fun _ _ _ h => h) (Or.inl ⟨by rfl, ?_⟩) ?_ ?_
      rotate_left
      · intro w'
        go_simp
        with_reducible rfl
      rotate_left
      · simp only [Act.put, List.setIfInBounds_toArray, List.set_cons_zero, List.set_cons_succ, i64_w, i32_w]
        rfl
      refine take_ (i := 3) (N := (some 43)) (v := .agg x.V.toArray) (a' := ?_) (bb 9 15) rfl rfl (take_ofW HT_.out HW_.out (by kernel_rfl)) (fun _ _ _ h => h) (Or.inl ⟨by rfl, fun w' s0 => yields_ld 69 _ rfl (ad1.add (i * 34)) rfl x.V.toArray _ s0.1 Tryd.underlying69 rfl HSX.out⟩) hHeld ?_ ?_
      rotate_left
      · simp only [Act.put, List.setIfInBounds_toArray, List.set_cons_zero, List.set_cons_succ, i64_w, i32_w]
        rfl
      refine pure_ (i := 4) (N := (some 44)) (v := ?_) (a' := ?_) (bb 9 31) rfl rfl (any_of HT_.out (by kernel_rfl)) (fun _ _ _ h => h) (Or.inl ⟨by rfl, ?_⟩) ?_ ?_
      rotate_left
      · intro w'
        go_simp
        with_reducible rfl
      rotate_left
      · simp only [Act.put, List.setIfInBounds_toArray, List.set_cons_zero, List.set_cons_succ, i64_w, i32_w]
        rfl
      refine pure_ (i := 5) (N := (some 45)) (v := ?_) (a' := ?_) (bb 9 63) rfl rfl (any_of HT_.out (by kernel_rfl)) (fun _ _ _ h => h) (Or.inl ⟨by rfl, ?_⟩) ?_ ?_
      rotate_left
      · intro w'
        go_simp
        with_reducible rfl
      rotate_left
      · simp only [Act.put, List.setIfInBounds_toArray, List.set_cons_zero, List.set_cons_succ, i64_w, i32_w]
        rfl
      refine pure_ (i := 6) (N := (some 46)) (v := ?_) (a' := ?_) (bb 9 127) rfl rfl (any_of HT_.out (by kernel_rfl)) (fun _ _ _ h => h) (Or.inl ⟨by rfl, ?_⟩) ?_ ?_
      rotate_left
      · intro w'
        go_simp
        with_reducible rfl
      rotate_left
      · simp only [Act.put, List.setIfInBounds_toArray, List.set_cons_zero, List.set_cons_succ, i64_w, i32_w]
        rfl
      refine take_ (i := 7) (N := (some 47)) (v := .agg x.V.toArray) (a' := ?_) (bb 9 255) rfl rfl (take_ofW HT_.out HW_.out (by kernel_rfl)) (fun _ _ _ h => h) (Or.inl ⟨by rfl, fun w' s0 => yields_ld 69 _ rfl (ad2.add (i * 34)) rfl x.V.toArray _ s0.2 Tryd.underlying69 rfl HSX.out⟩) hHeld ?_ ?_
      rotate_left
      · simp only [Act.put, List.setIfInBounds_toArray, List.set_cons_zero, List.set_cons_succ, i64_w, i32_w]
        rfl
      refine pure_ (i := 8) (N := (some 48)) (v := .bool (!true)) (a' := ?_) (bb 9 511) rfl rfl (any_of HT_.out (by kernel_rfl)) (fun _ _ _ h => h) (Or.inl ⟨by rfl, fun w' => yields_neq 69 69 _ _ rfl x.V.toArray x.V.toArray rfl rfl guard69 true (HEQ.out w')⟩) ?_ ?_
      rotate_left
      · simp only [Act.put, List.setIfInBounds_toArray, List.set_cons_zero, List.set_cons_succ, i64_w, i32_w]
        rfl
      refine done_ (done_of HT_.out (by kernel_rfl)) ?_
      clear hHeld HT_ HW_
      go_wp2
      go_roundg (n - (i + 1))
      case measure => have := HJ.out; have := HI.out; omega
      case rel => exact ⟨i + 1, rfl, ⟨by have := HJ.out; have := HI.out; omega⟩, HBz⟩
    · have hi3 : i = n := by have := HJ.out; omega
      have t0 : decide ((i : Int) < (n : Int)) = false := decide_eq_false (by omega)
      clear hi3
      go_wp2
      go_ret
      exact ⟨rfl, HB.out⟩
end Go.Proofs.YtagodmmpkapgnaaDoor.M

namespace Go.Proofs.YtagodmmpkapgnaaDoor.M
open Go.RowKit Go.Maps Go.Proofs.YtagodmmpkapgnaaDoorW.PrintWords Go.Proofs.YtagodmmpkapgnaaDoorW.PrintLast Go.Proofs.YtagodmmpkapgnaaDoorW.PrintMore Go.Proofs.YtagodmmpkapgnaaDoor.Wr Go.Proofs.YtagodmmpkapgnaaDoor.Pl Go.Proofs.YtagodmmpkapgnaaDoor.P Go.Proofs.YtagodmmpkapgnaaDoor.A
set_option linter.unusedVariables false
set_option linter.unusedSimpArgs false
def cutC (s : RC) : RC := ⟨s.n, s.p, s.r.take 12⟩
theorem cutC_ok {s : RC} (h : s.Ok) : (cutC s).Ok := ⟨h.k, h.b, fun x hx => h.r x (List.mem_of_mem_take hx)⟩
theorem cutC_len (s : RC) : (cutC s).r.length = min s.r.length 12 := by show (s.r.take 12).length = _; rw [List.length_take, Nat.min_comm]
theorem C_cut {w : World} {A : Option Addr} {s : RC} (h : kRF.C w A s.r.length s.r) : kRF.C w A (min s.r.length 12) (cutC s).r := by
  have h2 := Kd.C_take (m := min s.r.length 12) h (Nat.min_le_left _ _)
  have e : s.r.take (min s.r.length 12) = s.r.take 12 := by
    by_cases hx : s.r.length ≤ 12
    · rw [Nat.min_eq_left hx, List.take_length, List.take_of_length_le hx]
    · rw [Nat.min_eq_right (by omega)]
  rw [e] at h2
  have h3 := cutC_len s
  unfold cutC at h3
  unfold cutC
  rwa [h3] at h2
theorem cells_agg {w0 w : World} {L : List Th} {g e : Nat} {V : Array Value} (h : Sep w0 w (cellsT g V e :: L)) : ∀ j v, V.toList[j]? = some v → w.cell? ((⟨g, 0, none⟩ : Addr).add j) = some v := fun j v hv => seg_at (cs := V.toList) h.cells.1 0 V.toList (by rw [List.drop_zero]; exact List.take_of_length_le (Nat.le_refl _)) j v hv
theorem C_pre {w : World} {A : Option Addr} {n m : Nat} {l r : List RF} (h : kRF.C w A m (l ++ r)) (hn : l.length = n) : kRF.C w A n l := by
  have h1 := h.1
  have h0 : kRF.C w A (l ++ r).length (l ++ r) := by rw [h1]; exact h
  have h2 := Kd.C_take (m := n) h0 (by rw [List.length_append]; omega)
  have e : (l ++ r).take n = l := by rw [← hn, List.take_append_of_le_length (Nat.le_refl _), List.take_length]
  rw [e, hn] at h2
  exact h2
end Go.Proofs.YtagodmmpkapgnaaDoor.M

namespace Go.Proofs.YtagodmmpkapgnaaDoor.M
open Go.RowKit Go.Maps Go.Proofs.YtagodmmpkapgnaaDoorW.PrintWords Go.Proofs.YtagodmmpkapgnaaDoorW.PrintLast Go.Proofs.YtagodmmpkapgnaaDoorW.PrintMore Go.Proofs.YtagodmmpkapgnaaDoor.Wr Go.Proofs.YtagodmmpkapgnaaDoor.Pl Go.Proofs.YtagodmmpkapgnaaDoor.P Go.Proofs.YtagodmmpkapgnaaDoor.A
set_option linter.unusedVariables false
set_option linter.unusedSimpArgs false
theorem C_take8 {w : World} {A : Option Addr} {n : Nat} {l : List Int} (h : (Kd.int .u8).C w A n l) (m : Nat) (hm : m ≤ n) : (Kd.int .u8).C w A m (l.take m) := by
  have h1 := h.1
  have h0 : (Kd.int .u8).C w A l.length l := by rw [h1]; exact h
  have h2 := Kd.C_take (m := m) h0 (by omega)
  rwa [show (l.take m).length = m by rw [List.length_take]; omega] at h2
theorem addr_add (ad : Addr) (i : Nat) (h : 0 < i) : ad.add i = ⟨ad.block, ad.off + i, none⟩ := by
  have h := add_field ad 0 i h
  rwa [Nat.zero_add, show ad.add 0 = ad from rfl] at h
set_option maxHeartbeats 4000000 in
set_option maxRecDepth 100000 in
theorem summed22 (b : List Int) (hb : bytes_ b) (hm : b.length = 512) (A : Option Addr) (c : Nat) (hc : 512 ≤ c) (w : World) (hC : (Kd.int .u8).C w A 512 b) :
    Calls Tryd.prog 22 #[.slice A 512 c] w fun e w' => ∃ v, e = .returned v ∧ Sep w w' [ownT (Kd.int .u8) 5 v (b.take 508 ++ fixL (crc (b.take 508)) 4)] := by
  have HS0 := Aside0.mk ((Sep.refl w).push_nil (Kd.int .u8) 5)
  have HC := Aside0.mk (fun W (hb : Below w.heap.size w W) => Kd.C_below (C_take8 hC 508 (by decide)) hb)
  have HB := Aside0.mk (bytes_take hb 508)
  have HLB := Aside0.mk (show (b.take 508).length = 508 from by rw [List.length_take, hm]; rfl)
  have hc1 : (508 : Int) ≤ (c : Int) := by omega
  generalize b.take 508 = x at HC HB HLB ⊢
  clear hC hb hm hc
  go_enter Tryd.func22, Tryd.ntmps22
  go_upto_region 2 with ((with_reducible refine gate_builtin (b := .append) (xs := #[.const (.slice none 0 0), .tmp 5]) rfl ?_); refine Sep.app_row rfl _ _ rfl x rfl rfl HS0.out (HC.out _ HS0.out.below) ?aL ?_; (case aL => simp); intro v1 w1 h1; have HS1 := Aside0.mk h1; clear h1)
  have HS2 := Aside0.mk (show Sep w w1 (ownT (Kd.int .u8) 5 v1 x :: []) from HS1.out)
  obtain ⟨A1, c1, rfl⟩ := HS2.out.own_slice
  rw [HLB.out] at HS2 ⊢
  have HSU := Aside0.mk (Sep.crc17 HS2.out HB.out HLB.out (by decide))
  have HCR := Aside0.mk (crc_lt x)
  generalize hq : crc x = q at HCR HSU
  have HQ := Aside0.mk hq
  clear hq
  have hq1 : (q : Int) < 4294967296 := by have := HCR.out; omega
  go_wp2_with (first
    | (go_at_call 68; (with_reducible refine HSU.out.mono ?_); rintro e wa ⟨rfl, h4⟩; have HSo := Aside0.mk h4; clear h4)
    | (go_at_call 67; (with_reducible refine (Sep.fix17_4 HSo.out (by have := HLB.out; omega) (q : Int) (Int.natCast_nonneg q)).mono ?_); rintro e wb ⟨vb, rfl, h4⟩; have HSp := Aside0.mk h4; clear h4))
  go_ret
  exact ⟨vb, rfl, by rw [HQ.out]; have h := HSp.out; rwa [Int.toNat_natCast] at h⟩
end Go.Proofs.YtagodmmpkapgnaaDoor.M

namespace Go.Proofs.YtagodmmpkapgnaaDoor.M
open Go.RowKit Go.Maps Go.Proofs.YtagodmmpkapgnaaDoorW.PrintWords Go.Proofs.YtagodmmpkapgnaaDoorW.PrintLast Go.Proofs.YtagodmmpkapgnaaDoorW.PrintMore Go.Proofs.YtagodmmpkapgnaaDoor.Wr Go.Proofs.YtagodmmpkapgnaaDoor.Pl Go.Proofs.YtagodmmpkapgnaaDoor.P Go.Proofs.YtagodmmpkapgnaaDoor.A Go.Proofs.YtagodmmpkapgnaaDoor.Crc
set_option linter.unusedVariables false
set_option linter.unusedSimpArgs false
theorem emod_of_tmod (a n : Int) (hn : 0 < n) : a % n = if a.tmod n < 0 then a.tmod n + n else a.tmod n := by
  have h1 : n * a.tdiv n + a.tmod n = a := Int.mul_tdiv_add_tmod a n
  have h2 : a % n = a.tmod n % n := by
    conv => lhs; rw [← h1]
    rw [Int.add_comm, Int.add_mul_emod_self_left]
  have h3 := Int.lt_tmod_of_pos a hn
  have h4 := Int.tmod_lt_of_pos a hn
  rw [h2]
  split
  · rename_i h
    rw [← Int.add_emod_right, Int.emod_eq_of_lt (by omega) (by omega)]
  · rename_i h
    exact Int.emod_eq_of_lt (by omega) h4
theorem place28 (a n : Int) (hn : 0 < n) (hn2 : n ≤ 4611686018427387904) (w : World) : Calls Tryd.prog 28 #[.int .i64 a, .int .i64 n] w fun e w' => e = .returned (.int .i64 (a % n)) ∧ Below w.heap.size w w' := by
  refine (kilnlaw17_place.calls a n (a % n) w ?_).mono ?_
  · unfold kilnlaw17_place.f
    have h3 := Int.lt_tmod_of_pos a hn
    rw [if_neg (by omega), emod_of_tmod a n hn]
    split
    · rw [w64 (by omega) (by omega)]
    · rfl
  · rintro e w' ⟨rfl, k, rfl⟩
    exact ⟨rfl, pw_below_drewN (Below.refl _ _) _⟩
section
variable {P : Program} {ops : Array Oper} {rest : List Oper} {o : Oper} {a : Act} {w : World} {Q : Exit → Act → World → Prop}
end
end Go.Proofs.YtagodmmpkapgnaaDoor.M

namespace Go.Proofs.YtagodmmpkapgnaaDoor.M
open Go.RowKit Go.Maps Go.Proofs.YtagodmmpkapgnaaDoorW.PrintWords Go.Proofs.YtagodmmpkapgnaaDoorW.PrintLast Go.Proofs.YtagodmmpkapgnaaDoorW.PrintMore Go.Proofs.YtagodmmpkapgnaaDoor.Wr Go.Proofs.YtagodmmpkapgnaaDoor.Pl Go.Proofs.YtagodmmpkapgnaaDoor.P Go.Proofs.YtagodmmpkapgnaaDoor.A
set_option linter.unusedVariables false
set_option linter.unusedSimpArgs false
open Go.Proofs.YtagodmmpkapgnaaDoor.Crc
theorem own_form {w0 w : World} {L : List Th} {v : Value} {xs : List Int} (h : Sep w0 w (ownT (Kd.int .u8) 5 v xs :: L)) (hp : 0 < xs.length) : ∃ g c, v = .slice (some ⟨g, 0, none⟩) xs.length c := by
  obtain ⟨base, ok, hr⟩ := h.own
  obtain ⟨g, c, e, _⟩ := Kd.R_form hr hp
  exact ⟨g, c, e⟩
end Go.Proofs.YtagodmmpkapgnaaDoor.M

namespace Go.Proofs.YtagodmmpkapgnaaDoor.M
open Go.RowKit Go.Maps Go.Proofs.YtagodmmpkapgnaaDoorW.PrintWords Go.Proofs.YtagodmmpkapgnaaDoorW.PrintLast Go.Proofs.YtagodmmpkapgnaaDoorW.PrintMore Go.Proofs.YtagodmmpkapgnaaDoor.Wr Go.Proofs.YtagodmmpkapgnaaDoor.Pl Go.Proofs.YtagodmmpkapgnaaDoor.P Go.Proofs.YtagodmmpkapgnaaDoor.A
set_option linter.unusedVariables false
set_option linter.unusedSimpArgs false
structure JAt (s : DS) (fr n : Nat) (R : Nat → RC) (lo hi : Nat) : Prop where
  n1 : 1 ≤ n
  fit : fr + n ≤ s.n
  bytes : ∀ i, i < s.n → bytes_ (s.cur i)
  ok : ∀ x, lo ≤ x → x < hi → (R x).Ok ∧ (R x).May ∧ (R x).n = (x : Int)
  recs : ∀ x, lo ≤ x → x < hi → hi ≤ x + n → s.cur (fr + x % n) = encJ (R x)
  old : ∀ i, i < n → ∀ r, decJ (s.cur (fr + i)) = some r → r.n < (hi : Int)
theorem JAt.fresh (N fr n : Nat) (R : Nat → RC) (lo : Nat) (h1 : 1 ≤ n) (hf : fr + n ≤ N) : JAt (DS.fresh N (List.replicate N zeros)) fr n R lo lo :=
  ⟨h1, hf, fun i hi => by rw [fresh_cur (n := N) hi]; exact zeros_bytes, fun x h1 h2 => by omega, fun x h1 h2 => by omega, fun i hi r hr => by
    rw [fresh_cur (n := N) (show fr + i < N by omega), decJ_zeros] at hr
    cases hr⟩
theorem JAt.congr {s s' : DS} {fr n lo hi : Nat} {R : Nat → RC} (h : JAt s fr n R lo hi) (hn : s'.n = s.n) (hc : ∀ i, i < s.n → s'.cur i = s.cur i) : JAt s' fr n R lo hi :=
  ⟨h.n1, by rw [hn]; exact h.fit, fun i hi => by rw [hn] at hi; rw [hc i hi]; exact h.bytes i hi, h.ok, fun x h1 h2 h3 => by rw [hc _ (by have := Nat.mod_lt x h.n1; have := h.fit; omega)]; exact h.recs x h1 h2 h3, fun i hi r hr => by rw [hc _ (by have := h.fit; omega)] at hr; exact h.old i hi r hr⟩
theorem JAt.rd {s : DS} {fr n lo hi : Nat} {R : Nat → RC} (h : JAt s fr n R lo hi) (k : Nat) : JAt (s.rdN k) fr n R lo hi := h.congr (DS.rdN_n s k) (fun i _ => by rw [DS.rdN_cur])
theorem mod_ne {x y n : Nat} (h1 : x < y) (h2 : y < x + n) : x % n ≠ y % n := by
  intro h
  have hn : 0 < n := by omega
  have e : y = x + (y - x) := by omega
  have h3 : (y - x) % n = y - x := Nat.mod_eq_of_lt (by omega)
  have h4 : (y - x) % n = 0 := by
    have h5 := Nat.sub_mod_eq_zero_of_mod_eq h.symm
    exact h5
  omega
theorem JAt.put {s : DS} {fr n lo hi : Nat} {R : Nat → RC} (h : JAt s fr n R lo hi) (hl : lo ≤ hi) (ho : (R hi).Ok) (hm : (R hi).May) (hn : (R hi).n = (hi : Int)) : JAt (s.put (fr + hi % n) (encJ (R hi))) fr n R lo (hi + 1) := by
  have hq := Nat.mod_lt hi h.n1
  refine ⟨h.n1, h.fit, fun i hi' => ?_, fun x h1 h2 => ?_, fun x h1 h2 h3 => ?_, fun i hi' r hr => ?_⟩
  · by_cases e : i = fr + hi % n
    · subst e; rw [put_cur]; exact bytes_encJ ho hm.r8
    · rw [put_cur_ne _ _ e]; exact h.bytes i hi'
  · by_cases e : x = hi
    · subst e; exact ⟨ho, hm, hn⟩
    · exact h.ok x h1 (by omega)
  · by_cases e : x = hi
    · subst e; exact put_cur _ _ _
    · have := mod_ne (x := x) (y := hi) (n := n) (by omega) (by omega)
      rw [put_cur_ne _ _ (by omega)]
      exact h.recs x h1 (by omega) (by omega)
  · by_cases e : i = hi % n
    · subst e
      rw [put_cur, decJ_enc ho hm] at hr
      cases hr
      rw [hn]; omega
    · rw [put_cur_ne _ _ (by omega)] at hr
      have := h.old i hi' r hr
      omega
theorem JAt.flush {s : DS} {fr n lo hi : Nat} {R : Nat → RC} (h : JAt s fr n R lo hi) : JAt s.flush fr n R lo hi := h.congr rfl (fun i hi => flush_cur s hi)
end Go.Proofs.YtagodmmpkapgnaaDoor.M

namespace Go.Proofs.YtagodmmpkapgnaaDoor.M
open Go.RowKit Go.Maps Go.Proofs.YtagodmmpkapgnaaDoorW.PrintWords Go.Proofs.YtagodmmpkapgnaaDoorW.PrintLast Go.Proofs.YtagodmmpkapgnaaDoorW.PrintMore Go.Proofs.YtagodmmpkapgnaaDoor.Wr Go.Proofs.YtagodmmpkapgnaaDoor.Pl Go.Proofs.YtagodmmpkapgnaaDoor.P Go.Proofs.YtagodmmpkapgnaaDoor.A Go.Proofs.YtagodmmpkapgnaaDoor.Crc
set_option linter.unusedVariables false
set_option linter.unusedSimpArgs false
def outJ (s : RC) : List Int := if errJ s = 0 then encJ s else []
def gotJ (b : List Int) : RC := (decJ b).getD noRC
def okJ (b : List Int) : Bool := (decJ b).isSome
def erJ (b : List Int) : Int := if okJ b = true then 0 else 61
theorem outJ_len (s : RC) (hs : s.Ok) : (outJ s).length ≤ 512 := by
  unfold outJ
  split
  · rename_i h
    rw [encJ_len hs ((err_iff s).1 h).r8]
    exact Nat.le_refl _
  · exact Nat.zero_le _
theorem gotJ_ok {b : List Int} (hb : bytes_ b) : (gotJ b).Ok := by
  unfold gotJ
  cases h : decJ b with
  | none => exact noRC_ok
  | some r => exact (decJ_some hb h).1
theorem erJ_eq (b : List Int) : (erJ b == 0) = okJ b := by
  unfold erJ
  cases okJ b <;> rfl
theorem encode_any (s : RC) (hs : s.Ok) (A : Option Addr) (c : Nat) (w : World) (hH : Wr.Half w) (hC : kRF.C w A s.r.length s.r) : Calls Tryd.prog 17 #[.agg (s.V A c).toArray] w fun e w' => ∃ A' c', e = .returned (.tuple #[.slice A' (outJ s).length c', .int .i64 (errJ s)]) ∧ Sep w w' [ownT (Kd.int .u8) 5 (.slice A' (outJ s).length c') (outJ s)] := by
  by_cases h : errJ s = 0
  · have e : outJ s = encJ s := by unfold outJ; rw [if_pos h]
    have hm := (err_iff s).1 h
    rw [e, encJ_len hs hm.r8, h]
    exact encode_yes s hs hm A c w hH hC
  · have e : outJ s = [] := by unfold outJ; rw [if_neg h]
    rw [e]
    refine (encode_no s hs h A c w hC).mono ?_
    rintro e w' ⟨he, hb⟩
    exact ⟨none, 0, he, (Sep.start hb).push_nil (Kd.int .u8) 5⟩
theorem encode17_any (s : RC) (hs : s.Ok) (A : Option Addr) (c : Nat) (w : World) (hC : kRF.C w A s.r.length s.r) : Calls Tryd.prog 18 #[.agg (s.V A c).toArray] w fun e w' => ∃ A' c', e = .returned (.tuple #[.slice A' (outJ s).length c', .int .i64 (errJ s)]) ∧ Sep w w' [ownT (Kd.int .u8) 5 (.slice A' (outJ s).length c') (outJ s)] := by
  by_cases h : errJ s = 0
  · have e : outJ s = encJ s := by unfold outJ; rw [if_pos h]
    have hm := (err_iff s).1 h
    rw [e, encJ_len hs hm.r8, h]
    exact encode17_yes s hs hm A c w hC
  · have e : outJ s = [] := by unfold outJ; rw [if_neg h]
    rw [e]
    refine (encode17_no s hs h A c w hC).mono ?_
    rintro e w' ⟨he, hb⟩
    exact ⟨none, 0, he, (Sep.start hb).push_nil (Kd.int .u8) 5⟩
theorem decode_any (b : List Int) (hb : bytes_ b) (A : Option Addr) (m c : Nat) (hm : b.length = m) (hc : m ≤ c) (w : World) (hH : Wr.Half w) (hC : (Kd.int .u8).C w A m b) :
    Calls Tryd.prog 24 #[.slice A m c] w fun e w' => ∃ A' c', e = .returned (.tuple #[.agg ((gotJ b).V A' c').toArray, .int .i64 (erJ b)]) ∧ Sep w w' [ownT kRF 69 (.slice A' (gotJ b).r.length c') (gotJ b).r] := by
  cases h : decJ b with
  | none =>
    have e1 : gotJ b = noRC := by unfold gotJ; rw [h]; rfl
    have e2 : erJ b = 61 := by unfold erJ okJ; rw [h]; rfl
    rw [e1, e2]
    refine (decode_none b hb A m c hm hc w hH hC h).mono ?_
    rintro e w' ⟨he, hb⟩
    exact ⟨none, 0, he, (Sep.start hb).push_nil kRF 69⟩
  | some r =>
    have e1 : gotJ b = r := by unfold gotJ; rw [h]; rfl
    have e2 : erJ b = 0 := by unfold erJ okJ; rw [h]; rfl
    rw [e1, e2]
    exact decode_some b hb A m c hm hc w hH hC r h
theorem decode17_any (b : List Int) (hb : bytes_ b) (A : Option Addr) (m c : Nat) (hm : b.length = m) (hc : m ≤ c) (w : World) (hC : (Kd.int .u8).C w A m b) :
    Calls Tryd.prog 25 #[.slice A m c] w fun e w' => ∃ A' c', e = .returned (.tuple #[.agg ((gotJ b).V A' c').toArray, .bool (okJ b)]) ∧ Sep w w' [ownT kRF 69 (.slice A' (gotJ b).r.length c') (gotJ b).r] := by
  cases h : decJ b with
  | none =>
    have e1 : gotJ b = noRC := by unfold gotJ; rw [h]; rfl
    have e2 : okJ b = false := by unfold okJ; rw [h]; rfl
    rw [e1, e2]
    refine (decode17_none b hb A m c hm hc w hC h).mono ?_
    rintro e w' ⟨he, hb⟩
    exact ⟨none, 0, he, (Sep.start hb).push_nil kRF 69⟩
  | some r =>
    have e1 : gotJ b = r := by unfold gotJ; rw [h]; rfl
    have e2 : okJ b = true := by unfold okJ; rw [h]; rfl
    rw [e1, e2]
    exact decode17_some b hb A m c hm hc w hC r h
section
variable {ops : Array Oper} {rest : List Oper} {o : Oper} {a : Act} {Q : Exit → Act → World → Prop} {w0 W : World} {L : List Th}
theorem Sep.copy_row (hgd : o.guard = none) (s x : Operand) (ho : o.op = .call { callee := .builtin .copy, args := #[s, x], argTypes := #[29, 29] })
    {v u : Value} {xs ys : List Int} (hs : a.eval s = v) (hx : a.eval x = u) (h : Sep w0 W (ownT (Kd.int .u8) 5 v xs :: ownT (Kd.int .u8) 5 u ys :: L)) (hl : xs.length = ys.length)
    (hk : ∀ w1, Sep w0 w1 (ownT (Kd.int .u8) 5 v ys :: ownT (Kd.int .u8) 5 u ys :: L) → wpList Tryd.prog ops Q rest (a.put o.dst (.int .i64 (ys.length : Int))) w1) : wpList Tryd.prog ops Q (o :: rest) a W := by
  obtain ⟨A, c, e⟩ := h.up1.own_slice
  subst e
  have hC := h.up1.own_C.1
  obtain ⟨ok, hfresh, hr, back⟩ := h.open_own
  refine Kd.R_copy (enc := Value.int .u8) (h1 := fun _ => rfl) (0 : Int) (w0 := W) 0 hgd s x 29 29 5 ho Tryd.underlying29 (by kernel_rfl) v xs ys A ys.length c ok hs hx hr hC (Below.refl _ _) (Nat.zero_le _) ?_
  intro w1 hown _ hg
  rw [hl, Nat.min_self, List.take_length, List.drop_of_length_le (by omega), List.append_nil] at hown
  have h2 := hk w1 (back v ys w1 hown hg)
  rw [hl, Nat.min_self]
  exact h2
end
def k3 : Kd (Int × Int × Int) where
  sz := 3
  E := []
  K := fun _ x cs => cs = [.int .i64 x.1, .int .i64 x.2.1, .int .i64 x.2.2]
  M := fun _ _ _ x cs => cs = [.int .i64 x.1, .int .i64 x.2.1, .int .i64 x.2.2]
  K_len := by rintro w x cs rfl; rfl
  K_one := by
    rintro w x cs rfl u hu
    simp only [List.mem_cons, List.not_mem_nil, or_false] at hu
    rcases hu with rfl | rfl | rfl <;> rfl
  K_below := fun _ h => h
  K_of_M := fun h => h
  M_mono := fun _ h => h
  M_bound := fun h => h
  M_move := fun _ h => h
  M_lower := fun _ h => h
theorem at_k3 {w : World} {A : Option Addr} {n : Nat} {xs : List (Int × Int × Int)} (h : Kd.C k3 w A n xs) (i : Nat) (h1 : i < n) : ∃ ad, A = some ad ∧ w.cell? (ad.add (i * 3)) = some (.int .i64 (xs.getD i (0, 0, 0)).1) ∧ w.cell? ((ad.add (i * 3)).add 1) = some (.int .i64 (xs.getD i (0, 0, 0)).2.1) ∧ w.cell? ((ad.add (i * 3)).add 2) = some (.int .i64 (xs.getD i (0, 0, 0)).2.2) := by
  obtain ⟨ad, c, e, _, hK, hc0⟩ := Kd.C_get h (0, 0, 0) (i : Int) (by omega) (by omega)
  rw [Int.toNat_natCast] at hK hc0
  have hK : c = [.int .i64 (xs.getD i (0, 0, 0)).1, .int .i64 (xs.getD i (0, 0, 0)).2.1, .int .i64 (xs.getD i (0, 0, 0)).2.2] := hK
  subst hK
  refine ⟨ad, e, ?_, ?_, ?_⟩
  · exact hc0 0 _ rfl
  · rw [Addr.add_add]; exact hc0 1 _ rfl
  · rw [Addr.add_add]; exact hc0 2 _ rfl
end Go.Proofs.YtagodmmpkapgnaaDoor.M

namespace Go.Proofs.YtagodmmpkapgnaaDoor.M
open Go.RowKit Go.Maps Go.Proofs.YtagodmmpkapgnaaDoorW.PrintWords Go.Proofs.YtagodmmpkapgnaaDoorW.PrintLast Go.Proofs.YtagodmmpkapgnaaDoorW.PrintMore Go.Proofs.YtagodmmpkapgnaaDoor.Wr Go.Proofs.YtagodmmpkapgnaaDoor.Pl Go.Proofs.YtagodmmpkapgnaaDoor.P Go.Proofs.YtagodmmpkapgnaaDoor.A
set_option linter.unusedVariables false
set_option linter.unusedSimpArgs false
open Go.Proofs.YtagodmmpkapgnaaDoor.Crc
def ag22_T : Bool × List (List Nat × List Nat) := (true, [([], []), ([0], [0]), ([], []), ([], []), ([2, 3], [2, 3]), ([4], [4]), ([5], [5]), ([], []), ([7], [7]), ([8], [8]), ([6, 9], [6, 9]), ([], []), ([], []), ([11, 12], [11, 12]), ([13], [13]), ([14], [14]), ([1, 10, 0, 1, 2, 3, 4, 5, 6, 7, 8, 9, 10, 11, 12, 13, 14, 15], [1, 10]), ([16, 0, 1, 2, 3, 4, 5, 6, 7, 8, 9, 10, 11, 12, 13, 14, 15], [16]), ([17, 15, 10, 0, 1, 2, 3, 4, 5, 6, 7, 8, 9, 10, 11, 12, 13, 14, 15], [15, 17])])
def ag22_B : List Nat := [0, 1, 0, 0, 12, 28, 60, 0, 128, 384, 1020, 0, 0, 6144, 14336, 30720, 65535, 131071, 262143]
theorem ag22_tab : rtab .any (opsOf Tryd.f7 22) = ag22_T := by kernel_rfl
theorem ag22_bits : waitsOk ag22_T.2 ag22_B = true := by kernel_rfl
theorem Sep.put_ref {w0 w : World} {L : List Th} {g n cap : Nat} {xs : List RF} (h : Sep w0 w (ownT kRF 69 (.slice (some ⟨g, 0, none⟩) n cap) xs :: L)) (i : Nat) (hi : i < n) (f : Int) :
    Sep w0 (w.setCell ⟨g, i * 34 + 32, none⟩ (.int .i64 f)) (ownT kRF 69 (.slice (some ⟨g, 0, none⟩) n cap) (xs.set i { xs.getD i zRF with f := f }) :: L) := by
  obtain ⟨F, ⟨⟨base, h2⟩, h3⟩, h4, h5⟩ := h.open1
  have hC := (Kd.R_reads' h2).2.2
  have hn := (Kd.R_reads' h2).1
  obtain ⟨hx, ad, e, hcell⟩ := at_RF hC i (by omega)
  cases e
  obtain ⟨hx1, ad2, e2, hcell2⟩ := at_RF hC i (by omega)
  generalize xs.getD i zRF = x at hx hcell
  have h6 := Kd.R_seg (okp := fun _ => False) h2 (i : Int) (by omega) (by omega) (c := x.V) (seg := [.int .i64 f]) (j := 32) (RF.V_len hx) (fun j u hu => by
    have h7 := hcell j u hu
    rw [add0'] at h7
    rw [Int.toNat_natCast]
    exact h7) (by show 32 + 1 ≤ 34; decide) (x' := { x with f := f }) ⟨⟨hx.k, hx.b⟩, by
      show x.V.take 32 ++ [Value.int .i64 f] ++ x.V.drop (32 + 1) = refV x.h f x.l
      have e1 : x.V = nums .u8 x.h ++ [.int .i64 x.f, .int .i64 x.l] := rfl
      have e2 : (nums .u8 x.h).length = 32 := by rw [nums_length, hx.k]
      rw [e1, List.take_append_of_le_length (by omega), List.take_of_length_le (by omega), List.drop_append, List.drop_of_length_le (by omega), e2, List.append_assoc]
      rfl⟩ (fun k hk => hk.elim)
  rw [Int.toNat_natCast] at h6
  refine h5 (ownT _ 69 _ _) _ F ⟨⟨base, h6.1⟩, fun b hb => by simpa [World.setCell] using h3 b hb⟩ (fun b hb => .inl hb) ((Chg.refl F w).setCell (h2.1 g rfl) _ _)
theorem own_formR {w0 w : World} {L : List Th} {v : Value} {xs : List RF} (h : Sep w0 w (ownT kRF 69 v xs :: L)) (hp : 0 < xs.length) : ∃ g c, v = .slice (some ⟨g, 0, none⟩) xs.length c := by
  obtain ⟨base, ok, hr⟩ := h.own
  obtain ⟨g, c, e, _⟩ := Kd.R_form hr hp
  exact ⟨g, c, e⟩
theorem refs_len {l : List RF} {k : Nat} (h : l.length = k) : (l ++ [mk1, mk2]).length = k + 2 := by rw [List.length_append, h]; rfl
theorem byte_up (c : Int) (h : 0 ≤ c ∧ c < 256) : 0 ≤ (c + 1) % 256 ∧ (c + 1) % 256 < 256 := by omega
set_option maxHeartbeats 16000000 in
set_option maxRecDepth 100000 in
theorem again_calls (s : RC) (hs : s.Ok) (A : Option Addr) (c : Nat) (hc : s.r.length ≤ c) (T : List (Int × Int × Int)) (At : Option Addr) (ct : Nat) (w : World) (hH : Wr.Half w) (hC : kRF.C w A s.r.length s.r) (hT : k3.C w At T.length T) :
    Calls Tryd.prog 7 #[.agg (s.V A c).toArray, .slice At T.length ct] w fun e w' => e = .returned (.bool true) ∧ Below w.heap.size w w' := by
  have HS0 := Aside0.mk ((Sep.refl w).push_alloc (s.V A c).toArray 26)
  have HH := Aside0.mk (fun W (hb : Below w.heap.size w W) => hH.below hb)
  have HOK := Aside0.mk (cutC_ok hs)
  have HTO := Aside0.mk (fun W (hb : Below w.heap.size w W) => told_calls W (hH.below hb))
  have HCU := Aside0.mk (fun W => cut15 A s.r.length c hc (by have := hC.2.1; omega) W)
  have HCC := Aside0.mk (fun W (hb : Below w.heap.size w W) => Kd.C_below (C_cut hC) hb)
  have HK := Aside0.mk (show (cutC s).r.length = min s.r.length 12 from cutC_len s)
  have HK2 := Aside0.mk (show min s.r.length 12 ≤ 12 from Nat.min_le_right _ _)
  have HV33 := Aside0.mk (RC.V33 hs A c)
  have HSET := Aside0.mk (fun (A' : Option Addr) (c' : Nat) => (show (s.V A c).toArray.setIfInBounds 33 (.slice A' (min s.r.length 12) c') = ((cutC s).V A' c').toArray from RC.set33 s.n s.p hs.k s.r (cutC s).r A A' c c' _ (cutC_len s)))
  have HSZ0 := Aside0.mk (RC.size hs A c)
  have HVA0 := Aside0.mk (RC.V_all s A c)
  have HVS0 := Aside0.mk (show (s.V A c).toArray.size = 34 from by simpa using RC.V_len hs A c)
  generalize min s.r.length 12 = k at HCU HCC HK HK2 HSET
  have HLA := Aside0.mk (fun W (hb : Below w.heap.size w W) => laid16 (cutC s).r k HK.out A c W (HCC.out W hb) (by have := HK2.out; omega))
  have HTC := Aside0.mk (fun W (hb : Below w.heap.size w W) => Kd.C_below hT hb)
  have hTL : (T.length : Int) ≤ 9223372036854775807 := by have := hT.2.1; omega
  have HONE := Aside0.mk (fun (n : Int) (W : World) => one_calls n W)
  have HE7 := Aside0.mk (fun (W : World) (A : Option Addr) (c : Nat) (M : List Th) (h : Sep w W (ownT kRF 69 (.slice A 1 c) (oneR 7).r :: M)) => encode_yes (oneR 7) (one_ok 7) (one_may 7 (by decide) (by decide)) A c W (hH.below h.below) h.own_C.1)
  have HB7 := Aside0.mk (show bytes_ (encJ (oneR 7)) ∧ (encJ (oneR 7)).length = 512 from ⟨bytes_encJ (one_ok 7) (show 1 ≤ 8 by decide), encJ_len (one_ok 7) (show 1 ≤ 8 by decide)⟩)
  have hz := (zero_of_info (P := Tryd.prog) (t := 26) (v := .agg zRC) (n := 34) (by unfold zRC; kernel_rfl)).1
  have HZs := Aside0.mk zRC_size
  generalize hZE : zRC = Z at hz HZs
  have HZE := Aside0.mk hZE
  clear hZE
  clear hs hc hH hC hT
  generalize hV0 : (s.V A c).toArray = V0 at HS0 HSET HSZ0 HVA0 HVS0 ⊢
  have HV0 := Aside0.mk hV0
  clear hV0
  go_enter Tryd.func7, Tryd.ntmps7
  go_upto_region 1 with (fail)
  generalize w.alloc (.cells V0 26) = w1 at HS0 ⊢
  generalize w.heap.size = g1 at HS0 ⊢
  go_upto_region 4 with (first
    | (go_at_call 14; (with_reducible refine (HTO.out _ HS0.out.below).mono ?_); rintro e w2 ⟨rfl, hb⟩; have HS2 := Aside0.mk (HS0.out.step hb); clear hb)
    | ((with_reducible refine gate_load (ty := 26) rfl ?_); refine wpList_ldw ?_ 26 _ rfl ⟨g1, 0, none⟩ ?_ V0 _ (cells_agg HS2.out) Tryd.underlying26 rfl HSZ0.out ?_; exact rfl; exact rfl; skip)
    | ((with_reducible refine gate_store (ty := 26) rfl ?_); refine Sep.store_own rfl 26 _ _ rfl rfl rfl (HS2.out.push_alloc Z 26) HSZ0.out (HZs.out.trans HVS0.out.symm) HVA0.out ?_; intro w4 h4; have HS4 := Aside0.mk h4; clear h4))
  generalize w2.heap.size = g5 at HS4 ⊢
  clear HS0 HTO HS2
  have x33 : w4.cell? ⟨g1, 33, none⟩ = some (.slice A s.r.length c) := by
    have h := HS4.out.up1.cells.1
    rw [← HV0.out] at h
    exact cell_at h 33 HV33.out
  go_upto_region 5 with (first
    | (go_at_call 15; (with_reducible refine (HCU.out _).mono ?_); rintro e w4b ⟨rfl, rfl⟩)
    | (go_at_call 16; (with_reducible refine (HLA.out _ HS4.out.below).mono ?_); rintro e w5 ⟨A5, c5, rfl, hc5, h5⟩; have HS5 := Aside0.mk (HS4.out.then_ h5); have HC5 := Aside0.mk hc5; clear h5 hc5; have y33 : w5.cell? ⟨g5, 33, none⟩ = some (.slice A s.r.length c) := (by have h := HS5.out.up1.cells.1; rw [← HV0.out] at h; exact cell_at h 33 HV33.out); have f33 := frozen_of HS5.out.up1 33))
  have HS6 := Aside0.mk (show Sep w (w5.setCell ⟨g5, 33, none⟩ (.slice A5 k c5)) (ownT kRF 69 (.slice A5 (k + 2) c5) ((cutC s).r ++ [mk1, mk2]) :: cellsT g5 ((cutC s).V A5 c5).toArray 26 :: []) from by have h := HS5.out.up1.cset 33 (.slice A5 k c5); rw [HSET.out] at h; exact h.sel 3 [1, 0] _ rfl (by decide) rfl)
  clear HS5 HS4 x33 y33 f33
  generalize w5.setCell ⟨g5, 33, none⟩ (.slice A5 k c5) = w6 at HS6 ⊢
  have hrl := refs_len HK.out
  obtain ⟨gr, c4, hA5⟩ := own_formR HS6.out (by rw [hrl]; omega)
  rw [hrl] at hA5
  injection hA5 with e1 e2 e3
  subst e1 e3
  clear e2 hrl
  go_upto_region 8 with (first
    | (go_at_call 36; (with_reducible refine (HONE.out 7 _).mono ?_); rintro e w7 ⟨A7, c7, rfl, h7⟩; have HS7 := Aside0.mk (HS6.out.then_ h7); clear h7)
    | (go_at_call 17; (with_reducible refine (HE7.out _ _ _ _ HS7.out).mono ?_); rintro e w8 ⟨A8, c8, rfl, h8⟩; have HS8 := Aside0.mk (HS7.out.then_ h8); clear h8))
  have HS9 := Aside0.mk (show Sep w w8 (ownT (Kd.int .u8) 5 (.slice A8 512 c8) (encJ (oneR 7)) :: ownT kRF 69 (.slice (some ⟨gr, 0, none⟩) (k + 2) c5) ((cutC s).r ++ [mk1, mk2]) :: cellsT g5 ((cutC s).V (some ⟨gr, 0, none⟩) c5).toArray 26 :: []) from HS8.out.up1.drop)
  clear HS6 HS7 HS8
  obtain ⟨gb, cb, hA8⟩ := own_form HS9.out (by rw [HB7.out.2]; decide)
  rw [HB7.out.2] at hA8
  injection hA8 with e1 e2 e3
  subst e1 e3
  clear e2
  go_upto_region 9 with (fail)
  go_loopg [6, 8] T.length (fun kq v6 v8 wr => ∃ (i : Nat) (r : RC) (b : List Int), v6 = .slice (some ⟨gb, 0, none⟩) 512 c8 ∧ v8 = .int .i64 i ∧ Aside0 (i + kq = T.length) ∧ Aside0 (r.Ok ∧ r.r.length = k ∧ bytes_ b ∧ b.length = 512) ∧ Aside0 (Sep w wr (ownT (Kd.int .u8) 5 (.slice (some ⟨gb, 0, none⟩) 512 c8) b :: ownT kRF 69 (.slice (some ⟨gr, 0, none⟩) (k + 2) c5) (r.r ++ [mk1, mk2]) :: cellsT g5 (r.V (some ⟨gr, 0, none⟩) c5).toArray 26 :: [])))
  case atStart => exact ⟨0, cutC s, encJ (oneR 7), rfl, rfl, ⟨by omega⟩, ⟨HOK.out, HK.out, HB7.out⟩, HS9⟩
  case round =>
    obtain ⟨i, r, b, rfl, rfl, HJ, HR, HS⟩ := hrel
    clear HS9
    have t0 : decide (i ≤ T.length) = true := decide_eq_true (by have := HJ.out; omega)
    by_cases hi : i ≤ 16
    · have t1 : decide ((i : Int) ≤ 16) = true := decide_eq_true (by omega)
      have hi16 : (i : Int) ≤ 16 := by omega
      have HSZ := Aside0.mk (fun (A' : Option Addr) (c' : Nat) => RC.size HR.out.1 A' c')
      have HVA := Aside0.mk (fun (A' : Option Addr) (c' : Nat) => RC.V_all r A' c')
      have HVS := Aside0.mk (fun (A' : Option Addr) (c' : Nat) => (show (r.V A' c').toArray.size = 34 from by simpa using RC.V_len HR.out.1 A' c'))
      have HV3 := Aside0.mk (fun (A' : Option Addr) (c' : Nat) => (show (r.V A' c')[33]? = some (.slice A' k c') from by have h := RC.V33 HR.out.1 A' c'; rwa [HR.out.2.1] at h))
      have HSE := Aside0.mk (fun (A1 A2 : Option Addr) (c1 c2 : Nat) => (show (r.V A1 c1).toArray.setIfInBounds 33 (.slice A2 k c2) = (r.V A2 c2).toArray from RC.set33 r.n r.p HR.out.1.k r.r r.r A1 A2 c1 c2 _ HR.out.2.1))
      have HCR := Aside0.mk (fun (W : World) (t : Th) (M : List Th) (h : Sep w W (t :: ownT kRF 69 (.slice (some ⟨gr, 0, none⟩) (k + 2) c5) (r.r ++ [mk1, mk2]) :: M)) => (show kRF.C W (some ⟨gr, 0, none⟩) (k + 2) (r.r ++ [mk1, mk2]) ∧ kRF.C W (some ⟨gr, 0, none⟩) k r.r ∧ k + 2 ≤ c5 from by
        have h2 := h.up1.own_C
        rw [refs_len HR.out.2.1] at h2
        exact ⟨h2.1, C_pre h2.1 HR.out.2.1, h2.2⟩))
      have HCB := Aside0.mk (fun (W : World) (M : List Th) (h : Sep w W (ownT (Kd.int .u8) 5 (.slice (some ⟨gb, 0, none⟩) 512 c8) b :: M)) => (show (Kd.int .u8).C W (some ⟨gb, 0, none⟩) 512 b ∧ 512 ≤ c8 from by have h2 := h.own_C; rwa [HR.out.2.2.2] at h2))
      go_upto_region 12 with (first
        | ((with_reducible refine gate_load (ty := 26) rfl ?_); refine wpList_ldw ?_ 26 _ rfl ⟨g5, 0, none⟩ ?_ (r.V (some ⟨gr, 0, none⟩) c5).toArray _ (cells_agg HS.out.up2) Tryd.underlying26 rfl (HSZ.out _ _) ?_; exact rfl; exact rfl; skip)
        | ((with_reducible refine gate_store (ty := 26) rfl ?_); refine Sep.store_own rfl 26 _ _ rfl rfl rfl (HS.out.push_alloc Z 26) (HSZ.out _ _) (HZs.out.trans (HVS.out _ _).symm) (HVA.out _ _) ?_; intro wA hA; have HSA := Aside0.mk hA; clear hA))
      generalize wr.heap.size = g9 at HSA ⊢
      clear HS hz
      have x33 : wA.cell? ⟨g5, 33, none⟩ = some (.slice (some ⟨gr, 0, none⟩) k c5) := cell_at HSA.out.up3.cells.1 33 (HV3.out _ _)
      go_upto_region 13 with ((with_reducible refine gate_builtin (b := .append) (xs := #[.const (.slice none 0 0), .tmp 51]) rfl ?_); refine Sep.app_refs rfl _ _ rfl r.r rfl rfl (HSA.out.push_nil kRF 69) (HCR.out _ _ _ HSA.out.drop).2.1 ?aL ?_; (case aL => have := HK2.out; simp; omega); intro vB wB hB; have HSB := Aside0.mk (show Sep w wB (ownT kRF 69 vB r.r :: cellsT g9 (r.V (some ⟨gr, 0, none⟩) c5).toArray 26 :: ownT (Kd.int .u8) 5 (.slice (some ⟨gb, 0, none⟩) 512 c8) b :: ownT kRF 69 (.slice (some ⟨gr, 0, none⟩) (k + 2) c5) (r.r ++ [mk1, mk2]) :: cellsT g5 (r.V (some ⟨gr, 0, none⟩) c5).toArray 26 :: []) from hB); clear hB; obtain ⟨AB, cB, rfl⟩ := HSB.out.own_slice; rw [HR.out.2.1] at HSB ⊢; have y33 : wB.cell? ⟨g9, 33, none⟩ = some (.slice (some ⟨gr, 0, none⟩) k c5) := cell_at HSB.out.up1.cells.1 33 (HV3.out _ _); have f33 := frozen_of HSB.out.up1 33)
      have HSC := Aside0.mk (show Sep w (wB.setCell ⟨g9, 33, none⟩ (.slice AB k cB)) (cellsT g9 (r.V AB cB).toArray 26 :: ownT kRF 69 (.slice AB k cB) r.r :: ownT (Kd.int .u8) 5 (.slice (some ⟨gb, 0, none⟩) 512 c8) b :: ownT kRF 69 (.slice (some ⟨gr, 0, none⟩) (k + 2) c5) (r.r ++ [mk1, mk2]) :: cellsT g5 (r.V (some ⟨gr, 0, none⟩) c5).toArray 26 :: []) from by have h := HSB.out.up1.cset 33 (.slice AB k cB); rw [HSE.out] at h; exact h)
      clear HSA HSB x33 y33 f33
      generalize wB.setCell ⟨g9, 33, none⟩ (.slice AB k cB) = wC at HSC ⊢
      go_upto_region 14 with ((with_reducible refine gate_builtin (b := .append) (xs := #[.const (.slice none 0 0), .tmp 54]) rfl ?_); refine Sep.app_row rfl _ _ rfl b rfl rfl (HSC.out.push_nil (Kd.int .u8) 5) (HCB.out _ _ HSC.out.up2).1 ?aL ?_; (case aL => simp); intro vD wD hD; have HSD := Aside0.mk (show Sep w wD (ownT (Kd.int .u8) 5 vD b :: cellsT g9 (r.V AB cB).toArray 26 :: ownT kRF 69 (.slice AB k cB) r.r :: ownT (Kd.int .u8) 5 (.slice (some ⟨gb, 0, none⟩) 512 c8) b :: ownT kRF 69 (.slice (some ⟨gr, 0, none⟩) (k + 2) c5) (r.r ++ [mk1, mk2]) :: cellsT g5 (r.V (some ⟨gr, 0, none⟩) c5).toArray 26 :: []) from hD); clear hD; obtain ⟨AD, cD, rfl⟩ := HSD.out.own_slice; rw [HR.out.2.2.2] at HSD ⊢)
      clear HSC
      have HEA := Aside0.mk (fun (W : World) (A' : Option Addr) (c' : Nat) (hb : Below w.heap.size w W) (h : kRF.C W A' k r.r) => encode_any r HR.out.1 A' c' W (HH.out W hb) (by rw [HR.out.2.1]; exact h))
      have HEB := Aside0.mk (fun (W : World) (A' : Option Addr) (c' : Nat) (h : kRF.C W A' k r.r) => encode17_any r HR.out.1 A' c' W (by rw [HR.out.2.1]; exact h))
      have HOL := Aside0.mk (outJ_len r HR.out.1)
      have HAB := Aside0.mk (fun (W : World) (t u : Th) (M : List Th) (h : Sep w W (t :: u :: ownT kRF 69 (.slice AB k cB) r.r :: M)) => (show kRF.C W AB k r.r from by have h2 := h.up2.own_C.1; rwa [HR.out.2.1] at h2))
      obtain ⟨m, hm⟩ : ∃ m, (outJ r).length = m := ⟨_, rfl⟩
      rw [hm] at HEA HEB HOL
      have HOM := Aside0.mk hm
      clear hm
      generalize outJ r = oj at HEA HEB HOM
      generalize errJ r = ej at HEA HEB
      go_upto_region 15 with (first
        | ((with_reducible refine gate_load (ty := 26) rfl ?_); refine wpList_ldw ?_ 26 _ rfl ⟨g5, 0, none⟩ ?_ (r.V (some ⟨gr, 0, none⟩) c5).toArray _ (cells_agg HSD.out.up5) Tryd.underlying26 rfl (HSZ.out _ _) ?_; exact rfl; exact rfl; skip)
        | (go_at_call 17; (with_reducible refine (HEA.out _ _ _ HSD.out.below (HCR.out _ _ _ HSD.out.drop.drop.drop).2.1).mono ?_); rintro e wE ⟨AE, cE, rfl, hE⟩; have HSE1 := Aside0.mk (HSD.out.then_ hE); clear hE))
      go_upto_region 16 with (first
        | ((with_reducible refine gate_load (ty := 26) rfl ?_); refine wpList_ldw ?_ 26 _ rfl ⟨g9, 0, none⟩ ?_ (r.V AB cB).toArray _ (cells_agg HSE1.out.up2) Tryd.underlying26 rfl (HSZ.out _ _) ?_; exact rfl; exact rfl; skip)
        | (go_at_call 18; (with_reducible refine (HEB.out _ _ _ (HAB.out _ _ _ _ HSE1.out.drop)).mono ?_); rintro e wF ⟨AF, cF, rfl, hF⟩; have HSF := Aside0.mk (HSE1.out.then_ hF); clear hF))
      have HSF := Aside0.mk (show Sep w wF (ownT (Kd.int .u8) 5 (.slice AF m cF) oj :: ownT (Kd.int .u8) 5 (.slice AE m cE) oj :: ownT (Kd.int .u8) 5 (.slice AD 512 cD) b :: cellsT g9 (r.V AB cB).toArray 26 :: ownT kRF 69 (.slice AB k cB) r.r :: ownT (Kd.int .u8) 5 (.slice (some ⟨gb, 0, none⟩) 512 c8) b :: ownT kRF 69 (.slice (some ⟨gr, 0, none⟩) (k + 2) c5) (r.r ++ [mk1, mk2]) :: cellsT g5 (r.V (some ⟨gr, 0, none⟩) c5).toArray 26 :: []) from HSF.out)
      have HDA := Aside0.mk (decode_any b HR.out.2.2.1 (some ⟨gb, 0, none⟩) 512 c8 HR.out.2.2.2 (HCB.out _ _ HSF.out.up5).2 wF (HH.out _ HSF.out.below) (HCB.out _ _ HSF.out.up5).1)
      have HDB := Aside0.mk (fun (W : World) (A' : Option Addr) (c' : Nat) (hc : 512 ≤ c') (h : (Kd.int .u8).C W A' 512 b) => decode17_any b HR.out.2.2.1 A' 512 c' HR.out.2.2.2 hc W h)
      have HGO := Aside0.mk (gotJ_ok HR.out.2.2.1)
      have her := erJ_eq b
      clear HSD HSE1 HEA HEB
      generalize gotJ b = y at HDA HDB HGO
      generalize erJ b = ey at HDA her
      generalize okJ b = oky at HDB her
      have HSY := Aside0.mk (fun (A' : Option Addr) (c' : Nat) => RC.size HGO.out A' c')
      have HVY := Aside0.mk (fun (A' : Option Addr) (c' : Nat) => RC.V_all y A' c')
      have HVT := Aside0.mk (fun (A' : Option Addr) (c' : Nat) => (show (y.V A' c').toArray.size = 34 from by simpa using RC.V_len HGO.out A' c'))
      have hz := (zero_of_info (P := Tryd.prog) (t := 26) (v := .agg zRC) (n := 34) (by unfold zRC; kernel_rfl)).1
      rw [HZE.out] at hz
      go_upto_region 17 with (first
        | (go_at_call 24; (with_reducible refine HDA.out.mono ?_); rintro e wG ⟨AG, cG, rfl, hG⟩; have HSG := Aside0.mk (HSF.out.then_ hG); clear hG)
        | ((with_reducible refine gate_store (ty := 26) rfl ?_); refine Sep.store_own rfl 26 _ _ rfl rfl rfl (HSG.out.push_alloc Z 26) (HSY.out AG cG) (HZs.out.trans (HVT.out AG cG).symm) (HVY.out AG cG) ?_; intro wH hH2; have HSH := Aside0.mk hH2; clear hH2))
      generalize wG.heap.size = g15 at HSH ⊢
      clear HSF HSG HDA
      have HSH := Aside0.mk (show Sep w wH (cellsT g15 (y.V AG cG).toArray 26 :: ownT kRF 69 (.slice AG y.r.length cG) y.r :: ownT (Kd.int .u8) 5 (.slice AF m cF) oj :: ownT (Kd.int .u8) 5 (.slice AE m cE) oj :: ownT (Kd.int .u8) 5 (.slice AD 512 cD) b :: cellsT g9 (r.V AB cB).toArray 26 :: ownT kRF 69 (.slice AB k cB) r.r :: ownT (Kd.int .u8) 5 (.slice (some ⟨gb, 0, none⟩) 512 c8) b :: ownT kRF 69 (.slice (some ⟨gr, 0, none⟩) (k + 2) c5) (r.r ++ [mk1, mk2]) :: cellsT g5 (r.V (some ⟨gr, 0, none⟩) c5).toArray 26 :: []) from HSH.out)
      have HCD := Aside0.mk (show (Kd.int .u8).C wH AD 512 b ∧ 512 ≤ cD from by have h2 := HSH.out.up4.own_C; rwa [HR.out.2.2.2] at h2)
      go_upto_region 18 with (first
        | (go_at_call 25; (with_reducible refine (HDB.out _ _ _ HCD.out.2 HCD.out.1).mono ?_); rintro e wI ⟨AI, cI, rfl, hI⟩; have HSI := Aside0.mk (HSH.out.then_ hI); clear hI)
        | ((with_reducible refine gate_store (ty := 26) rfl ?_); refine Sep.store_own rfl 26 _ _ rfl rfl rfl (HSI.out.push_alloc Z 26) (HSY.out AI cI) (HZs.out.trans (HVT.out AI cI).symm) (HVY.out AI cI) ?_; intro wJ hJ2; have HSJ := Aside0.mk hJ2; clear hJ2))
      generalize wI.heap.size = g17 at HSJ ⊢
      clear HSH HSI HDB HCD hz
      have HSJ := Aside0.mk (show Sep w wJ (cellsT g17 (y.V AI cI).toArray 26 :: ownT kRF 69 (.slice AI y.r.length cI) y.r :: cellsT g15 (y.V AG cG).toArray 26 :: ownT kRF 69 (.slice AG y.r.length cG) y.r :: ownT (Kd.int .u8) 5 (.slice AF m cF) oj :: ownT (Kd.int .u8) 5 (.slice AE m cE) oj :: ownT (Kd.int .u8) 5 (.slice AD 512 cD) b :: cellsT g9 (r.V AB cB).toArray 26 :: ownT kRF 69 (.slice AB k cB) r.r :: ownT (Kd.int .u8) 5 (.slice (some ⟨gb, 0, none⟩) 512 c8) b :: ownT kRF 69 (.slice (some ⟨gr, 0, none⟩) (k + 2) c5) (r.r ++ [mk1, mk2]) :: cellsT g5 (r.V (some ⟨gr, 0, none⟩) c5).toArray 26 :: []) from HSJ.out)
      have HS1 := Aside0.mk (show Sep w wJ (ownT (Kd.int .u8) 5 (.slice (some ⟨gb, 0, none⟩) 512 c8) b :: ownT kRF 69 (.slice (some ⟨gr, 0, none⟩) (k + 2) c5) (r.r ++ [mk1, mk2]) :: cellsT g5 (r.V (some ⟨gr, 0, none⟩) c5).toArray 26 :: []) from HSJ.out.drop.drop.drop.drop.drop.drop.drop.drop.drop)
      have f5 := Aside0.mk (fun (W : World) (hb : Below wJ.heap.size wJ W) => (show W.cell? ⟨g5, 33, none⟩ = some (.slice (some ⟨gr, 0, none⟩) k c5) from pw_cell_below hb (cell_at HS1.out.up2.cells.1 33 (HV3.out _ _))))
      have HSJ9 := Aside0.mk HSJ.out.drop.drop.drop.drop.drop.drop
      have f9 := Aside0.mk (fun (W : World) (hb : Below wJ.heap.size wJ W) => (show W.cell? ⟨g9, 33, none⟩ = some (.slice AB k cB) from pw_cell_below hb (cell_at HSJ9.out.up1.cells.1 33 (HV3.out _ _))))
      have f17 := Aside0.mk (fun (W : World) (hb : Below wJ.heap.size wJ W) => (show ∀ j v, (y.V AI cI).toArray.toList[j]? = some v → W.cell? ((⟨g17, 0, none⟩ : Addr).add j) = some v from fun j v hv => pw_cell_below hb (cells_agg HSJ.out j v hv)))
      have f15 := Aside0.mk (fun (W : World) (hb : Below wJ.heap.size wJ W) => (show ∀ j v, (y.V AG cG).toArray.toList[j]? = some v → W.cell? ((⟨g15, 0, none⟩ : Addr).add j) = some v from fun j v hv => pw_cell_below hb (cells_agg HSJ.out.up2 j v hv)))
      have HSM := Aside0.mk (show Calls Tryd.prog 19 #[.slice AE m cE, .slice AF m cF] wJ (fun e w' => e = .returned (.bool true) ∧ Below wJ.heap.size wJ w') from by
        have h7 := HSJ.out.up5.own_C; have h8 := HSJ.out.up4.own_C
        rw [HOM.out] at h7 h8
        have h5 := same19 h7.1 h8.1 HOM.out HOM.out h7.2 h8.2 (by have := HOL.out; omega)
        rwa [decide_eq_true (rfl : oj = oj)] at h5)
      have HSR := Aside0.mk (fun (W : World) (hb : Below wJ.heap.size wJ W) => sameRecord y HGO.out y.r.length rfl AG AI cG cI W (Kd.C_below HSJ.out.up3.own_C.1 hb) (Kd.C_below HSJ.out.up1.own_C.1 hb))
      have HIN := Aside0.mk (fun (W : World) (hb : Below wJ.heap.size wJ W) => intact20 r.r k HR.out.2.1 (some ⟨gr, 0, none⟩) AB c5 cB W (Kd.C_below (HCR.out _ _ _ HS1.out).1 hb) (Kd.C_below (by have h2 := HSJ9.out.up2.own_C.1; rwa [HR.out.2.1] at h2) hb) (HCR.out _ _ _ HS1.out).2.2 (by have := HK2.out; omega))
      have HSB := Aside0.mk (fun (W : World) (hb : Below wJ.heap.size wJ W) => (show Calls Tryd.prog 19 #[.slice (some ⟨gb, 0, none⟩) 512 c8, .slice AD 512 cD] W (fun e w' => e = .returned (.bool true) ∧ Below W.heap.size W w') from by
        have h7 := HCB.out _ _ HS1.out
        have h8 := HSJ9.out.own_C
        rw [HR.out.2.2.2] at h8
        have h5 := same19 (Kd.C_below h7.1 hb) (Kd.C_below h8.1 hb) HR.out.2.2.2 HR.out.2.2.2 h7.2 h8.2 (by decide)
        rwa [decide_eq_true (rfl : b = b)] at h5))
      clear HSJ HSJ9
      go_upto_region 20 with (first
        | (go_at_call 19; (with_reducible refine HSM.out.mono ?_); rintro e wK ⟨rfl, hb⟩; have HBK := Aside0.mk hb; clear hb)
        | ((with_reducible refine gate_load (ty := 26) rfl ?_); refine wpList_ldw ?_ 26 _ rfl ⟨g15, 0, none⟩ ?_ (y.V AG cG).toArray _ (f15.out _ HBK.out) Tryd.underlying26 rfl (HSY.out AG cG) ?_; exact rfl; exact rfl; skip)
        | ((with_reducible refine gate_load (ty := 26) rfl ?_); refine wpList_ldw ?_ 26 _ rfl ⟨g17, 0, none⟩ ?_ (y.V AI cI).toArray _ (f17.out _ HBK.out) Tryd.underlying26 rfl (HSY.out AI cI) ?_; exact rfl; exact rfl; skip)
        | (go_at_call 27; (with_reducible refine (HSR.out _ HBK.out).mono ?_); rintro e wL ⟨rfl, hb⟩; have HBL := Aside0.mk (below_step HBK.out hb); clear hb; have y5 := f5.out _ HBL.out; have y9 := f9.out _ HBL.out)
        | (go_at_call 20; (with_reducible refine (HIN.out _ HBL.out).mono ?_); rintro e wM ⟨rfl, hb⟩; have HBM := Aside0.mk (below_step HBL.out hb); clear hb)
        | (go_at_call 19; (with_reducible refine (HSB.out _ HBM.out).mono ?_); rintro e wN ⟨rfl, hb⟩; have HBN := Aside0.mk (below_step HBM.out hb); clear hb))
      have HSN := Aside0.mk (HS1.out.step HBN.out)
      clear HSM HSR HIN HSB HBK HBL HBM HBN f5 f9 f15 f17 y5 y9 her
      by_cases hiT : i = T.length
      · have t2 : decide (i = T.length) = true := decide_eq_true hiT
        go_wp2
        go_ret
        exact ⟨rfl, HSN.out.below⟩
      · have HI := Aside0.mk (show i < T.length from by have := HJ.out; omega)
        have t2 : decide (i = T.length) = false := decide_eq_false hiT
        obtain ⟨aA, rfl, hA0, hA1, hA2⟩ := at_k3 (HTC.out _ HSN.out.below) i HI.out
        have HTK := Aside0.mk (fun (W : World) (hb : Below wN.heap.size wN W) => (show W.cell? (aA.add (i * 3)) = some (.int .i64 (T.getD i (0, 0, 0)).1) ∧ W.cell? ((aA.add (i * 3)).add 1) = some (.int .i64 (T.getD i (0, 0, 0)).2.1) ∧ W.cell? ((aA.add (i * 3)).add 2) = some (.int .i64 (T.getD i (0, 0, 0)).2.2) from ⟨pw_cell_below hb hA0, pw_cell_below hb hA1, pw_cell_below hb hA2⟩))
        clear hA0 hA1 hA2
        have hiL : (i : Int) < (T.length : Int) := by have := HI.out; omega
        have x5 : wN.cell? ⟨g5, 33, none⟩ = some (.slice (some ⟨gr, 0, none⟩) k c5) := cell_at HSN.out.up2.cells.1 33 (HV3.out _ _)
        by_cases hk : 0 < k
        · have t3 : decide ((0 : Int) < (k : Int)) = true := decide_eq_true (by omega)
          have HKP := Aside0.mk hk
          have t3' : decide (0 < k) = true := decide_eq_true hk
          have hk1 : (0 : Int) < (k : Int) := by omega
          clear hk
          have hp0 := Int.emod_nonneg (T.getD i (0, 0, 0)).1 (show (k : Int) ≠ 0 by omega)
          have hp1 := Int.emod_lt_of_pos (T.getD i (0, 0, 0)).1 (show (0 : Int) < k by omega)
          have HPK := Aside0.mk (fun W => place28 (T.getD i (0, 0, 0)).1 k (by omega) (by have := HK2.out; omega) W)
          obtain ⟨p, hp, hpe⟩ : ∃ p : Nat, p < k ∧ (T.getD i (0, 0, 0)).1 % (k : Int) = (p : Int) := ⟨((T.getD i (0, 0, 0)).1 % (k : Int)).toNat, by omega, by omega⟩
          rw [hpe] at HPK
          clear hpe hp0 hp1
          have HP := Aside0.mk hp
          have hpI : (p : Int) < (k : Int) := by omega
          go_upto_region 22 with (fail)
          clear x5
          generalize (T.getD i (0, 0, 0)).1 = u0 at HTK HPK
          generalize (T.getD i (0, 0, 0)).2.1 = u1 at HTK
          have haT : (aA.add (i * 3)).add 1 = ⟨(aA.add (i * 3)).block, (aA.add (i * 3)).off + 1, none⟩ := addr_add _ 1 (by decide)
          rw [haT] at HTK
          clear haT
          obtain ⟨aT, haT⟩ : ∃ aT, aA.add (i * 3) = aT := ⟨_, rfl⟩
          rw [haT] at HTK
          have hrx := (at_RF (HCR.out _ _ _ HSN.out).1 p (by omega))
          obtain ⟨hxo, adx, hadx, hxc⟩ := hrx
          cases hadx
          have HXF := Aside0.mk (fun (W : World) (hb : Below wN.heap.size wN W) => (show W.cell? ⟨gr, p * 34 + 32, none⟩ = some (.int .i64 ((r.r ++ [mk1, mk2]).getD p zRF).f) from by have h := pw_cell_below hb (hxc 32 _ (RF.V32 hxo)); rwa [add0'] at h))
          generalize ((r.r ++ [mk1, mk2]).getD p zRF).f = xf at HXF
          clear hxo hxc
          have HHS := Aside0.mk (fun (W : World) (h : Sep w W (ownT (Kd.int .u8) 5 (.slice (some ⟨gb, 0, none⟩) 512 c8) b :: ownT kRF 69 (.slice (some ⟨gr, 0, none⟩) (k + 2) c5) (r.r ++ [mk1, mk2]) :: cellsT g5 (r.V (some ⟨gr, 0, none⟩) c5).toArray 26 :: [])) (hb : Below wN.heap.size wN W) => (show W.cell? ⟨g5, 33, none⟩ = some (.slice (some ⟨gr, 0, none⟩) k c5) ∧ W.cell? aT = some (.int .i64 u0) ∧ W.cell? ⟨aT.block, aT.off + 1, none⟩ = some (.int .i64 u1) ∧ W.cell? ⟨gr, p * 34 + 32, none⟩ = some (.int .i64 xf) ∧ W.frozen? ⟨gr, p * 34 + 32, none⟩ = false from
            ⟨cell_at h.up2.cells.1 33 (HV3.out _ _), (HTK.out W hb).1, (HTK.out W hb).2.1, HXF.out W hb, by
              obtain ⟨base, ok, hr⟩ := h.up1.own
              obtain ⟨_, _, _, _, hfz⟩ := Kd.R_elem hr zRF (p : Int) (by omega) (by omega)
              have h2 := hfz 32
              rw [Int.toNat_natCast] at h2
              exact h2⟩))
          have HSx := Aside0.mk (HSN.out.step (below_drew1 (Below.refl wN.heap.size wN)))
          have HBx := Aside0.mk (below_drew1 (Below.refl wN.heap.size wN))
          clear HSN
          refine start_ (n := 19) (S := fun W => W.cell? ⟨g5, 33, none⟩ = some (.slice (some ⟨gr, 0, none⟩) k c5) ∧ W.cell? aT = some (.int .i64 u0) ∧ W.cell? ⟨aT.block, aT.off + 1, none⟩ = some (.int .i64 u1) ∧ W.cell? ⟨gr, p * 34 + 32, none⟩ = some (.int .i64 xf) ∧ W.frozen? ⟨gr, p * 34 + 32, none⟩ = false) (ds := [18]) (bb 19 0) (by kernel_rfl) rfl rfl (HHS.out _ HSx.out HBx.out) (fun hHeld => ?_); refine with_tabW ag22_tab ag22_bits (fun HT_ HW_ => ?_)
          generalize wN.drew = wd at hHeld HSx HBx ⊢
          refine pure_ (i := 0) (N := (some 119)) (v := ?_) (a' := ?_) (bb 19 1) rfl rfl (any_of HT_.out (by kernel_rfl)) (fun _ _ _ h => h) (Or.inl ⟨by rfl, ?_⟩) ?_ ?_
          rotate_left
          · intro w'
            go_simp
            with_reducible rfl
          rotate_left
          · simp only [Act.put, List.setIfInBounds_toArray, List.set_cons_zero, List.set_cons_succ, i64_w, i32_w]
            rfl
          refine take_ (i := 1) (N := (some 120)) (v := ?_) (a' := ?_) (bb 19 3) rfl rfl (take_ofW HT_.out HW_.out (by kernel_rfl)) (fun _ _ _ h => h) (Or.inl ⟨by rfl, ?_⟩) hHeld ?_ ?_
          rotate_left
          · intro w' s0
            (try dsimp only at s0)
            go_simp
            with_reducible rfl
          rotate_left
          · simp only [Act.put, List.setIfInBounds_toArray, List.set_cons_zero, List.set_cons_succ, i64_w, i32_w]
            rfl
          refine pure_ (i := 2) (N := (some 121)) (v := ?_) (a' := ?_) (bb 19 7) rfl rfl (any_of HT_.out (by kernel_rfl)) (fun _ _ _ h => h) (Or.inl ⟨by rfl, ?_⟩) ?_ ?_
          rotate_left
          · intro w'
            go_simp
            with_reducible rfl
          rotate_left
          · simp only [Act.put, List.setIfInBounds_toArray, List.set_cons_zero, List.set_cons_succ, i64_w, i32_w]
            rfl
          refine pure_ (i := 3) (N := (some 122)) (v := ?_) (a' := ?_) (bb 19 15) rfl rfl (any_of HT_.out (by kernel_rfl)) (fun _ _ _ h => h) (Or.inl ⟨by rfl, ?_⟩) ?_ ?_
          rotate_left
          · intro w'
            go_simp
            with_reducible rfl
          rotate_left
          · simp only [Act.put, List.setIfInBounds_toArray, List.set_cons_zero, List.set_cons_succ, i64_w, i32_w]
            rfl
          refine pure_ (i := 4) (N := (some 123)) (v := ?_) (a' := ?_) (bb 19 31) rfl rfl (any_of HT_.out (by kernel_rfl)) (fun _ _ _ h => h) (Or.inl ⟨by rfl, ?_⟩) ?_ ?_
          rotate_left
          · intro w'
            go_simp
            with_reducible rfl
          rotate_left
          · simp only [Act.put, List.setIfInBounds_toArray, List.set_cons_zero, List.set_cons_succ, i64_w, i32_w]
            rfl
          refine pure_ (i := 5) (N := (some 124)) (v := ?_) (a' := ?_) (bb 19 63) rfl rfl (any_of HT_.out (by kernel_rfl)) (fun _ _ _ h => h) (Or.inl ⟨by rfl, ?_⟩) ?_ ?_
          rotate_left
          · intro w'
            go_simp
            with_reducible rfl
          rotate_left
          · simp only [Act.put, List.setIfInBounds_toArray, List.set_cons_zero, List.set_cons_succ, i64_w, i32_w]
            rfl
          refine take_ (i := 6) (N := (some 125)) (v := ?_) (a' := ?_) (bb 19 127) rfl rfl (take_ofW HT_.out HW_.out (by kernel_rfl)) (fun _ _ _ h => h) (Or.inl ⟨by rfl, ?_⟩) hHeld ?_ ?_
          rotate_left
          · intro w' s0
            (try dsimp only at s0)
            go_simp
            with_reducible rfl
          rotate_left
          · simp only [Act.put, List.setIfInBounds_toArray, List.set_cons_zero, List.set_cons_succ, i64_w, i32_w]
            rfl
          refine pure_ (i := 7) (N := (some 126)) (v := ?_) (a' := ?_) (bb 19 255) rfl rfl (any_of HT_.out (by kernel_rfl)) (fun _ _ _ h => h) (Or.inl ⟨by rfl, ?_⟩) ?_ ?_
          rotate_left
          · intro w'
            go_simp
            with_reducible rfl
          rotate_left
          · simp only [Act.put, List.setIfInBounds_toArray, List.set_cons_zero, List.set_cons_succ, i64_w, i32_w]
            rfl
          refine take_ (i := 8) (N := (some 127)) (v := ?_) (a' := ?_) (bb 19 511) rfl rfl (take_ofW HT_.out HW_.out (by kernel_rfl)) (fun _ _ _ h => h) (Or.inl ⟨by rfl, ?_⟩) hHeld ?_ ?_
          rotate_left
          · intro w' s0
            (try dsimp only at s0)
            go_simp
            with_reducible rfl
          rotate_left
          · simp only [Act.put, List.setIfInBounds_toArray, List.set_cons_zero, List.set_cons_succ, i64_w, i32_w]
            rfl
          refine pure_ (i := 9) (N := (some 128)) (v := ?_) (a' := ?_) (bb 19 1023) rfl rfl (any_of HT_.out (by kernel_rfl)) (fun _ _ _ h => h) (Or.inl ⟨by rfl, ?_⟩) ?_ ?_
          rotate_left
          · intro w'
            go_simp
            with_reducible rfl
          rotate_left
          · simp only [Act.put, List.setIfInBounds_toArray, List.set_cons_zero, List.set_cons_succ, i64_w, i32_w]
            rfl
          refine pure_ (i := 11) (N := (some 130)) (v := ?_) (a' := ?_) (bb 19 3071) rfl rfl (any_of HT_.out (by kernel_rfl)) (fun _ _ _ h => h) (Or.inl ⟨by rfl, ?_⟩) ?_ ?_
          rotate_left
          · intro w'
            go_simp
            with_reducible rfl
          rotate_left
          · simp only [Act.put, List.setIfInBounds_toArray, List.set_cons_zero, List.set_cons_succ, i64_w, i32_w]
            rfl
          refine pure_ (i := 12) (N := (some 131)) (v := ?_) (a' := ?_) (bb 19 7167) rfl rfl (any_of HT_.out (by kernel_rfl)) (fun _ _ _ h => h) (Or.inl ⟨by rfl, ?_⟩) ?_ ?_
          rotate_left
          · intro w'
            go_simp
            with_reducible rfl
          rotate_left
          · simp only [Act.put, List.setIfInBounds_toArray, List.set_cons_zero, List.set_cons_succ, i64_w, i32_w]
            rfl
          refine pure_ (i := 13) (N := (some 132)) (v := ?_) (a' := ?_) (bb 19 15359) rfl rfl (any_of HT_.out (by kernel_rfl)) (fun _ _ _ h => h) (Or.inl ⟨by rfl, ?_⟩) ?_ ?_
          rotate_left
          · intro w'
            go_simp
            with_reducible rfl
          rotate_left
          · simp only [Act.put, List.setIfInBounds_toArray, List.set_cons_zero, List.set_cons_succ, i64_w, i32_w]
            rfl
          refine pure_ (i := 14) (N := (some 133)) (v := ?_) (a' := ?_) (bb 19 31743) rfl rfl (any_of HT_.out (by kernel_rfl)) (fun _ _ _ h => h) (Or.inl ⟨by rfl, ?_⟩) ?_ ?_
          rotate_left
          · intro w'
            go_simp
            with_reducible rfl
          rotate_left
          · simp only [Act.put, List.setIfInBounds_toArray, List.set_cons_zero, List.set_cons_succ, i64_w, i32_w]
            rfl
          refine take_ (i := 15) (N := (some 134)) (v := ?_) (a' := ?_) (bb 19 64511) rfl rfl (take_ofW HT_.out HW_.out (by kernel_rfl)) (fun _ _ _ h => h) (Or.inl ⟨by rfl, ?_⟩) hHeld ?_ ?_
          rotate_left
          · intro w' s0
            (try dsimp only at s0)
            go_simp
            with_reducible rfl
          rotate_left
          · simp only [Act.put, List.setIfInBounds_toArray, List.set_cons_zero, List.set_cons_succ, i64_w, i32_w]
            rfl
          refine one_ (i := 10) (N := (some 129)) (bb 19 65535) rfl rfl (one_of HT_.out (by kernel_rfl)) (by decide) (fun K hK => ?_)
          refine goes_ Tryd.func28 (by kernel_rfl) rfl #[.int .i64 u0, .int .i64 (k : Int)] (by rfl) rfl rfl (by (try simp only [List.map_toArray, List.map_cons, List.map_nil]); first | done | rfl) ?_
          with_reducible refine (HPK.out _).mono ?_
          rintro e wT ⟨rfl, hb⟩
          have HST := Aside0.mk (HSx.out.step hb)
          have HBT := Aside0.mk (below_step HBx.out hb)
          clear hb
          refine ⟨_, rfl, ?_⟩
          refine hK.out _ _ (HHS.out _ HST.out HBT.out) (fun hHeld => ?_)
          clear hK K
          refine norm_ (a' := ?_) ?_ ?_
          rotate_left
          · show Act.put _ (some 129) _ = _
            simp only [Act.put, List.setIfInBounds_toArray, List.set_cons_zero, List.set_cons_succ, i64_w, i32_w]
            rfl
          refine pure_ (i := 16) (N := (some 135)) (v := ?_) (a' := ?_) (bb 19 131071) rfl rfl (any_of HT_.out (by kernel_rfl)) (fun _ _ _ h => h) (Or.inl ⟨by rfl, ?_⟩) ?_ ?_
          rotate_left
          · intro w'
            go_simp
            with_reducible rfl
          rotate_left
          · simp only [Act.put, List.setIfInBounds_toArray, List.set_cons_zero, List.set_cons_succ, i64_w, i32_w]
            rfl
          refine pure_ (i := 17) (N := (some 136)) (v := ?_) (a' := ?_) (bb 19 262143) rfl rfl (any_of HT_.out (by kernel_rfl)) (fun _ _ _ h => h) (Or.inl ⟨by rfl, ?_⟩) ?_ ?_
          rotate_left
          · intro w'
            go_simp
            with_reducible rfl
          rotate_left
          · simp only [Act.put, List.setIfInBounds_toArray, List.set_cons_zero, List.set_cons_succ, i64_w, i32_w]
            rfl
          refine last_ (i := 18) (N := none) (bb 19 524287) rfl rfl (one_of HT_.out (by kernel_rfl)) (by decide) (fun K hK => ?_)
          refine skip_ (w1 := ?_) (by rfl) rfl ?_ ?_
          rotate_left
          · go_simp
            first | rfl | (constructor <;> rfl)
          refine hK.out _ _ ?_
          clear hK K
          refine done_ (done_of HT_.out (by kernel_rfl)) ?_
          clear HT_ HW_
          have HSW := Aside0.mk (show Sep w (wT.setCell ⟨gr, p * 34 + 32, none⟩ (.int .i64 u1)) (ownT (Kd.int .u8) 5 (.slice (some ⟨gb, 0, none⟩) 512 c8) b :: ownT kRF 69 (.slice (some ⟨gr, 0, none⟩) (k + 2) c5) ((r.r.set p { r.r.getD p zRF with f := u1 }) ++ [mk1, mk2]) :: cellsT g5 (RC.V ⟨r.n, r.p, r.r.set p { r.r.getD p zRF with f := u1 }⟩ (some ⟨gr, 0, none⟩) c5).toArray 26 :: []) from by
            have h := HST.out.up1.put_ref p (by have := HP.out; omega) u1
            have hpl : p < r.r.length := by have := HP.out; have := HR.out.2.1; omega
            rw [List.set_append_left _ _ hpl, List.getD_eq_getElem?_getD, List.getElem?_append_left hpl, ← List.getD_eq_getElem?_getD] at h
            have e : RC.V ⟨r.n, r.p, r.r.set p { r.r.getD p zRF with f := u1 }⟩ (some ⟨gr, 0, none⟩) c5 = r.V (some ⟨gr, 0, none⟩) c5 := by unfold RC.V; rw [List.length_set]
            rw [e]
            exact h.up1)
          have HTK := Aside0.mk (fun (W : World) (hb : Below wN.heap.size wN W) => (show W.cell? ((aA.add (i * 3)).add 2) = some (.int .i64 (T.getD i (0, 0, 0)).2.2) from by rw [haT]; exact (HTK.out W hb).2.2))
          have HTW := Aside0.mk ((at_k3 (HTC.out _ HSW.out.below) i HI.out))
          have HRW := Aside0.mk (show RC.Ok ⟨r.n, r.p, r.r.set p { r.r.getD p zRF with f := u1 }⟩ ∧ (r.r.set p { r.r.getD p zRF with f := u1 }).length = k from ⟨⟨HR.out.1.k, HR.out.1.b, fun x hx => by
            rcases List.mem_or_eq_of_mem_set hx with hx | rfl
            · exact HR.out.1.r x hx
            · have h := HR.out.1.r _ (rf_mem (l := r.r) (i := p) (by have := HP.out; have := HR.out.2.1; omega))
              exact ⟨h.k, h.b⟩⟩, by rw [List.length_set]; exact HR.out.2.1⟩)
          clear HTK haT HST HBT HBx HSx HPK HXF HHS t3 t3' hk1 hpI HSE HSZ HVA HVS HV3 HCR
          generalize wT.setCell ⟨gr, p * 34 + 32, none⟩ (.int .i64 u1) = wW at HSW HTW ⊢
          generalize r.r.set p { r.r.getD p zRF with f := u1 } = r' at HSW HRW
          obtain ⟨aB, hAB, _, _, hA2⟩ := HTW.out
          cases hAB
          rw [addr_add _ 2 (by decide)] at hA2
          have hp0 := Int.emod_nonneg (T.getD i (0, 0, 0)).2.2 (show (508 : Int) ≠ 0 by decide)
          have hp1 := Int.emod_lt_of_pos (T.getD i (0, 0, 0)).2.2 (show (0 : Int) < 508 by decide)
          have HPL := Aside0.mk (fun W => place28 (T.getD i (0, 0, 0)).2.2 508 (by decide) (by decide) W)
          generalize (T.getD i (0, 0, 0)).2.2 = u2 at hA2 hp0 hp1 HPL
          obtain ⟨q, hq, hqe⟩ : ∃ q : Nat, q < 508 ∧ u2 % 508 = (q : Int) := ⟨(u2 % 508).toNat, by omega, by omega⟩
          rw [hqe] at HPL
          clear hqe hp0 hp1
          have HQ := Aside0.mk hq
          have hqI : (q : Int) < 512 := by omega
          go_upto_region 24 with (go_at_call 28; (with_reducible refine (HPL.out _).mono ?_); rintro e wX ⟨rfl, hb⟩; have HSX := Aside0.mk (HSW.out.step hb); clear hb; have hcx := Sep.cell (enc := Value.int .u8) (0 : Int) HSX.out q (by have := HQ.out; omega); obtain ⟨hx0, hf0⟩ := hcx; obtain ⟨cx, hcx⟩ : ∃ cx, b.getD q 0 = cx := ⟨_, rfl⟩; rw [hcx] at hx0; have HCX := Aside0.mk hcx; clear hcx)
          have HBV := Aside0.mk (HR.out.2.2.1 (b.getD q 0) (getD_mem (b := b) (i := q) (by have := HQ.out; have := HR.out.2.2.2; omega)))
          rw [HCX.out] at HBV
          have HSY := Aside0.mk (show Sep w (wX.setCell ⟨gb, q, none⟩ (.int .u8 ((cx + 1) % 256))) (ownT (Kd.int .u8) 5 (.slice (some ⟨gb, 0, none⟩) 512 c8) (b.set q ((cx + 1) % 256)) :: ownT kRF 69 (.slice (some ⟨gr, 0, none⟩) (k + 2) c5) (r' ++ [mk1, mk2]) :: cellsT g5 (RC.V ⟨r.n, r.p, r'⟩ (some ⟨gr, 0, none⟩) c5).toArray 26 :: []) from Sep.put (enc := Value.int .u8) HSX.out q ((cx + 1) % 256))
          have HB1 := Aside0.mk (show bytes_ (b.set q ((cx + 1) % 256)) ∧ (b.set q ((cx + 1) % 256)).length = 512 from ⟨fun x hx => by
            rcases List.mem_or_eq_of_mem_set hx with hx | rfl
            · exact HR.out.2.2.1 x hx
            · exact byte_up _ HBV.out, by rw [List.length_set]; exact HR.out.2.2.2⟩)
          clear HSX HSW hx0 hf0 HTW hA2
          generalize wX.setCell ⟨gb, q, none⟩ (.int .u8 ((cx + 1) % 256)) = wY at HSY ⊢
          generalize b.set q ((cx + 1) % 256) = b1 at HSY HB1
          have HCY := Aside0.mk (show (Kd.int .u8).C wY (some ⟨gb, 0, none⟩) 512 b1 ∧ 512 ≤ c8 from by have h := HSY.out.own_C; rwa [HB1.out.2] at h)
          have hc8 : (512 : Int) ≤ (c8 : Int) := by have := HCY.out.2; omega
          have HSUM := Aside0.mk (summed22 b1 HB1.out.1 HB1.out.2 (some ⟨gb, 0, none⟩) c8 HCY.out.2 wY HCY.out.1)
          have HB2 := Aside0.mk (show bytes_ (b1.take 508 ++ fixL (crc (b1.take 508)) 4) ∧ (b1.take 508 ++ fixL (crc (b1.take 508)) 4).length = 512 from ⟨bytes_append (bytes_take HB1.out.1 508) (bytes_fix _ _), by rw [List.length_append, List.length_take, HB1.out.2, fixL_len]; rfl⟩)
          generalize b1.take 508 ++ fixL (crc (b1.take 508)) 4 = b2 at HSUM HB2
          go_wp2_with (first
            | (go_at_call 22; (with_reducible refine HSUM.out.mono ?_); rintro e wZ ⟨vZ, rfl, hZ⟩; have HSZ2 := Aside0.mk (HSY.out.then_ hZ).up1; clear hZ)
            | ((with_reducible refine gate_builtin (b := .copy) (xs := #[.tmp 150, .tmp 152]) rfl ?_); refine Sep.copy_row rfl _ _ rfl rfl rfl HSZ2.out (by rw [HB1.out.2, HB2.out.2]) ?_; intro wq hq2; have HSQ := Aside0.mk hq2; clear hq2))
          go_roundg (T.length - (i + 1))
          case measure => have := HJ.out; have := HI.out; omega
          case rel => exact ⟨i + 1, ⟨r.n, r.p, r'⟩, b2, rfl, rfl, ⟨by have := HJ.out; have := HI.out; omega⟩, ⟨HRW.out.1, HRW.out.2, HB2.out⟩, ⟨HSQ.out.up1.drop⟩⟩
        · have t3 : decide ((0 : Int) < (k : Int)) = false := decide_eq_false (by omega)
          have t3' : decide (0 < k) = false := decide_eq_false hk
          go_upto_region 23 with (fail)
          have HSW := Aside0.mk (show Sep w wN (ownT (Kd.int .u8) 5 (.slice (some ⟨gb, 0, none⟩) 512 c8) b :: ownT kRF 69 (.slice (some ⟨gr, 0, none⟩) (k + 2) c5) (r.r ++ [mk1, mk2]) :: cellsT g5 (RC.V ⟨r.n, r.p, r.r⟩ (some ⟨gr, 0, none⟩) c5).toArray 26 :: []) from HSN.out)
          have HRW := Aside0.mk (show RC.Ok ⟨r.n, r.p, r.r⟩ ∧ r.r.length = k from And.intro HR.out.1 HR.out.2.1)
          have HTW := Aside0.mk ((at_k3 (HTC.out _ HSW.out.below) i HI.out))
          clear HSN x5 t3 t3' HSE HSZ HVA HVS HV3 HCR HTK
          generalize r.r = r' at HSW HRW
          generalize wN = wW at HSW HTW ⊢
          obtain ⟨aB, hAB, _, _, hA2⟩ := HTW.out
          cases hAB
          rw [addr_add _ 2 (by decide)] at hA2
          have hp0 := Int.emod_nonneg (T.getD i (0, 0, 0)).2.2 (show (508 : Int) ≠ 0 by decide)
          have hp1 := Int.emod_lt_of_pos (T.getD i (0, 0, 0)).2.2 (show (0 : Int) < 508 by decide)
          have HPL := Aside0.mk (fun W => place28 (T.getD i (0, 0, 0)).2.2 508 (by decide) (by decide) W)
          generalize (T.getD i (0, 0, 0)).2.2 = u2 at hA2 hp0 hp1 HPL
          obtain ⟨q, hq, hqe⟩ : ∃ q : Nat, q < 508 ∧ u2 % 508 = (q : Int) := ⟨(u2 % 508).toNat, by omega, by omega⟩
          rw [hqe] at HPL
          clear hqe hp0 hp1
          have HQ := Aside0.mk hq
          have hqI : (q : Int) < 512 := by omega
          go_upto_region 24 with (go_at_call 28; (with_reducible refine (HPL.out _).mono ?_); rintro e wX ⟨rfl, hb⟩; have HSX := Aside0.mk (HSW.out.step hb); clear hb; have hcx := Sep.cell (enc := Value.int .u8) (0 : Int) HSX.out q (by have := HQ.out; omega); obtain ⟨hx0, hf0⟩ := hcx; obtain ⟨cx, hcx⟩ : ∃ cx, b.getD q 0 = cx := ⟨_, rfl⟩; rw [hcx] at hx0; have HCX := Aside0.mk hcx; clear hcx)
          have HBV := Aside0.mk (HR.out.2.2.1 (b.getD q 0) (getD_mem (b := b) (i := q) (by have := HQ.out; have := HR.out.2.2.2; omega)))
          rw [HCX.out] at HBV
          have HSY := Aside0.mk (show Sep w (wX.setCell ⟨gb, q, none⟩ (.int .u8 ((cx + 1) % 256))) (ownT (Kd.int .u8) 5 (.slice (some ⟨gb, 0, none⟩) 512 c8) (b.set q ((cx + 1) % 256)) :: ownT kRF 69 (.slice (some ⟨gr, 0, none⟩) (k + 2) c5) (r' ++ [mk1, mk2]) :: cellsT g5 (RC.V ⟨r.n, r.p, r'⟩ (some ⟨gr, 0, none⟩) c5).toArray 26 :: []) from Sep.put (enc := Value.int .u8) HSX.out q ((cx + 1) % 256))
          have HB1 := Aside0.mk (show bytes_ (b.set q ((cx + 1) % 256)) ∧ (b.set q ((cx + 1) % 256)).length = 512 from ⟨fun x hx => by
            rcases List.mem_or_eq_of_mem_set hx with hx | rfl
            · exact HR.out.2.2.1 x hx
            · exact byte_up _ HBV.out, by rw [List.length_set]; exact HR.out.2.2.2⟩)
          clear HSX HSW hx0 hf0 HTW hA2
          generalize wX.setCell ⟨gb, q, none⟩ (.int .u8 ((cx + 1) % 256)) = wY at HSY ⊢
          generalize b.set q ((cx + 1) % 256) = b1 at HSY HB1
          have HCY := Aside0.mk (show (Kd.int .u8).C wY (some ⟨gb, 0, none⟩) 512 b1 ∧ 512 ≤ c8 from by have h := HSY.out.own_C; rwa [HB1.out.2] at h)
          have hc8 : (512 : Int) ≤ (c8 : Int) := by have := HCY.out.2; omega
          have HSUM := Aside0.mk (summed22 b1 HB1.out.1 HB1.out.2 (some ⟨gb, 0, none⟩) c8 HCY.out.2 wY HCY.out.1)
          have HB2 := Aside0.mk (show bytes_ (b1.take 508 ++ fixL (crc (b1.take 508)) 4) ∧ (b1.take 508 ++ fixL (crc (b1.take 508)) 4).length = 512 from ⟨bytes_append (bytes_take HB1.out.1 508) (bytes_fix _ _), by rw [List.length_append, List.length_take, HB1.out.2, fixL_len]; rfl⟩)
          generalize b1.take 508 ++ fixL (crc (b1.take 508)) 4 = b2 at HSUM HB2
          go_wp2_with (first
            | (go_at_call 22; (with_reducible refine HSUM.out.mono ?_); rintro e wZ ⟨vZ, rfl, hZ⟩; have HSZ2 := Aside0.mk (HSY.out.then_ hZ).up1; clear hZ)
            | ((with_reducible refine gate_builtin (b := .copy) (xs := #[.tmp 150, .tmp 152]) rfl ?_); refine Sep.copy_row rfl _ _ rfl rfl rfl HSZ2.out (by rw [HB1.out.2, HB2.out.2]) ?_; intro wq hq2; have HSQ := Aside0.mk hq2; clear hq2))
          go_roundg (T.length - (i + 1))
          case measure => have := HJ.out; have := HI.out; omega
          case rel => exact ⟨i + 1, ⟨r.n, r.p, r'⟩, b2, rfl, rfl, ⟨by have := HJ.out; have := HI.out; omega⟩, ⟨HRW.out.1, HRW.out.2, HB2.out⟩, ⟨HSQ.out.up1.drop⟩⟩
    · have t1 : decide ((i : Int) ≤ 16) = false := decide_eq_false (by omega)
      go_wp2
      go_ret
      exact ⟨rfl, HS.out.below⟩
theorem journalAgain_pure (s : RC) (T : List (Int × Int × Int)) (hl : T.length ≤ 9223372036854775807) (hw : True) : ∃ k : Nat, true = true := ⟨0, rfl⟩
theorem journalAgain_row (k : Nat) (s : RC) (At : Option Addr) (ct : Nat) (T : List (Int × Int × Int)) (v : Bool) (W : World) {A : Option Addr} {c : Nat} (hs : s.Ok) (hl : s.r.length ≤ c) (hr : kRF.C W A s.r.length s.r) (hn : s.r.length * 48 ≤ reachBytes) (hT : k3.C W At T.length T) (hct : T.length ≤ ct) (hG : Wr.Half W) (h : v = true) :
    Calls Tryd.prog 7 #[.agg (s.V A c).toArray, .slice At T.length ct] W fun e w' => e = .returned (.bool v) ∧ Below W.heap.size W w' := by
  subst h
  exact again_calls s hs A c hl T At ct W hG hr hT
end Go.Proofs.YtagodmmpkapgnaaDoor.M

namespace Go.Proofs.YtagodmmpkapgnaaDoor.BulkW
open Go.ChangeShapes Go.WideShapes Go.Proofs.YtagodmmpkapgnaaDoorW.PrintWords
set_option linter.unusedVariables false
section
variable {H : Type} (enc : TypeId × Value → H) (P : Program) (W : World) (base : Nat) (spare : Nat → Bool) (held : Bool)
def Opens {α : Type} (t : TypeId) (d : Kd α) (Ok : α → Prop) : Prop :=
  ∀ (fuel : Nat) (cs : List Value) (x : DataW H × List MemPlace), DataW.trod enc P W base spare held fuel t cs = some x → (∀ n ∈ x.1.weights P t, n ≤ reachBytes) → ∃ y, d.K W y cs ∧ Ok y
variable {enc P W base spare held}
theorem cells_of {a : Addr} {n : Nat} {cs : List Value} (h : W.cells? base a n = some cs) : cs.length = n ∧ ∀ i u, cs[i]? = some u → W.cell? (a.add i) = some u := by
  obtain ⟨_, hl, hc⟩ := World.cells?_some h
  refine ⟨hl, fun i u hu => ?_⟩
  have hi : i < cs.length := (List.getElem?_eq_some_iff.1 hu).1
  rw [hc i (by omega), hu]
theorem in_all {P : Program} {e : TypeId} {n : Nat} : ∀ {l : List (DataW H)} {d : DataW H}, d ∈ l → n ∈ d.weights P e → n ∈ DataW.weightsAll P e l
  | x :: r, d, hd, hn => by
    unfold DataW.weightsAll
    rcases List.mem_cons.1 hd with rfl | hd
    · exact List.mem_append_left _ hn
    · exact List.mem_append_right _ (in_all hd hn)
theorem opens_slice {α : Type} {t e q : TypeId} {d : Kd α} {Ok : α → Prop} (ht : P.underlying t = some (.slice e)) (hc : P.cellsOf e = d.sz)
    (he : Opens enc P W base spare held e d Ok) :
    Opens enc P W base spare held t (Kd.slice q d) (fun ys => ys.length * P.bytesOf e ≤ reachBytes ∧ ∀ y ∈ ys, Ok y) := by
  intro fuel cs x h hwt
  rcases DataW.trod_slice ht h with ⟨rfl, rfl⟩ | ⟨a, len, cap, elems, rest, n, _, rfl, rfl, hb, hl, hmax, hlen, hel, _, _⟩
  · refine ⟨[], ⟨none, 0, rfl, Nat.le_refl _, rfl, Nat.zero_le _, fun h => absurd h (Nat.lt_irrefl _)⟩, by simp, fun y hy => by cases hy⟩
  · have hw1 : ∀ n ∈ ((elems.map (·.1)).length + (rest.map (·.1)).length) * P.bytesOf e :: (DataW.weightsAll P e (elems.map (·.1)) ++ DataW.weightsAll P e (rest.map (·.1))), n ≤ reachBytes := by
      have h1 := hwt
      dsimp only at h1
      unfold DataW.weights at h1
      rw [ht] at h1
      exact h1
    have each : ∀ i (hi : i < elems.length), ∃ y, (∃ c, c.length = d.sz ∧ d.K W y c ∧ ∀ j u, c[j]? = some u → W.cell? (a.add (i * d.sz + j)) = some u) ∧ Ok y := by
      intro i hi
      have h1 := hel i (by omega)
      rw [List.getElem?_eq_getElem hi, Option.bind_eq_some_iff] at h1
      obtain ⟨c, h2, h3⟩ := h1
      obtain ⟨y, hk, hok⟩ := he _ _ _ h3 (fun n hn => hw1 n (List.mem_cons_of_mem _ (List.mem_append_left _ (in_all (List.mem_map.2 ⟨elems[i], List.getElem_mem hi, rfl⟩) hn))))
      obtain ⟨hcl, hcell⟩ := cells_of h2
      rw [hc] at hcl hcell
      refine ⟨y, ⟨c, hcl, hk, fun j u hu => ?_⟩, hok⟩
      have := hcell j u hu
      rwa [Addr.add_add] at this
    have all : ∀ m, m ≤ elems.length → ∃ ys : List α, ys.length = m ∧ ∀ i y, ys[i]? = some y → (∃ c, c.length = d.sz ∧ d.K W y c ∧ ∀ j u, c[j]? = some u → W.cell? (a.add (i * d.sz + j)) = some u) ∧ Ok y := by
      intro m
      induction m with
      | zero => intro _; exact ⟨[], rfl, fun i y hy => by simp at hy⟩
      | succ m ih =>
        intro hm1
        obtain ⟨ys, hys, hall⟩ := ih (by omega)
        obtain ⟨y, hy, hoky⟩ := each m (by omega)
        refine ⟨ys ++ [y], by simp [hys], fun i z hz => ?_⟩
        by_cases hi : i < m
        · rw [List.getElem?_append_left (by omega)] at hz
          exact hall i z hz
        · have hi2 : i < (ys ++ [y]).length := (List.getElem?_eq_some_iff.1 hz).1
          simp [hys] at hi2
          obtain rfl : i = m := by omega
          rw [List.getElem?_append_right (by omega), hys] at hz
          simp at hz
          subst hz
          exact ⟨hy, hoky⟩
    obtain ⟨ys, hys, hall⟩ := all elems.length (Nat.le_refl _)
    refine ⟨ys, ⟨some a, cap, by rw [hys, hlen], by omega, rfl, ?_, fun _ => ⟨a, rfl, fun j p hp => (hall j p hp).1⟩⟩, ?_, fun y hy => ?_⟩
    · rw [hys, hlen]
      have : (maxLen : Nat) ≤ 9223372036854775807 := by decide
      omega
    · have h1 := hw1 _ List.mem_cons_self
      rw [List.length_map, List.length_map] at h1
      rw [hys]
      exact Nat.le_trans (Nat.mul_le_mul_right _ (Nat.le_add_right _ _)) h1
    · obtain ⟨i, hi⟩ := List.getElem?_of_mem hy
      exact (hall i y hi).2
theorem arg_full {α : Type} {t q : TypeId} {d : Kd α} {Ok : List α → Prop} {a : Option Addr} {len cap : Nat} {dd : DataW H} {ps : List MemPlace}
    (hs : Opens enc P W base spare held t (Kd.slice q d) Ok) (h : DataW.Trod enc P W base spare held t (.slice a len cap) dd ps) (hw : ∀ n ∈ dd.weights P t, n ≤ reachBytes) : ∃ l, len = l.length ∧ l.length ≤ cap ∧ Kd.C d W a l.length l ∧ l.length ≤ 9223372036854775807 ∧ Ok l := by
  obtain ⟨fuel, hf⟩ := h
  obtain ⟨l, ⟨A, c, he, hl, hC⟩, hok⟩ := hs _ _ _ hf hw
  simp [Value.cells] at he
  obtain ⟨rfl, rfl, rfl⟩ := he
  exact ⟨l, rfl, hl, hC, hC.2.1, hok⟩
end
theorem weights_at {H : Type} {P : Program} : ∀ {ts : List TypeId} {ds : List (DataW H)}, (DataW.weightsEach P ts ds).all (· ≤ reachBytes) = true → ∀ (j : Nat) (t : TypeId) (d : DataW H), ts[j]? = some t → ds[j]? = some d → ∀ n ∈ d.weights P t, n ≤ reachBytes
  | t0 :: ts, d0 :: ds, h, j, t, d, ht, hd, n, hn => by
    unfold DataW.weightsEach at h
    rw [List.all_append, Bool.and_eq_true] at h
    cases j with
    | zero =>
      obtain rfl : t0 = t := Option.some.inj ht
      obtain rfl : d0 = d := Option.some.inj hd
      exact of_decide_eq_true (List.all_eq_true.1 h.1 n hn)
    | succ j => exact weights_at h.2 j t d ht hd n hn
  | [], _, _, j, t, d, ht, _, _, _ => by simp at ht
  | _ :: _, [], _, j, t, d, _, hd, _, _ => by simp at hd
end Go.Proofs.YtagodmmpkapgnaaDoor.BulkW

namespace Go.Proofs.YtagodmmpkapgnaaDoor.Bulk
open Go.ChangeShapes Go.WideShapes Go.RowKit Go.Proofs.YtagodmmpkapgnaaDoorW.PrintWords Go.Proofs.YtagodmmpkapgnaaDoorW.PrintLast Go.Proofs.YtagodmmpkapgnaaDoorW.PrintMore Go.Proofs.YtagodmmpkapgnaaDoor.M Go.Proofs.YtagodmmpkapgnaaDoor.Pl Go.Proofs.YtagodmmpkapgnaaDoor.Wr Go.Proofs.YtagodmmpkapgnaaDoor.A
set_option linter.unusedVariables false
section
variable {H : Type} {enc : TypeId × Value → H} {W : World} {base : Nat} {spare : Nat → Bool} {held : Bool}
theorem bound_u8 {x : Int} (h : (Lit.int .u8 x).wf = true) : 0 ≤ x ∧ x < 256 := by
  simp [Lit.wf, IntKind.min, IntKind.max, IntKind.signed, IntKind.bits] at h
  omega
def valI : Value → Int
  | .int _ n => n
  | _ => 0
theorem opens_key {fuel : Nat} {cs : List Value} {x : DataW H × List MemPlace} (h : DataW.trod enc Tryd.prog W base spare held fuel 23 cs = some x) : ∃ l : List Int, cs = nums .u8 l ∧ l.length = 32 ∧ bytes_ l := by
  obtain ⟨xs, m, _, _, hl, hx, hf⟩ := DataW.trod_array Tryd.underlying23 h
  rw [show Tryd.prog.cellsOf 23 = 32 by kernel_rfl] at hl
  have q5 : Tryd.prog.cellsOf 5 = 1 := by kernel_rfl
  have each : ∀ v ∈ cs, ∃ n, v = .int .u8 n ∧ 0 ≤ n ∧ n < 256 := by
    intro v hv
    obtain ⟨i, hi, rfl⟩ := List.getElem_of_mem hv
    have h1 := hf i (by omega)
    rw [q5, Nat.mul_one, List.getElem?_eq_getElem (by omega)] at h1
    obtain ⟨n, he, _, hw⟩ := DataW.trod_int Tryd.underlying5 h1
    refine ⟨n, ?_, bound_u8 hw⟩
    have h2 : (cs.drop i).take 1 = [cs[i]] := by rw [List.drop_eq_getElem_cons hi]; rfl
    rw [h2] at he
    exact List.head_eq_of_cons_eq he
  refine ⟨cs.map valI, ?_, by rw [List.length_map, hl], ?_⟩
  · unfold nums
    rw [List.map_map]
    refine (List.map_congr_left (g := id) (fun v hv => ?_) |>.trans (List.map_id _)).symm
    obtain ⟨n, rfl, _⟩ := each v hv
    rfl
  · intro y hy
    obtain ⟨v, hv, rfl⟩ := List.mem_map.1 hy
    obtain ⟨n, rfl, h1⟩ := each v hv
    exact h1
theorem opens_i64 {fuel : Nat} {c : List Value} {x : DataW H × List MemPlace} (h : DataW.trod enc Tryd.prog W base spare held fuel 3 c = some x) : ∃ n, c = [.int .i64 n] := by
  obtain ⟨n, he, _, hw⟩ := DataW.trod_int Tryd.underlying3 h
  exact ⟨n, he⟩
theorem cut_ {α : Type} (cs : List α) (a n : Nat) {y : List α} (h : (cs.drop a).take n = y) : cs.drop a = y ++ cs.drop (a + n) := by
  rw [← h, ← List.drop_drop]
  exact (List.take_append_drop n _).symm
theorem some_at {α : Type} {xs : List α} {i : Nat} (h : i < xs.length) : ∃ x, xs[i]? = some x := ⟨_, List.getElem?_eq_getElem h⟩
theorem opens_ref {fuel : Nat} {cs : List Value} {x : DataW H × List MemPlace} (h : DataW.trod enc Tryd.prog W base spare held fuel 69 cs = some x) : ∃ (l : List Int) (a b : Int), cs = refV l a b ∧ l.length = 32 ∧ bytes_ l := by
  obtain ⟨xs, m, _, _, hl, hx, hf⟩ := DataW.trod_struct Tryd.underlying69 h
  rw [show Tryd.prog.cellsOf 69 = 34 by kernel_rfl] at hl
  have hx3 : xs.length = 3 := hx
  have q23 : Tryd.prog.cellsOf 23 = 32 := by kernel_rfl
  have q3 : Tryd.prog.cellsOf 3 = 1 := by kernel_rfl
  obtain ⟨x0, e0⟩ := some_at (show 0 < xs.length by omega)
  obtain ⟨x1, e1⟩ := some_at (show 1 < xs.length by omega)
  obtain ⟨x2, e2⟩ := some_at (show 2 < xs.length by omega)
  have f0 : DataW.trod enc Tryd.prog W base spare held m 23 ((cs.drop 0).take (Tryd.prog.cellsOf 23)) = some x0 := (hf 0 _ rfl).trans e0
  have f1 : DataW.trod enc Tryd.prog W base spare held m 3 ((cs.drop 32).take (Tryd.prog.cellsOf 3)) = some x1 := (hf 1 _ rfl).trans e1
  have f2 : DataW.trod enc Tryd.prog W base spare held m 3 ((cs.drop 33).take (Tryd.prog.cellsOf 3)) = some x2 := (hf 2 _ rfl).trans e2
  rw [q23] at f0
  rw [q3] at f1 f2
  obtain ⟨l, g0, hl0, hb0⟩ := opens_key f0
  obtain ⟨a, g1⟩ := opens_i64 f1
  obtain ⟨b, g2⟩ := opens_i64 f2
  refine ⟨l, a, b, ?_, hl0, hb0⟩
  have c0 := cut_ cs 0 32 g0
  have c1 := cut_ cs 32 1 g1
  have c2 := cut_ cs 33 1 g2
  rw [List.drop_zero] at c0
  rw [c0]
  show nums .u8 l ++ cs.drop 32 = _
  rw [c1]
  show nums .u8 l ++ ([Value.int .i64 a] ++ cs.drop 33) = _
  rw [c2, List.drop_eq_nil_of_le (show cs.length ≤ 33 + 1 by omega)]
  rfl
end
end Go.Proofs.YtagodmmpkapgnaaDoor.Bulk
namespace Go.Proofs.YtagodmmpkapgnaaDoor.BulkW
open Go.ChangeShapes Go.WideShapes Go.RowKit Go.Proofs.YtagodmmpkapgnaaDoorW.PrintWords Go.Proofs.YtagodmmpkapgnaaDoorW.PrintLast Go.Proofs.YtagodmmpkapgnaaDoorW.PrintMore Go.Proofs.YtagodmmpkapgnaaDoor.M Go.Proofs.YtagodmmpkapgnaaDoor.Pl Go.Proofs.YtagodmmpkapgnaaDoor.Wr Go.Proofs.YtagodmmpkapgnaaDoor.A
set_option linter.unusedVariables false
section
variable {H : Type} {enc : TypeId × Value → H} {W : World} {base : Nat} {spare : Nat → Bool} {held : Bool}
theorem opens_69 : Opens enc Tryd.prog W base spare held 69 kRF (fun _ => True) := by
  intro fuel cs x h _
  obtain ⟨l, a, b, he, hl, hb⟩ := Bulk.opens_ref h
  exact ⟨⟨l, a, b⟩, ⟨⟨hl, hb⟩, he⟩, trivial⟩
set_option maxRecDepth 100000 in
theorem opens_24 : Opens enc Tryd.prog W base spare held 24 (Kd.slice 69 kRF) (fun ys => ys.length * 48 ≤ reachBytes) := fun f cs x h hw => by
  obtain ⟨y, h1, h2, _⟩ := opens_slice (q := 69) (d := kRF) Tryd.underlying24 (by kernel_rfl) opens_69 f cs x h hw
  exact ⟨y, h1, by rwa [show Tryd.prog.bytesOf 69 = 48 by kernel_rfl] at h2⟩
set_option maxRecDepth 100000 in
theorem opens_26 : Opens enc Tryd.prog W base spare held 26 kRC (fun s => s.r.length * 48 ≤ reachBytes) := by
  intro fuel cs x h hw
  obtain ⟨xs, m, _, rfl, hl, hx, hf⟩ := DataW.trod_struct Tryd.underlying26 h
  rw [show Tryd.prog.cellsOf 26 = 34 by kernel_rfl] at hl
  obtain ⟨x0, x1, x2, rfl⟩ : ∃ x0 x1 x2, xs = [x0, x1, x2] := by
    match xs, hx with
    | [x0, x1, x2], _ => exact ⟨x0, x1, x2, rfl⟩
  have hw1 : ∀ n ∈ x0.1.weights Tryd.prog 3 ++ (x1.1.weights Tryd.prog 23 ++ (x2.1.weights Tryd.prog 24 ++ [])), n ≤ reachBytes := by
    have h1 := hw
    dsimp only at h1
    unfold DataW.weights at h1
    rw [Tryd.underlying26] at h1
    exact h1
  have q23 : Tryd.prog.cellsOf 23 = 32 := by kernel_rfl
  have q3 : Tryd.prog.cellsOf 3 = 1 := by kernel_rfl
  have q24 : Tryd.prog.cellsOf 24 = 1 := by kernel_rfl
  have f0 : DataW.trod enc Tryd.prog W base spare held m 3 ((cs.drop 0).take (Tryd.prog.cellsOf 3)) = some x0 := hf 0 _ rfl
  have f1 : DataW.trod enc Tryd.prog W base spare held m 23 ((cs.drop 1).take (Tryd.prog.cellsOf 23)) = some x1 := hf 1 _ rfl
  have f2 : DataW.trod enc Tryd.prog W base spare held m 24 ((cs.drop 33).take (Tryd.prog.cellsOf 24)) = some x2 := hf 2 _ rfl
  rw [q3] at f0
  rw [q23] at f1
  rw [q24] at f2
  obtain ⟨n, g0⟩ := Bulk.opens_i64 f0
  obtain ⟨p, g1, k1, k2⟩ := Bulk.opens_key f1
  obtain ⟨r, ⟨A, c, g2, l2, hC⟩, hlen⟩ := opens_24 _ _ _ f2 (fun n hn => hw1 n (by simp only [List.mem_append]; exact .inr (.inr (.inl hn))))
  have c0 := Bulk.cut_ cs 0 1 g0
  have c1 := Bulk.cut_ cs 1 32 g1
  have c2 := Bulk.cut_ cs 33 1 g2
  rw [List.drop_zero] at c0
  rw [List.drop_eq_nil_of_le (show cs.length ≤ 33 + 1 by omega), List.append_nil] at c2
  have e : cs = (RC.V ⟨n, p, r⟩ A c) := by
    rw [c0]
    show [Value.int .i64 n] ++ cs.drop 1 = _
    rw [c1]
    show [Value.int .i64 n] ++ (nums .u8 p ++ cs.drop 33) = _
    rw [c2]
    rfl
  rw [e]
  exact ⟨⟨n, p, r⟩, kRC_mk W ⟨n, p, r⟩ ⟨k1, k2, refs_ok hC⟩ l2 hC, hlen⟩
set_option maxRecDepth 100000 in
theorem arg_r {r : Reach} {b0 : Nat} {v : Value} {dd : DataW H} {ps : List MemPlace} (hv : Value.okWide Tryd.prog W r b0 26 v)
    (h : DataW.Trod enc Tryd.prog W base spare held 26 v dd ps) (hw : ∀ n ∈ dd.weights Tryd.prog 26, n ≤ reachBytes) : ∃ (s : RC) (A : Option Addr) (c : Nat), v = .agg (s.V A c).toArray ∧ s.Ok ∧ s.r.length ≤ c ∧ kRF.C W A s.r.length s.r ∧ s.r.length * 48 ≤ reachBytes := by
  obtain ⟨cs, rfl, hsz⟩ := okWide_struct Tryd.underlying26 hv
  obtain ⟨fuel, hf⟩ := h
  obtain ⟨s, hs, hl⟩ := opens_26 _ _ _ hf hw
  obtain ⟨hok, A, c, he, hc, hC⟩ := kRC_open hs
  have h1 : cs.toList = s.V A c := he
  exact ⟨s, A, c, by rw [← h1], hok, hc, hC, hl⟩
end
end Go.Proofs.YtagodmmpkapgnaaDoor.BulkW

namespace Go.Proofs.YtagodmmpkapgnaaDoor.BulkW
open Go.ChangeShapes Go.WideShapes Go.RowKit Go.Proofs.YtagodmmpkapgnaaDoorW.PrintWords Go.Proofs.YtagodmmpkapgnaaDoorW.PrintLast Go.Proofs.YtagodmmpkapgnaaDoorW.PrintMore Go.Proofs.YtagodmmpkapgnaaDoor.M Go.Proofs.YtagodmmpkapgnaaDoor.Pl Go.Proofs.YtagodmmpkapgnaaDoor.Wr Go.Proofs.YtagodmmpkapgnaaDoor.A
set_option linter.unusedVariables false
section
variable {H : Type} {enc : TypeId × Value → H} {W : World} {base : Nat} {spare : Nat → Bool} {held : Bool}
set_option maxRecDepth 100000 in
theorem opens_67 : Opens enc Tryd.prog W base spare held 67 k3 (fun _ => True) := by
  intro fuel cs x h _
  obtain ⟨xs, m, _, _, hl, hx, hf⟩ := DataW.trod_array Tryd.underlying67 h
  rw [show Tryd.prog.cellsOf 67 = 3 by kernel_rfl] at hl
  have q3 : Tryd.prog.cellsOf 3 = 1 := by kernel_rfl
  have each : ∀ i, (hi : i < 3) → ∃ n, cs[i]? = some (.int .i64 n) := by
    intro i hi
    have h1 := hf i hi
    rw [q3, Nat.mul_one, List.getElem?_eq_getElem (show i < xs.length by omega)] at h1
    obtain ⟨n, he⟩ := Bulk.opens_i64 h1
    refine ⟨n, ?_⟩
    rw [List.drop_eq_getElem_cons (show i < cs.length by omega)] at he
    have h2 := List.head_eq_of_cons_eq he
    rw [List.getElem?_eq_getElem (show i < cs.length by omega), h2]
  obtain ⟨a, ha⟩ := each 0 (by decide)
  obtain ⟨b, hb⟩ := each 1 (by decide)
  obtain ⟨c, hc⟩ := each 2 (by decide)
  refine ⟨(a, b, c), ?_, trivial⟩
  show cs = [.int .i64 a, .int .i64 b, .int .i64 c]
  apply List.ext_getElem?
  intro i
  by_cases hi : i < 3
  · rcases (show i = 0 ∨ i = 1 ∨ i = 2 by omega) with rfl | rfl | rfl
    · exact ha
    · exact hb
    · exact hc
  · rw [List.getElem?_eq_none (by omega), List.getElem?_eq_none (show [Value.int .i64 a, Value.int .i64 b, Value.int .i64 c].length ≤ i from by show 3 ≤ i; omega)]
set_option maxRecDepth 100000 in
theorem arg_65 {a : Option Addr} {len cap : Nat} {dd : DataW H} {ps : List MemPlace}
    (h : DataW.Trod enc Tryd.prog W base spare held 65 (.slice a len cap) dd ps) (hw : ∀ n ∈ dd.weights Tryd.prog 65, n ≤ reachBytes) : ∃ l, len = l.length ∧ l.length ≤ cap ∧ Kd.C k3 W a l.length l ∧ l.length ≤ 9223372036854775807 ∧ True := by
  obtain ⟨l, h1, h2, h3, h4, _⟩ := arg_full (q := 67) (opens_slice Tryd.underlying65 (by kernel_rfl) opens_67) h hw
  exact ⟨l, h1, h2, h3, h4, trivial⟩
end
end Go.Proofs.YtagodmmpkapgnaaDoor.BulkW

namespace Go.Proofs.YtagodmmpkapgnaaDoor.journalAgain
open Go.ChangeShapes Go.WideShapes Go.ChangeAt Go.RowKit Go.Proofs.YtagodmmpkapgnaaDoorW.PrintWords Go.Proofs.YtagodmmpkapgnaaDoorW.PrintLast Go.Proofs.YtagodmmpkapgnaaDoorW.PrintMore Go.Proofs.YtagodmmpkapgnaaDoor.P Go.Proofs.YtagodmmpkapgnaaDoor.M Go.Proofs.YtagodmmpkapgnaaDoor.Wr Go.Proofs.YtagodmmpkapgnaaDoor.Pl Go.Proofs.YtagodmmpkapgnaaDoor.A
set_option linter.unusedVariables false
theorem own : ownKnob Tryd.prog.godebug = none := by kernel_rfl
theorem laidOut : laidOutB Tryd.prog = true := by kernel_rfl
theorem gTab : Tryd.prog.globalNamed "kiln/wire.half" = some 0 := by kernel_rfl
theorem gTabType : (Tryd.prog.globals[0]?).map (·.type) = some 165 := by kernel_rfl
theorem cellsTab : Tryd.prog.cellsOf 165 = 16 := by kernel_rfl
theorem cells124 : Tryd.prog.cellsOf 124 = 1 := by kernel_rfl
theorem half_of {W : World} (h : laidMetH Tryd.prog Rows.journalAgainRow.laid W) : Wr.Half W := by
  have t : Lib.TabIs Tryd.prog W "kiln/wire.half" .u32 [0, 498536548, 997073096, 651767980, 1994146192, 1802195444, 1303535960, 1342533948, 3988292384, 4027552580, 3604390888, 3412177804, 2607071920, 2262029012, 2685067896, 3183342108] := Lib.tabIs_of_head (rest := []) gTab gTabType Tryd.underlying165 Tryd.underlying124 cells124 cellsTab h
  intro i hi
  have hc := t.cell gTab i (by simpa using hi)
  have e : ∀ j : Fin 16, ([0, 498536548, 997073096, 651767980, 1994146192, 1802195444, 1303535960, 1342533948, 3988292384, 4027552580, 3604390888, 3412177804, 2607071920, 2262029012, 2685067896, 3183342108] : List Int)[j.1]? = some ((halfL.getD j.1 0 : Nat) : Int) := by decide
  have e2 := e ⟨i, hi⟩
  first
  | (rw [List.getD_eq_getElem?_getD, e2] at hc; exact hc)
  | (rw [List.getElem?_eq_some_iff] at e2; obtain ⟨_, e3⟩ := e2; rw [e3] at hc; exact hc)
def IsRow (k : IntKind) (w : World) (a : Option Addr) (len cap : Nat) (zs : List Int) : Prop :=
  (a = none ∧ len = 0 ∧ cap = 0 ∧ zs = []) ∨
  ∃ x, a = some x ∧ len ≤ cap ∧ cap ≤ maxLen ∧ zs.length = cap ∧ (∀ i, i < zs.length → w.cell? (x.add i) = some (.int k (zs.getD i 0))) ∧ ∀ n ∈ zs, (Lit.int k n).wf = true
set_option maxRecDepth 100000 in
theorem contract (H : Type) (enc : TypeId × Value → H) (W : World) (base : Nat) (args : Array Value) (ds gs : List (DataW H)) (before : List MemPlace)
    (hval : ∀ (j : Nat) t v, Tryd.f7.params[j]? = some t → args[j]? = some v → Value.okWide Tryd.prog W .any base t v)
    (hW : DataW.Whole enc Tryd.prog Tryd.f7.params.toList Rows.journalAgainSpec.vars false W args.toList ds gs before)
    (hsz0 : (DataW.weightsEach Tryd.prog (Tryd.f7.params.toList ++ Rows.journalAgainSpec.plain.varTypes Tryd.prog) (ds ++ gs)).all (· ≤ reachBytes) = true)
    (hL : laidMetH Tryd.prog Rows.journalAgainRow.laid W) :
    Calls Tryd.prog 7 args W fun e W' => ∃ v, e = .returned v ∧ Rows.journalAgainSpec.post enc Tryd.prog Tryd.f7 false true false false W args v W' := by
  have hG := half_of hL
  have hW' := hW
  have hsz : (DataW.weightsEach Tryd.prog (Tryd.f7.params.toList ++ Rows.journalAgainSpec.plain.varTypes Tryd.prog) (ds ++ gs)).all (· ≤ reachBytes) = true := hsz0
  obtain ⟨p, q, hA0, hV, rfl, hfz, hnd⟩ := hW
  have hA : DataW.TrodAll enc Tryd.prog W 0 (fun _ => true) true Tryd.f7.params.toList args.toList ds p := hA0
  rw [Tryd.params7] at hA hval hsz
  obtain ⟨v0, vs0, d0, ds0, p0, q0, hargs, rfl, rfl, h0, r0⟩ := trodAll_cons hA
  obtain ⟨v1, vs1, d1, ds1, p1, q1, rfl, rfl, rfl, h1, r1⟩ := trodAll_cons r0
  obtain ⟨rfl, rfl, rfl⟩ := trodAll_nil r1
  obtain rfl : args = #[v0, v1] := by cases args; simp_all
  obtain ⟨rfl, rfl⟩ := trodVars_none hV
  have k0 := h0
  have lt0 : ∀ x ∈ p0, x.block < W.heap.size := by obtain ⟨m, hm⟩ := k0; exact DataW.trod_lt m _ _ _ hm
  obtain ⟨s0, A0, c0, rfl, hs0, hl0, hr0, hn0⟩ := BulkW.arg_r (hval 0 26 v0 rfl rfl) h0 (BulkW.weights_at hsz 0 26 d0 rfl rfl)
  obtain ⟨a1, len1, cap1, rfl⟩ := okWide_slice Tryd.underlying65 (hval 1 65 v1 rfl rfl)
  have k1 := h1
  have lt1 : ∀ x ∈ p1, x.block < W.heap.size := by obtain ⟨m, hm⟩ := k1; exact DataW.trod_lt m _ _ _ hm
  obtain ⟨l1, rfl, hc1, hr1, hn1, hw1⟩ := BulkW.arg_65 h1 (BulkW.weights_at hsz 1 65 d1 rfl rfl)
  clear hA0 hsz0 hsz
  obtain ⟨k, h⟩ := M.journalAgain_pure s0 l1 (by omega) hw1
  refine (M.journalAgain_row k s0 _ _ l1 true W hs0 hl0 hr0 hn0 hr1 hc1 hG h).mono ?_
  rintro e W' ⟨rfl, bel⟩
  exact ⟨_, rfl, _, _, _, [], _, [], hW', trodAll_mk1 (shut_bool Tryd.underlying4 _), (trodAll_cons_mk (Below.trod laidOut (by kernel_rfl) (of_decide_eq_true (by kernel_rfl)) k0 bel lt0) (trodAll_cons_mk (Below.trod laidOut (by kernel_rfl) (of_decide_eq_true (by kernel_rfl)) k1 bel lt1) trodAll_mk0)), rfl, bel.frame _, fun h => by cases h⟩
noncomputable def laidWorld (os : Os) : World :=
  { World.holding Tryd.prog os ⟨#[], #[], []⟩ with heap := (World.holding Tryd.prog os ⟨#[], #[], []⟩).heap.modify 0 fun
      | .cells _ t frozen => .cells #[.int .u32 0, .int .u32 498536548, .int .u32 997073096, .int .u32 651767980, .int .u32 1994146192, .int .u32 1802195444, .int .u32 1303535960, .int .u32 1342533948, .int .u32 3988292384, .int .u32 4027552580, .int .u32 3604390888, .int .u32 3412177804, .int .u32 2607071920, .int .u32 2262029012, .int .u32 2685067896, .int .u32 3183342108] t frozen
      | o => o }
set_option maxRecDepth 100000 in
theorem laid_met (os : Os) : laidMet Tryd.prog Rows.journalAgainRow.laid ((laidWorld os).forCall (fun _ _ => 0) ⟨#[], #[.agg (noRC.V none 0).toArray, .slice none 0 0], []⟩).memory :=
  laidMet_of_run' 8 (by kernel_rfl) (by kernel_rfl)
set_option maxRecDepth 100000 in
theorem reads (os : Os) {H : Type} (enc : TypeId × Value → H) : ∃ places, DataW.whole enc Tryd.prog ((laidWorld os).forCall (fun _ _ => 0) ⟨#[], #[.agg (noRC.V none 0).toArray, .slice none 0 0], []⟩).memory Tryd.f7.params.toList Rows.journalAgainSpec.vars false (#[.agg (noRC.V none 0).toArray, .slice none 0 0] : Array Value).toList 8 = some ([.agg [.lit (.int .i64 0), .agg [.lit (.int .u8 0), .lit (.int .u8 0), .lit (.int .u8 0), .lit (.int .u8 0), .lit (.int .u8 0), .lit (.int .u8 0), .lit (.int .u8 0), .lit (.int .u8 0), .lit (.int .u8 0), .lit (.int .u8 0), .lit (.int .u8 0), .lit (.int .u8 0), .lit (.int .u8 0), .lit (.int .u8 0), .lit (.int .u8 0), .lit (.int .u8 0), .lit (.int .u8 0), .lit (.int .u8 0), .lit (.int .u8 0), .lit (.int .u8 0), .lit (.int .u8 0), .lit (.int .u8 0), .lit (.int .u8 0), .lit (.int .u8 0), .lit (.int .u8 0), .lit (.int .u8 0), .lit (.int .u8 0), .lit (.int .u8 0), .lit (.int .u8 0), .lit (.int .u8 0), .lit (.int .u8 0), .lit (.int .u8 0)], .nil], .nil], [], places) :=
  ⟨[], by kernel_rfl⟩
set_option maxRecDepth 100000 in
theorem lifted (os : Os) (started : os.Started) (H : Type) (enc : TypeId × Value → H) (F : Stop.Interp) :
    ReturnsInHanded {} Tryd.checked os 7 .any ((OpenSpec.ofChange Rows.journalAgainSpec).preRow enc Tryd.prog Tryd.f7 Rows.journalAgainRow.domain false Rows.journalAgainRow.laid) (((OpenSpec.ofChange Rows.journalAgainSpec).at F).post enc Tryd.prog Tryd.f7 false true false false) := by
  obtain ⟨places, hx⟩ := reads os enc
  refine returnsInHanded_of_row (C := Tryd.checked) (s := OpenSpec.ofChange Rows.journalAgainSpec) own started (by kernel_rfl) Tryd.func7
    (witness_row_at (enc := enc) (C := Tryd.checked) false (laidWorld os) #[.agg (noRC.V none 0).toArray, .slice none 0 0] rfl (by kernel_rfl) (by kernel_rfl) (by kernel_rfl)
      (OpenSpec.preRow_of_cond 8 hx (by kernel_rfl) (fun k hk => by cases hk) (by kernel_rfl) (laid_met os))) ?_
  intro W base args ds gs before hval hW _ hcond hsz hL _ _
  exact contract H enc W base args ds gs before hval hW hsz hL
set_option maxRecDepth 100000 in
theorem said : Rows.JournalAgainSaid :=
  OpenClaim.holds_of_cond 7 Tryd.f7 rfl rfl rfl rfl rfl rfl rfl ⟨rfl, rfl, rfl, rfl, rfl⟩ rfl rfl rfl rfl rfl (by kernel_rfl) Tryd.func7 (by kernel_rfl)
    (of_decide_eq_true (by kernel_rfl)) (by unfold Func.isWrapper; first | (rw [if_pos (by decide +kernel)]; kernel_rfl) | (rw [if_neg (by decide +kernel)]; exact ⟨rfl, rfl⟩))
    (fun os started H enc _ F => by rw [OpenClaim.pre_eq_preRow]; exact lifted os started H enc F)
theorem plain (f : FuncId) (fn : Func) (hf : Tryd.pinned.checked.prog.funcNamed "kiln/kilnlaw17.JournalAgain" = some f) (hfn : Tryd.pinned.checked.prog.funcs[f]? = some fn) :
    false = Tryd.pinned.checked.prog.looks [] ∧ ∀ (j : Nat) t, fn.params[j]? = some t → Tryd.pinned.checked.prog.wantsStandIn t = false := by
  obtain rfl : f = 7 := Option.some.inj ((show Tryd.prog.funcNamed "kiln/kilnlaw17.JournalAgain" = some 7 by kernel_rfl).symm.trans hf) |>.symm
  obtain rfl : fn = Tryd.f7 := (Option.some.inj (Tryd.func7.symm.trans hfn)).symm
  refine ⟨by kernel_rfl, fun j t ht => ?_⟩
  rw [Tryd.params7] at ht
  have hm : t ∈ [26, 65] := by simpa using Array.mem_of_getElem? ht
  have hall : ([26, 65].all fun u => !Tryd.prog.wantsStandIn u) = true := by kernel_rfl
  exact (show Tryd.prog.wantsStandIn t = false by simpa using List.all_eq_true.1 hall t hm)
set_option maxRecDepth 100000 in
theorem card : Rows.JournalAgainCardSaid :=
  Claim7.holds_tied_plain_at .later [] _ _ _ _ said (fun _ h => by cases h) (by kernel_rfl) (fun _ h => by cases h) journalAgain_row_tie rfl ⟨rfl, rfl⟩ (by kernel_rfl) rfl plain (by kernel_rfl)
#print axioms card
end Go.Proofs.YtagodmmpkapgnaaDoor.journalAgain
namespace Go.Proofs.YtagodmmpkapgnaaDoor
theorem journalAgain_card_holds : Rows.JournalAgainCardSaid := journalAgain.card
end Go.Proofs.YtagodmmpkapgnaaDoor
