/- JournalBit: a bit turned over in a record's sector makes an end of the records ahead of it; those behind are told from the next one on. No condition beyond the statement's own. -/
import Derived.Test.YtagodmmpkapgnaaDoorPiZ2
import Derived.Test.YtagodmmpkapgnaaDoorCards
import Derived.Test.YtagodmmpkapgnaaDoorTie
import Derived.WalkKit
import Derived.ProofKit
import Derived.OpenShut
import Derived.ShutString
import Derived.ChangeOld
import Derived.Below
import Derived.SizedLaws
import Derived.Deep.DeepHandedRow
import Derived.Lib.LaidTab
namespace Go.Proofs.YtagodmmpkapgnaaDoor.M
open Go.RowKit Go.Maps Go.Proofs.YtagodmmpkapgnaaDoorW.PrintWords Go.Proofs.YtagodmmpkapgnaaDoorW.PrintLast Go.Proofs.YtagodmmpkapgnaaDoorW.PrintMore Go.Proofs.YtagodmmpkapgnaaDoor.Wr Go.Proofs.YtagodmmpkapgnaaDoor.Pl Go.Proofs.YtagodmmpkapgnaaDoor.P Go.Proofs.YtagodmmpkapgnaaDoor.A
set_option linter.unusedVariables false
set_option linter.unusedSimpArgs false
def to5_T : Bool × List (List Nat × List Nat) := (true, [([], []), ([0], [0]), ([1], [1]), ([2], [2]), ([3, 2], [2, 3]), ([2, 4], [2, 4]), ([5, 2], [5]), ([6], [6]), ([7, 6], [6, 7]), ([6, 8], [6, 8]), ([9, 6], [9]), ([10], [10]), ([10], [10]), ([11, 12, 10, 10], [10, 11, 12]), ([13, 10], [10, 13]), ([10, 14], [10, 14]), ([15, 13], [15]), ([16], [16]), ([16, 16], [16]), ([17, 18, 18, 16], [16, 17, 18]), ([19, 16], [16, 19]), ([16, 20], [16, 20])])
def to5_B : List Nat := [0, 1, 3, 7, 15, 31, 63, 127, 255, 511, 1023, 2047, 2047, 8191, 16383, 32767, 65535, 131071, 131071, 524287, 1048575, 2097151]
theorem to5_tab : rtab .any (opsOf Tryd.f14 5) = to5_T := by kernel_rfl
theorem to5_bits : waitsOk to5_T.2 to5_B = true := by kernel_rfl
def toD1 : DS := DS.fresh 24 (List.replicate 24 zeros)
def toD2 : DS := (toD1.rdN 1).put 2 (encJ (oneR 0))
theorem toD1_cur {j : Nat} (h : j < 24) : toD1.cur j = zeros := fresh_cur h
theorem toD1_rep : repJ toD1.cur 2 8 8 0 = [] := repJ_none (by rw [show (2 + 0 % 8 : Nat) = 2 from rfl, toD1_cur (by decide)]; exact decJ_zeros)
theorem toD2_cur2 : toD2.flush.cur 2 = encJ (oneR 0) := by rw [flush_cur _ (show 2 < 24 by decide)]; exact put_cur _ _ _
theorem toD2_cur {j : Nat} (h : j < 24) (h2 : j ≠ 2) : toD2.flush.cur j = zeros := by
  rw [flush_cur _ (show j < 24 from h)]
  unfold toD2
  rw [put_cur_ne _ _ h2, DS.rdN_cur]
  exact toD1_cur h
theorem toD2_bytes (j : Nat) (h : j < 24) : bytes_ (toD2.flush.cur j) := by
  by_cases h2 : j = 2
  · subst h2; rw [toD2_cur2]; exact bytes_encJ (one_ok 0) (show 1 ≤ 8 by decide)
  · rw [toD2_cur h h2]; exact zeros_bytes
theorem toD2_rep : repJ toD2.flush.cur 2 8 8 0 = [oneR 0] := by
  rw [repJ_some (r := oneR 0) (by rw [show (2 + 0 % 8 : Nat) = 2 from rfl, toD2_cur2]; exact decJ_enc (one_ok 0) (one_may 0 (by decide) (by decide))) rfl]
  rw [repJ_none (by rw [show (2 + (0 + 1) % 8 : Nat) = 3 from rfl, toD2_cur (by decide) (by decide)]; exact decJ_zeros)]
theorem told_open {w0 w : World} {L : List Th} {g : Nat} (h : Sep w0 w (dkT g toD1 :: L)) (hH : Wr.Half w0) : Calls Tryd.prog 30 #[.pointer (some ⟨g, 0, none⟩), .int .i64 2, .int .i64 8, .int .i64 0] w fun e w' => ∃ gj A c, e = .returned (.tuple #[.pointer (some ⟨gj, 0, none⟩), .slice A 0 c, .int .i64 0]) ∧ Sep w0 w' (cellsT gj (jC g 2 8 0 0) 134 :: dkT g (toD1.rdN 1) :: L) := by
  refine (h.opens hH (fun i hi => by rw [toD1_cur hi]; exact zeros_bytes) 2 8 0 (by decide) (by decide) (show 2 + 8 ≤ 24 by decide) (by decide)).mono ?_
  rintro e w' ⟨gj, A, c, l, k, hl, hk, he, hS⟩
  rw [toD1_rep] at hl
  subst hl
  subst hk
  exact ⟨gj, A, c, he, hS.up1.drop⟩
theorem told_add {w0 w : World} {L : List Th} {gj g : Nat} {A : Option Addr} {c : Nat} (h : Sep w0 w (ownT kRF 69 (.slice A 1 c) (oneR 0).r :: cellsT gj (jC g 2 8 0 0) 134 :: L)) : Calls Tryd.prog 32 #[.pointer (some ⟨gj, 0, none⟩), .agg (nums .u8 (oneR 0).p).toArray, .slice A 1 c] w fun e w' => ∃ gw, e = .returned (.tuple #[.pointer (some ⟨gw, 0, none⟩), .int .i64 0]) ∧ Sep w0 w' (wT gw (newW gj (oneR 0).p (oneR 0).r) :: cellsT gj (jC g 2 8 0 0) 134 :: L) := by
  refine (h.up1.add (by decide) (by decide) (by decide) (by decide) (oneR 0).p rfl (oneR 0).r 1 rfl A c h.own_C.1).mono ?_
  rintro e w' ⟨h1, _⟩
  obtain ⟨gw, he, hS⟩ := h1 ⟨(refsM_iff _).2 ⟨Nat.le_refl _, (show 1 ≤ 8 by decide), (one_may 0 (by decide) (by decide)).r⟩, rfl⟩
  exact ⟨gw, he, hS.up2.drop⟩
theorem told_step1 {w0 w : World} {L : List Th} {gj gw g : Nat} (h : Sep w0 w (wT gw (newW gj (oneR 0).p (oneR 0).r) :: cellsT gj (jC g 2 8 0 0) 134 :: dkT g (toD1.rdN 1) :: L)) (hH : Wr.Half w0) : Calls Tryd.prog 33 #[.pointer (some ⟨gw, 0, none⟩)] w fun e w' => e = .returned (.tuple #[.bool false, .int .i64 0]) ∧ Sep w0 w' (wT gw { newW gj (oneR 0).p (oneR 0).r with nm := 0, wt := true } :: cellsT gj (jC g 2 8 0 1) 134 :: dkT g toD2 :: L) :=
  Sep.step_yes (x := newW gj (oneR 0).p (oneR 0).r) (fr := 2) (n := 8) (st := 0) (nx := 0) h hH rfl rfl (one_ok 0) ((refsM_iff _).2 ⟨Nat.le_refl _, (show 1 ≤ 8 by decide), (one_may 0 (by decide) (by decide)).r⟩) (by decide) (by decide) rfl (by decide) (show 2 + 8 ≤ 24 by decide) (by decide)
theorem told_replay {w0 w : World} {L : List Th} {g : Nat} (h : Sep w0 w (dkT g toD2.flush :: L)) (hH : Wr.Half w0) : Calls Tryd.prog 37 #[.pointer (some ⟨g, 0, none⟩), .int .i64 2, .int .i64 8, .int .i64 0] w fun e w' => ∃ A c, e = .returned (.tuple #[.slice A 1 c, .int .i64 0]) ∧ Sep w0 w' (ownT kRC 26 (.slice A 1 c) [oneR 0] :: L) := by
  refine (h.replay hH toD2_bytes 2 8 0 (by decide) (by decide) (show 2 + 8 ≤ 24 by decide) (by decide)).mono ?_
  rintro e w' ⟨A, c, l, k, hl, hk, he, hS⟩
  rw [toD2_rep] at hl
  subst hl
  subst hk
  exact ⟨A, c, he, hS.up1.drop⟩
set_option maxHeartbeats 16000000 in
set_option maxRecDepth 100000 in
theorem told_calls (w : World) (hH : Wr.Half w) : Calls Tryd.prog 14 #[] w fun e w' => e = .returned (.bool true) ∧ Below w.heap.size w w' := by
  have HH := Aside0.mk hH
  have HS0 := Aside0.mk (Sep.refl w)
  have HONE := Aside0.mk (fun (n : Int) (W : World) => one_calls n W)
  have HOK := Aside0.mk (one_ok 3)
  have HMAY := Aside0.mk (one_may 3 (by decide) (by decide))
  have HBB := Aside0.mk (And.intro (bytes_encJ HOK.out HMAY.out.r8) (encJ_len HOK.out HMAY.out.r8))
  have HE17 := Aside0.mk (fun (W : World) (A : Option Addr) (c : Nat) (M : List Th) (h : Sep w W (ownT kRF 69 (.slice A 1 c) (oneR 3).r :: M)) => encode17_yes (oneR 3) HOK.out HMAY.out A c W h.own_C.1)
  have HE := Aside0.mk (fun (W : World) (A : Option Addr) (c : Nat) (M : List Th) (h : Sep w W (ownT kRF 69 (.slice A 1 c) (oneR 3).r :: M)) => encode_yes (oneR 3) HOK.out HMAY.out A c W (hH.below h.below) h.own_C.1)
  have HDE := Aside0.mk (decJ_enc HOK.out HMAY.out)
  generalize encJ (oneR 3) = b at HBB HE17 HE HDE
  have hz := (zero_of_info (P := Tryd.prog) (t := 26) (v := .agg zRC) (n := 34) (by unfold zRC; kernel_rfl)).1
  have HSZ := Aside0.mk (show (Tryd.prog.info? 26).map (·.size) = some zRC.size from size26 zRC_size)
  have HZs := Aside0.mk zRC_size
  have HZA := Aside0.mk zRC_all
  generalize hZE : zRC = Z at hz HSZ HZs HZA
  have HZE := Aside0.mk hZE
  clear hZE
  have HZC := Aside0.mk (fun (W : World) (A : Option Addr) (c : Nat) (M : List Th) (h : Sep w W (ownT (Kd.int .u8) 5 (.slice A 512 c) zeros :: M)) => (show Calls Tryd.prog 24 #[.slice A 512 c] W (fun e w' => e = .returned (.tuple #[.agg Z, .int .i64 61]) ∧ Below W.heap.size W w') from by
    have h2 := h.own_C
    rw [zeros_len] at h2
    rw [← HZE.out]
    exact decode_none zeros zeros_bytes A 512 c zeros_len h2.2 W (hH.below h.below) h2.1 decJ_zeros))
  clear hH
  go_enter Tryd.func14, Tryd.ntmps14
  go_upto_region 2 with (first
    | (go_at_call 36; (with_reducible refine (HONE.out 3 _).mono ?_); rintro e w1 ⟨A1, c1, rfl, h1⟩; have HS1 := Aside0.mk h1; clear h1)
    | (go_at_call 18; (with_reducible refine (HE17.out _ _ _ _ HS1.out).mono ?_); rintro e w2 ⟨A2, c2, rfl, h2⟩; have HS2 := Aside0.mk ((HS1.out.then_ h2).up1.drop); clear h2))
  go_upto_region 3 with (first
    | (go_at_call 36; (with_reducible refine (HONE.out 3 _).mono ?_); rintro e w3 ⟨A3, c3, rfl, h3⟩; have HS3 := Aside0.mk (HS2.out.then_ h3); clear h3)
    | (go_at_call 17; (with_reducible refine (HE.out _ _ _ _ HS3.out).mono ?_); rintro e w4 ⟨A4, c4, rfl, h4⟩; have HS4 := Aside0.mk ((HS3.out.then_ h4).up1.drop); clear h4))
  clear HS1 HS2 HS3 HS0 HE HE17
  have HC4 := Aside0.mk (show (Kd.int .u8).C w4 A4 512 b ∧ 512 ≤ c4 from by have h := HS4.out.own_C; rwa [HBB.out.2] at h)
  have HC2 := Aside0.mk (show (Kd.int .u8).C w4 A2 512 b ∧ 512 ≤ c2 from by have h := HS4.out.up1.own_C; rwa [HBB.out.2] at h)
  have HDC := Aside0.mk (decode_some b HBB.out.1 A2 512 c2 HBB.out.2 HC2.out.2 w4 (HH.out.below HS4.out.below) HC2.out.1 (oneR 3) HDE.out)
  have HSV := Aside0.mk (fun A c => RC.size HOK.out A c)
  have HAV := Aside0.mk (fun A c => RC.V_all (oneR 3) A c)
  have HVS := Aside0.mk (fun A c => (show ((oneR 3).V A c).toArray.size = 34 from by simpa using RC.V_len HOK.out A c))
  have HSM := Aside0.mk (fun (W : World) (t u : Th) (h : Sep w W (t :: u :: ownT (Kd.int .u8) 5 (.slice A4 512 c4) b :: ownT (Kd.int .u8) 5 (.slice A2 512 c2) b :: [])) => (show Calls Tryd.prog 19 #[.slice A4 512 c4, .slice A2 512 c2] W (fun e w' => e = .returned (.bool true) ∧ Below W.heap.size W w') from by
    have h4 := h.up2.own_C; have h2 := h.up3.own_C
    rw [HBB.out.2] at h4 h2
    have h5 := same19 h4.1 h2.1 HBB.out.2 HBB.out.2 h4.2 h2.2 (by decide)
    rwa [decide_eq_true (rfl : b = b)] at h5))
  go_upto_region 4 with (first
    | (go_at_call 24; (with_reducible refine HDC.out.mono ?_); rintro e w5 ⟨A5, c5, rfl, h5⟩; have HS5 := Aside0.mk (HS4.out.then_ h5); clear h5; generalize hV : ((oneR 3).V A5 c5).toArray = V3; have HV := Aside0.mk hV; have HSV3 := Aside0.mk (HSV.out A5 c5); have HAV3 := Aside0.mk (HAV.out A5 c5); have HVS3 := Aside0.mk (HVS.out A5 c5); rw [hV] at HSV3 HAV3 HVS3; clear hV)
    | ((with_reducible refine gate_store (ty := 26) rfl ?_); refine Sep.store_own rfl 26 _ _ rfl rfl rfl (HS5.out.push_alloc Z 26) HSV3.out (HZs.out.trans HVS3.out.symm) HAV3.out ?_; intro w6 h6; have HS6 := Aside0.mk h6; clear h6))
  generalize w5.heap.size = g5 at HS6 ⊢
  clear HS5 HS4 HC4 HC2 HDC HDE
  go_upto_region 5 with (first
    | (at_make; refine Kd.R_make (Kd.int .u8) (w0 := w6) w6.heap.size 5 rfl (N := 33) rfl 29 (.const (.int .i64 512)) (.const (.int .i64 512)) rfl (512 : Int) rfl rfl Tryd.underlying29 (.int .u8 0) 1 info_u8 rfl (by decide) (by decide) 0 (ok := fun _ => True) (okp := fun _ => True) rfl (fun _ h => h) trivial (by decide) (by decide) (Below.refl _ _) (Nat.le_refl _) ?_; intro v7 w7 hr hb hg hat; have hS7 := HS6.out.push_own (xs := zeros) hr hb; have HS7 := Aside0.mk hS7; clear hr hb hg hat hS7; obtain ⟨A7, c7, rfl⟩ := HS7.out.own_slice; rw [zeros_len] at HS7 ⊢)
    | (go_at_call 24; (with_reducible refine (HZC.out _ _ _ _ HS7.out).mono ?_); rintro e w8 ⟨rfl, hb⟩; have HS8 := Aside0.mk (HS7.out.drop.step hb); clear hb)
    | ((with_reducible refine gate_store (ty := 26) rfl ?_); refine Sep.store_own rfl 26 _ _ rfl rfl rfl (HS8.out.push_alloc Z 26) HSZ.out rfl HZA.out ?_; intro w9 h9; have HS9 := Aside0.mk h9.drop; clear h9))
  clear HS6 HS7 HS8 hz HZC
  have HHS := Aside0.mk (fun (W : World) (M : List Th) (h : Sep w W (cellsT g5 V3 26 :: M)) => (show ∀ j v, V3.toList[j]? = some v → W.cell? ((⟨g5, 0, none⟩ : Addr).add j) = some v from fun j v hv => seg_at (cs := V3.toList) h.cells.1 0 V3.toList (by rw [List.drop_zero]; exact List.take_of_length_le (Nat.le_refl _)) j v hv))
  have HSR := Aside0.mk (fun (W : World) (A8 : Option Addr) (c8 : Nat) (M : List Th) (h : Sep w W (ownT kRF 69 (.slice A8 1 c8) (oneR 3).r :: cellsT g5 V3 26 :: ownT kRF 69 (.slice A5 1 c5) (oneR 3).r :: M)) => (show Calls Tryd.prog 27 #[.agg V3, .agg ((oneR 3).V A8 c8).toArray] W (fun e w' => e = .returned (.bool true) ∧ Below W.heap.size W w') from by
    have h2 := sameRecord (oneR 3) HOK.out 1 rfl A5 A8 c5 c8 W h.up2.own_C.1 h.own_C.1
    rw [HV.out] at h2
    exact h2))
  have HSx := Aside0.mk (HS9.out.step (below_drew1 (Below.refl w9.heap.size w9)))
  clear HS9
  refine start_ (n := 22) (S := fun W => ∀ j v, V3.toList[j]? = some v → W.cell? ((⟨g5, 0, none⟩ : Addr).add j) = some v) (ds := []) (bb 22 0) (by kernel_rfl) rfl rfl (HHS.out _ _ HSx.out) (fun hHeld => ?_); refine with_tabW to5_tab to5_bits (fun HT_ HW_ => ?_)
  generalize w9.drew = wd at hHeld HSx ⊢
  refine pure_ (i := 0) (N := (some 37)) (v := ?_) (a' := ?_) (bb 22 1) rfl rfl (any_of HT_.out (by kernel_rfl)) (fun _ _ _ h => h) (Or.inl ⟨by rfl, ?_⟩) ?_ ?_
  rotate_left
  · intro w'
    go_simp
    with_reducible rfl
  rotate_left
  · simp only [Act.put, List.setIfInBounds_toArray, List.set_cons_zero, List.set_cons_succ, i64_w, i32_w]
    rfl
  refine pure_ (i := 1) (N := (some 38)) (v := ?_) (a' := ?_) (bb 22 3) rfl rfl (any_of HT_.out (by kernel_rfl)) (fun _ _ _ h => h) (Or.inl ⟨by rfl, ?_⟩) ?_ ?_
  rotate_left
  · intro w'
    go_simp
    with_reducible rfl
  rotate_left
  · simp only [Act.put, List.setIfInBounds_toArray, List.set_cons_zero, List.set_cons_succ, i64_w, i32_w]
    rfl
  refine pure_ (i := 2) (N := (some 39)) (v := ?_) (a' := ?_) (bb 22 7) rfl rfl (any_of HT_.out (by kernel_rfl)) (fun _ _ _ h => h) (Or.inl ⟨by rfl, ?_⟩) ?_ ?_
  rotate_left
  · intro w'
    go_simp
    with_reducible rfl
  rotate_left
  · simp only [Act.put, List.setIfInBounds_toArray, List.set_cons_zero, List.set_cons_succ, i64_w, i32_w]
    rfl
  refine pure_ (i := 3) (N := (some 40)) (v := ?_) (a' := ?_) (bb 22 15) rfl rfl (any_of HT_.out (by kernel_rfl)) (fun _ _ _ h => h) (Or.inl ⟨by rfl, ?_⟩) ?_ ?_
  rotate_left
  · intro w'
    go_simp
    with_reducible rfl
  rotate_left
  · simp only [Act.put, List.setIfInBounds_toArray, List.set_cons_zero, List.set_cons_succ, i64_w, i32_w]
    rfl
  refine pure_ (i := 4) (N := (some 41)) (v := ?_) (a' := ?_) (bb 22 31) rfl rfl (any_of HT_.out (by kernel_rfl)) (fun _ _ _ h => h) (Or.inl ⟨by rfl, ?_⟩) ?_ ?_
  rotate_left
  · intro w'
    go_simp
    with_reducible rfl
  rotate_left
  · simp only [Act.put, List.setIfInBounds_toArray, List.set_cons_zero, List.set_cons_succ, i64_w, i32_w]
    rfl
  refine pure_ (i := 5) (N := (some 42)) (v := ?_) (a' := ?_) (bb 22 63) rfl rfl (any_of HT_.out (by kernel_rfl)) (fun _ _ _ h => h) (Or.inl ⟨by rfl, ?_⟩) ?_ ?_
  rotate_left
  · intro w'
    go_simp
    with_reducible rfl
  rotate_left
  · simp only [Act.put, List.setIfInBounds_toArray, List.set_cons_zero, List.set_cons_succ, i64_w, i32_w]
    rfl
  refine pure_ (i := 6) (N := (some 43)) (v := ?_) (a' := ?_) (bb 22 127) rfl rfl (any_of HT_.out (by kernel_rfl)) (fun _ _ _ h => h) (Or.inl ⟨by rfl, ?_⟩) ?_ ?_
  rotate_left
  · intro w'
    go_simp
    with_reducible rfl
  rotate_left
  · simp only [Act.put, List.setIfInBounds_toArray, List.set_cons_zero, List.set_cons_succ, i64_w, i32_w]
    rfl
  refine pure_ (i := 7) (N := (some 44)) (v := ?_) (a' := ?_) (bb 22 255) rfl rfl (any_of HT_.out (by kernel_rfl)) (fun _ _ _ h => h) (Or.inl ⟨by rfl, ?_⟩) ?_ ?_
  rotate_left
  · intro w'
    go_simp
    with_reducible rfl
  rotate_left
  · simp only [Act.put, List.setIfInBounds_toArray, List.set_cons_zero, List.set_cons_succ, i64_w, i32_w]
    rfl
  refine pure_ (i := 8) (N := (some 45)) (v := ?_) (a' := ?_) (bb 22 511) rfl rfl (any_of HT_.out (by kernel_rfl)) (fun _ _ _ h => h) (Or.inl ⟨by rfl, ?_⟩) ?_ ?_
  rotate_left
  · intro w'
    go_simp
    with_reducible rfl
  rotate_left
  · simp only [Act.put, List.setIfInBounds_toArray, List.set_cons_zero, List.set_cons_succ, i64_w, i32_w]
    rfl
  refine pure_ (i := 9) (N := (some 46)) (v := ?_) (a' := ?_) (bb 22 1023) rfl rfl (any_of HT_.out (by kernel_rfl)) (fun _ _ _ h => h) (Or.inl ⟨by rfl, ?_⟩) ?_ ?_
  rotate_left
  · intro w'
    go_simp
    with_reducible rfl
  rotate_left
  · simp only [Act.put, List.setIfInBounds_toArray, List.set_cons_zero, List.set_cons_succ, i64_w, i32_w]
    rfl
  refine pure_ (i := 10) (N := (some 47)) (v := ?_) (a' := ?_) (bb 22 2047) rfl rfl (any_of HT_.out (by kernel_rfl)) (fun _ _ _ h => h) (Or.inl ⟨by rfl, ?_⟩) ?_ ?_
  rotate_left
  · intro w'
    go_simp
    with_reducible rfl
  rotate_left
  · simp only [Act.put, List.setIfInBounds_toArray, List.set_cons_zero, List.set_cons_succ, i64_w, i32_w]
    rfl
  refine pure_ (i := 11) (N := (some 48)) (v := ?_) (a' := ?_) (bb 22 4095) rfl rfl (any_of HT_.out (by kernel_rfl)) (fun _ _ _ h => h) (Or.inl ⟨by rfl, ?_⟩) ?_ ?_
  rotate_left
  · intro w'
    go_simp
    with_reducible rfl
  rotate_left
  · simp only [Act.put, List.setIfInBounds_toArray, List.set_cons_zero, List.set_cons_succ, i64_w, i32_w]
    rfl
  refine pure_ (i := 12) (N := (some 49)) (v := ?_) (a' := ?_) (bb 22 8191) rfl rfl (any_of HT_.out (by kernel_rfl)) (fun _ _ _ h => h) (Or.inl ⟨by rfl, ?_⟩) ?_ ?_
  rotate_left
  · intro w'
    go_simp
    with_reducible rfl
  rotate_left
  · simp only [Act.put, List.setIfInBounds_toArray, List.set_cons_zero, List.set_cons_succ, i64_w, i32_w]
    rfl
  refine one_ (i := 13) (N := (some 50)) (bb 22 16383) rfl rfl (one_of HT_.out (by kernel_rfl)) (by decide) (fun K hK => ?_)
  refine goes_ Tryd.func19 (by kernel_rfl) rfl #[.slice A4 512 c4, .slice A2 512 c2] (by rfl) rfl rfl (by (try simp only [List.map_toArray, List.map_cons, List.map_nil]); first | done | rfl) ?_
  with_reducible refine (HSM.out _ _ _ HSx.out).mono ?_
  rintro e wa ⟨rfl, hb⟩
  have HSa := Aside0.mk (HSx.out.step hb)
  clear hb
  refine ⟨_, rfl, ?_⟩
  refine hK.out _ _ (HHS.out _ _ HSa.out) (fun hHeld => ?_)
  clear hK K
  refine norm_ (a' := ?_) ?_ ?_
  rotate_left
  · show Act.put _ (some 50) _ = _
    simp only [Act.put, List.setIfInBounds_toArray, List.set_cons_zero, List.set_cons_succ, i64_w, i32_w]
    rfl
  refine pure_ (i := 14) (N := (some 51)) (v := ?_) (a' := ?_) (bb 22 32767) rfl rfl (any_of HT_.out (by kernel_rfl)) (fun _ _ _ h => h) (Or.inl ⟨by rfl, ?_⟩) ?_ ?_
  rotate_left
  · intro w'
    go_simp
    with_reducible rfl
  rotate_left
  · simp only [Act.put, List.setIfInBounds_toArray, List.set_cons_zero, List.set_cons_succ, i64_w, i32_w]
    rfl
  refine pure_ (i := 15) (N := (some 52)) (v := ?_) (a' := ?_) (bb 22 65535) rfl rfl (any_of HT_.out (by kernel_rfl)) (fun _ _ _ h => h) (Or.inl ⟨by rfl, ?_⟩) ?_ ?_
  rotate_left
  · intro w'
    go_simp
    with_reducible rfl
  rotate_left
  · simp only [Act.put, List.setIfInBounds_toArray, List.set_cons_zero, List.set_cons_succ, i64_w, i32_w]
    rfl
  refine pure_ (i := 16) (N := (some 53)) (v := ?_) (a' := ?_) (bb 22 131071) rfl rfl (any_of HT_.out (by kernel_rfl)) (fun _ _ _ h => h) (Or.inl ⟨by rfl, ?_⟩) ?_ ?_
  rotate_left
  · intro w'
    go_simp
    with_reducible rfl
  rotate_left
  · simp only [Act.put, List.setIfInBounds_toArray, List.set_cons_zero, List.set_cons_succ, i64_w, i32_w]
    rfl
  refine take_ (i := 17) (N := (some 54)) (v := .agg V3) (a' := ?_) (bb 22 262143) rfl rfl (take_ofW HT_.out HW_.out (by kernel_rfl)) (fun _ _ _ h => h) (Or.inl ⟨by rfl, fun w' s0 => yields_ld 26 _ rfl ⟨g5, 0, none⟩ rfl V3 _ s0 Tryd.underlying26 rfl HSV3.out⟩) hHeld ?_ ?_
  rotate_left
  · simp only [Act.put, List.setIfInBounds_toArray, List.set_cons_zero, List.set_cons_succ, i64_w, i32_w]
    rfl
  refine one_ (i := 18) (N := (some 55)) (bb 22 524287) rfl rfl (one_of HT_.out (by kernel_rfl)) (by decide) (fun K hK => ?_)
  refine goes_ Tryd.func36 (by kernel_rfl) rfl #[.int .i64 3] (by rfl) rfl rfl (by (try simp only [List.map_toArray, List.map_cons, List.map_nil]); first | done | rfl) ?_
  with_reducible refine (HONE.out 3 _).mono ?_
  rintro e wb ⟨Ab, cb, rfl, hb⟩
  have HSb := Aside0.mk (HSa.out.then_ hb)
  clear hb
  refine ⟨_, rfl, ?_⟩
  refine hK.out _ _ (HHS.out _ _ HSb.out.up1) (fun hHeld => ?_)
  clear hK K
  refine norm_ (a' := ?_) ?_ ?_
  rotate_left
  · show Act.put _ (some 55) _ = _
    simp only [Act.put, List.setIfInBounds_toArray, List.set_cons_zero, List.set_cons_succ, i64_w, i32_w]
    rfl
  refine one_ (i := 19) (N := (some 56)) (bb 22 1048575) rfl rfl (one_of HT_.out (by kernel_rfl)) (by decide) (fun K hK => ?_)
  refine goes_ Tryd.func27 (by kernel_rfl) rfl #[.agg V3, .agg ((oneR 3).V Ab cb).toArray] (by rfl) rfl rfl (by (try simp only [List.map_toArray, List.map_cons, List.map_nil]); first | done | rfl) ?_
  with_reducible refine (HSR.out _ _ _ _ HSb.out).mono ?_
  rintro e wc ⟨rfl, hb⟩
  have HSc := Aside0.mk (HSb.out.step hb)
  clear hb
  refine ⟨_, rfl, ?_⟩
  refine hK.out _ _ (HHS.out _ _ HSc.out.up1) (fun hHeld => ?_)
  clear hK K
  refine norm_ (a' := ?_) ?_ ?_
  rotate_left
  · show Act.put _ (some 56) _ = _
    simp only [Act.put, List.setIfInBounds_toArray, List.set_cons_zero, List.set_cons_succ, i64_w, i32_w]
    rfl
  refine pure_ (i := 20) (N := (some 57)) (v := ?_) (a' := ?_) (bb 22 2097151) rfl rfl (any_of HT_.out (by kernel_rfl)) (fun _ _ _ h => h) (Or.inl ⟨by rfl, ?_⟩) ?_ ?_
  rotate_left
  · intro w'
    go_simp
    with_reducible rfl
  rotate_left
  · simp only [Act.put, List.setIfInBounds_toArray, List.set_cons_zero, List.set_cons_succ, i64_w, i32_w]
    rfl
  refine pure_ (i := 21) (N := (some 58)) (v := ?_) (a' := ?_) (bb 22 4194303) rfl rfl (any_of HT_.out (by kernel_rfl)) (fun _ _ _ h => h) (Or.inl ⟨by rfl, ?_⟩) ?_ ?_
  rotate_left
  · intro w'
    go_simp
    with_reducible rfl
  rotate_left
  · simp only [Act.put, List.setIfInBounds_toArray, List.set_cons_zero, List.set_cons_succ, i64_w, i32_w]
    rfl
  refine done_ (done_of HT_.out (by kernel_rfl)) ?_
  clear hHeld HT_ HW_ HSx HSa HSb HSM HSR HHS HSV3 HAV3 HVS3 HV HSV HAV HVS HBB HOK HMAY
  have HSn := Aside0.mk (Sep.start HSc.out.below)
  clear HSc
  have HNW := Aside0.mk (fun (W : World) (h : Sep w W []) => (show Calls Tryd.prog 29 #[.int .i64 24] W (fun e w' => ∃ g, e = .returned (.tuple #[.pointer (some ⟨g, 0, none⟩), .int .i64 0]) ∧ Sep w w' [dkT g toD1]) from h.new 24 (by decide) (by decide)))
  have HOK := Aside0.mk (one_ok 0)
  have HFP := Aside0.mk (fun A c W => field26_1 (oneR 0) rfl A c W)
  have HFR := Aside0.mk (fun (A : Option Addr) (c : Nat) (W : World) => (show (Instr.field 26 (.agg ((oneR 0).V A c).toArray) 2).run Tryd.prog W = .ok (.slice A 1 c) W from field26_2 (oneR 0) rfl A c W))
  go_upto_region 13 with (first
    | (go_at_call 29; (with_reducible refine (HNW.out _ HSn.out).mono ?_); rintro e w10 ⟨g, rfl, h1⟩; have HSd := Aside0.mk h1; clear h1)
    | (go_at_call 30; (with_reducible refine (told_open HSd.out HH.out).mono ?_); rintro e w11 ⟨gj, A11, c11, rfl, h1⟩; have HSe := Aside0.mk h1; clear h1))
  clear HSn HSd HNW
  go_upto_region 14 with (first
    | (go_at_call 36; (with_reducible refine (HONE.out 0 _).mono ?_); rintro e w13 ⟨An, cn, rfl, h1⟩; have HSg := Aside0.mk ((HSf.out.then_ h1).up1.drop); clear h1)
    | (go_at_call 32; (with_reducible refine (told_add HSg.out).mono ?_); rintro e w14 ⟨gw, rfl, h1⟩; have HSh := Aside0.mk h1; clear h1)
    | (go_at_call 36; (with_reducible refine (HONE.out 0 _).mono ?_); rintro e w12 ⟨Am, cm, rfl, h1⟩; have HSf := Aside0.mk (HSe.out.then_ h1); clear h1)
    | ((with_reducible refine gate_field (ty := 26) (f := 1) rfl ?_); refine wpList_fieldw rfl 26 _ 1 rfl _ _ rfl (HFP.out _ _ _) ?_)
    | ((with_reducible refine gate_field (ty := 26) (f := 2) rfl ?_); refine wpList_fieldw rfl 26 _ 2 rfl _ _ rfl (HFR.out _ _ _) ?_))
  clear HSe HSf HSg HFP HFR
  go_upto_region 18 with (first
    | (go_at_call 33; (with_reducible refine (told_step1 HSh.out HH.out).mono ?_); rintro e w15 ⟨rfl, h1⟩; have HSi := Aside0.mk h1; clear h1 HSh)
    | (go_at_call 33; (with_reducible refine (HSi.out.step_flush rfl rfl).mono ?_); rintro e w16 ⟨rfl, h1⟩; have HSj := Aside0.mk h1; clear h1 HSi))
  have HSk := Aside0.mk (show Sep w w16 (dkT g toD2.flush :: cellsT gj (jC g 2 8 0 1) 134 :: []) from HSj.out.drop.up1)
  clear HSj
  go_upto_region 19 with (go_at_call 37; (with_reducible refine (told_replay HSk.out HH.out).mono ?_); rintro e w17 ⟨Ar, cr, rfl, h1⟩; have HSl := Aside0.mk h1; clear h1)
  clear HSk
  have HSA := Aside0.mk (fun (W : World) (A1 A2 : Option Addr) (c1 c2 : Nat) (M : List Th) (h : Sep w W (ownT kRC 26 (.slice A2 1 c2) [oneR 0] :: ownT kRC 26 (.slice A1 1 c1) [oneR 0] :: M)) => sameAll [oneR 0] 1 rfl A1 A2 c1 c2 W h.up1.own_C.1 h.own_C.1)
  have HVS := Aside0.mk (fun A c => (show ((oneR 0).V A c).toArray.size = 34 from by simpa using RC.V_len HOK.out A c))
  go_wp2_with (first
    | (go_at_call 34; (with_reducible refine (next_calls HSl.out.up1.cells.1).mono ?_); rintro e w18 ⟨rfl, hb⟩; have HSm := Aside0.mk (HSl.out.step hb); clear hb)
    | (go_at_call 36; (with_reducible refine (HONE.out 0 _).mono ?_); rintro e w19 ⟨Ao, co, rfl, h1⟩; have HSo := Aside0.mk (HSm.out.then_ h1); clear h1)
    | ((with_reducible refine gate_bs (ty := 53) rfl ?_); refine gate_guard (by rfl) ?_; dsimp only; refine wpList_bs26 rfl _ rfl _ rfl (HVS.out Ao co) ?_; have HSp := Aside0.mk (HSo.out.push_rec (oneR 0) HOK.out))
    | (go_at_call 39; (with_reducible refine (HSA.out _ _ _ _ _ _ HSp.out).mono ?_); rintro e w20 ⟨rfl, hb⟩; have HSq := Aside0.mk (HSp.out.step hb); clear hb))
  go_ret
  exact ⟨rfl, HSq.out.below⟩
end Go.Proofs.YtagodmmpkapgnaaDoor.M

namespace Go.Proofs.YtagodmmpkapgnaaDoor.M
open Go.RowKit Go.Maps Go.Proofs.YtagodmmpkapgnaaDoorW.PrintWords Go.Proofs.YtagodmmpkapgnaaDoorW.PrintLast Go.Proofs.YtagodmmpkapgnaaDoorW.PrintMore Go.Proofs.YtagodmmpkapgnaaDoor.Wr Go.Proofs.YtagodmmpkapgnaaDoor.Pl Go.Proofs.YtagodmmpkapgnaaDoor.P Go.Proofs.YtagodmmpkapgnaaDoor.A
set_option linter.unusedVariables false
set_option linter.unusedSimpArgs false
theorem cells_agg {w0 w : World} {L : List Th} {g e : Nat} {V : Array Value} (h : Sep w0 w (cellsT g V e :: L)) : ∀ j v, V.toList[j]? = some v → w.cell? ((⟨g, 0, none⟩ : Addr).add j) = some v := fun j v hv => seg_at (cs := V.toList) h.cells.1 0 V.toList (by rw [List.drop_zero]; exact List.take_of_length_le (Nat.le_refl _)) j v hv
end Go.Proofs.YtagodmmpkapgnaaDoor.M

namespace Go.Proofs.YtagodmmpkapgnaaDoor.M
open Go.RowKit Go.Maps Go.Proofs.YtagodmmpkapgnaaDoorW.PrintWords Go.Proofs.YtagodmmpkapgnaaDoorW.PrintLast Go.Proofs.YtagodmmpkapgnaaDoorW.PrintMore Go.Proofs.YtagodmmpkapgnaaDoor.Wr Go.Proofs.YtagodmmpkapgnaaDoor.Pl Go.Proofs.YtagodmmpkapgnaaDoor.P Go.Proofs.YtagodmmpkapgnaaDoor.A Go.Proofs.YtagodmmpkapgnaaDoor.Crc
set_option linter.unusedVariables false
set_option linter.unusedSimpArgs false
theorem flip_ne {b : List Int} (hb : bytes_ b) {p : Nat} (hp : p < 8 * b.length) : flip1 b (p : Int) ≠ b := fun h => by
  have h1 := sumB_flip hb 0 hp
  rw [h] at h1
  have h2 : sumB 0 b ^^^ sumB 0 b = sumB 0 b ^^^ (sumB 0 b ^^^ Sn (8 * b.length - p) 1) := congrArg _ h1
  rw [← Nat.xor_assoc, Nat.xor_self, Nat.zero_xor] at h2
  exact Sn_one_ne _ h2.symm
theorem flip_left {x y : List Int} {p : Nat} (hp : p < 8 * x.length) : flip1 (x ++ y) (p : Int) = flip1 x (p : Int) ++ y := by
  unfold flip1
  rw [if_pos (by rw [List.length_append]; omega), if_pos (by omega), Int.toNat_natCast, List.set_append_left _ _ (by omega), List.getD_eq_getElem?_getD, List.getElem?_append_left (by omega), ← List.getD_eq_getElem?_getD]
theorem flip_right {x y : List Int} {p : Nat} (hp : 8 * x.length ≤ p) : (flip1 (x ++ y) (p : Int)).take x.length = x := by
  unfold flip1
  split
  · rw [Int.toNat_natCast, List.take_set_of_le (by omega), List.take_left]
  · exact List.take_left
theorem flipJ_none {s : RC} (hs : s.Ok) (h8 : s.r.length ≤ 8) {p : Nat} (hp : p < 4096) : decJ (flip1 (encJ s) (p : Int)) = none := by
  have hy := bytes_flip (bytes_encJ hs h8) (p : Int)
  cases h : decJ (flip1 (encJ s) (p : Int)) with
  | none => rfl
  | some t =>
    exfalso
    obtain ⟨ht, hm, he⟩ := decJ_some hy h
    have ht8 := hm.r8
    have hl := encJ_len hs h8
    by_cases hc : p < 8 * 508
    · have h1 : flip1 (encJ s) (p : Int) = flip1 (padJ s) (p : Int) ++ fixL (crc (padJ s)) 4 := flip_left (by rw [padJ_len hs h8]; exact hc)
      rw [h1] at he
      have hlen : (padJ t).length = (flip1 (padJ s) (p : Int)).length := by rw [padJ_len ht ht8, flip1_len, padJ_len hs h8]
      obtain ⟨e1, e2⟩ := List.append_inj (show padJ t ++ fixL (crc (padJ t)) 4 = flip1 (padJ s) (p : Int) ++ fixL (crc (padJ s)) 4 from he) hlen
      have e3 := congrArg leV e2
      rw [leV_fix, leV_fix, Nat.mod_eq_of_lt (show crc (padJ t) < 256 ^ 4 from crc_lt _), Nat.mod_eq_of_lt (show crc (padJ s) < 256 ^ 4 from crc_lt _), e1] at e3
      unfold crc at e3
      rw [sumB_flip (bytes_padJ hs h8) _ (by rw [padJ_len hs h8]; exact hc)] at e3
      have e4 := congrArg (· ^^^ 4294967295) e3
      simp only [Nat.xor_assoc, Nat.xor_self, Nat.xor_zero] at e4
      have e5 : sumB 4294967295 (padJ s) ^^^ (sumB 4294967295 (padJ s) ^^^ Sn (8 * (padJ s).length - p) 1) = sumB 4294967295 (padJ s) ^^^ sumB 4294967295 (padJ s) := congrArg _ e4
      rw [← Nat.xor_assoc, Nat.xor_self, Nat.zero_xor] at e5
      exact Sn_one_ne _ e5
    · have h1 := flip_right (x := padJ s) (y := fixL (crc (padJ s)) 4) (p := p) (by rw [padJ_len hs h8]; omega)
      have h2 : (encJ t).take (padJ s).length = padJ s := by rw [he]; exact h1
      rw [padJ_len hs h8, ← padJ_len ht ht8] at h2
      have h3 : padJ t = padJ s := by rw [← h2]; exact List.take_left.symm
      have h4 : encJ t = encJ s := by unfold encJ; rw [h3]
      exact flip_ne (bytes_encJ hs h8) (p := p) (by rw [hl]; omega) (he.symm.trans h4)
theorem emod_of_tmod (a n : Int) (hn : 0 < n) : a % n = if a.tmod n < 0 then a.tmod n + n else a.tmod n := by
  have h1 : n * a.tdiv n + a.tmod n = a := Int.mul_tdiv_add_tmod a n
  have h2 : a % n = a.tmod n % n := by
    conv => lhs; rw [← h1]
    rw [Int.add_comm, Int.add_mul_emod_self_left]
  have h3 := Int.lt_tmod_of_pos a hn
  have h4 := Int.tmod_lt_of_pos a hn
  rw [h2]
  split
  · rename_i h
    rw [← Int.add_emod_right, Int.emod_eq_of_lt (by omega) (by omega)]
  · rename_i h
    exact Int.emod_eq_of_lt (by omega) h4
theorem place28 (a n : Int) (hn : 0 < n) (hn2 : n ≤ 4611686018427387904) (w : World) : Calls Tryd.prog 28 #[.int .i64 a, .int .i64 n] w fun e w' => e = .returned (.int .i64 (a % n)) ∧ Below w.heap.size w w' := by
  refine (kilnlaw17_place.calls a n (a % n) w ?_).mono ?_
  · unfold kilnlaw17_place.f
    have h3 := Int.lt_tmod_of_pos a hn
    rw [if_neg (by omega), emod_of_tmod a n hn]
    split
    · rw [w64 (by omega) (by omega)]
    · rfl
  · rintro e w' ⟨rfl, k, rfl⟩
    exact ⟨rfl, pw_below_drewN (Below.refl _ _) _⟩
section
variable {P : Program} {ops : Array Oper} {rest : List Oper} {o : Oper} {a : Act} {w : World} {Q : Exit → Act → World → Prop}
end
end Go.Proofs.YtagodmmpkapgnaaDoor.M

namespace Go.Proofs.YtagodmmpkapgnaaDoor.M
open Go.RowKit Go.Maps Go.Proofs.YtagodmmpkapgnaaDoorW.PrintWords Go.Proofs.YtagodmmpkapgnaaDoorW.PrintLast Go.Proofs.YtagodmmpkapgnaaDoorW.PrintMore Go.Proofs.YtagodmmpkapgnaaDoor.Wr Go.Proofs.YtagodmmpkapgnaaDoor.Pl Go.Proofs.YtagodmmpkapgnaaDoor.P Go.Proofs.YtagodmmpkapgnaaDoor.A
set_option linter.unusedVariables false
set_option linter.unusedSimpArgs false
def keyM (x y : Int) : List Int := [x, y, 9, 0, 0, 0, 0, 0, 0, 0, 0, 0, 0, 0, 0, 0, 0, 0, 0, 0, 0, 0, 0, 0, 0, 0, 0, 0, 0, 0, 0, 0]
set_option maxRecDepth 100000 in
theorem built23m (x y : Int) : Tryd.prog.built 23 [(0, .int .u8 x), (1, .int .u8 y), (2, .int .u8 9)] = some (nums .u8 (keyM x y)).toArray := by kernel_rfl
def madeK (i : Nat) : List Int := keyM ((i : Int) % 256) ((i : Int) / 256 % 256)
theorem madeK_len (i : Nat) : (madeK i).length = 32 := rfl
theorem madeK_bytes (i : Nat) : bytes_ (madeK i) := by
  intro x hx
  simp [madeK, keyM] at hx
  omega
def madeR (i c : Nat) : RF := ⟨madeK i, (((i * 7 + c) % 65536 : Nat) : Int), (((i * 31 + c) % 262145 : Nat) : Int)⟩
theorem madeR_ok (i c : Nat) : (madeR i c).Ok := ⟨madeK_len i, madeK_bytes i⟩
def madeL (i : Nat) (m : Nat) : List RF := (List.range m).map (madeR i)
theorem madeL_len (i m : Nat) : (madeL i m).length = m := by unfold madeL; rw [List.length_map, List.length_range]
theorem madeL_snoc (i m : Nat) : madeL i (m + 1) = madeL i m ++ [madeR i m] := by unfold madeL; rw [List.range_succ, List.map_append]; rfl
theorem madeL_mem {i m : Nat} {x : RF} (h : x ∈ madeL i m) : ∃ c, x = madeR i c := by
  obtain ⟨c, _, rfl⟩ := List.mem_map.1 h
  exact ⟨c, rfl⟩
def madeC (n : Int) (i : Nat) : RC := ⟨n, madeK i, madeL i (i % 8 + 1)⟩
theorem madeC_ok (n : Int) (i : Nat) : (madeC n i).Ok := ⟨madeK_len i, madeK_bytes i, fun x hx => by obtain ⟨c, rfl⟩ := madeL_mem hx; exact madeR_ok i c⟩
theorem madeC_refs (i : Nat) : refsM (madeL i (i % 8 + 1)) = true := by
  refine (refsM_iff _).2 ⟨by rw [madeL_len]; omega, by rw [madeL_len]; omega, fun x hx => ?_⟩
  obtain ⟨c, rfl⟩ := madeL_mem hx
  simp only [madeR]
  omega
theorem madeC_may (n : Int) (i : Nat) (h0 : 0 ≤ n) (h1 : n ≤ 1099511627776) : (madeC n i).May := by
  obtain ⟨h2, h3, h4⟩ := (refsM_iff _).1 (madeC_refs i)
  exact ⟨⟨h0, h1⟩, h2, h3, h4⟩
set_option maxHeartbeats 8000000 in
set_option maxRecDepth 100000 in
theorem made31 (i : Nat) (hi : i ≤ 65536) (w : World) : Calls Tryd.prog 31 #[.int .i64 (i : Int)] w fun e w' => ∃ A c, e = .returned (.tuple #[.agg (nums .u8 (madeK i)).toArray, .slice A (i % 8 + 1) c]) ∧ Sep w w' [ownT kRF 69 (.slice A (i % 8 + 1) c) (madeL i (i % 8 + 1))] := by
  have HS0 := Aside0.mk (Sep.refl w)
  have hz := (zero_of_info (P := Tryd.prog) (t := 23) (v := .agg (nums .u8 (List.replicate 32 0)).toArray) (n := 32) (by kernel_rfl)).1
  have HKs := Aside0.mk (show (nums .u8 (List.replicate 32 0)).toArray.size = 32 from by simp [nums_length])
  generalize (nums .u8 (List.replicate 32 0)).toArray = K0 at hz HKs
  have HB3 := Aside0.mk (built23m ((i : Int) % 256) ((i : Int) / 256 % 256))
  have HKE := Aside0.mk (show keyM ((i : Int) % 256) ((i : Int) / 256 % 256) = madeK i from rfl)
  have hi0 : (0 : Int) ≤ (i : Int) := by omega
  have hi1 : (i : Int) ≤ 65536 := by omega
  go_enter Tryd.func31, Tryd.ntmps31
  go_upto_region 1 with (fail)
  have HS1 := Aside0.mk (HS0.out.push_alloc K0 23)
  generalize w.alloc (.cells K0 23) = w1 at HS1 ⊢
  generalize w.heap.size = g1 at HS1 ⊢
  have HKA := Aside0.mk (nums_all (madeK i))
  have HSK := Aside0.mk (show (Tryd.prog.info? 23).map (·.size) = some (nums .u8 (madeK i)).toArray.size from size23 (by simp [nums_length, madeK_len]))
  have HKV := Aside0.mk (show K0.size = (nums .u8 (madeK i)).toArray.size from by rw [HKs.out]; simp [nums_length, madeK_len])
  rw [HKE.out] at HB3
  have HB6 := Aside0.mk (fun (c : Nat) => (show Tryd.prog.built 69 [(0, .agg (nums .u8 (madeK i)).toArray), (1, .int .i64 (((i : Int) * 7 + (c : Int)) % 65536)), (2, .int .i64 (((i : Int) * 31 + (c : Int)) % 262145))] = some (madeR i c).V.toArray from by
    have h := built69 (madeK i) (madeK_len i) (((i * 7 + c) % 65536 : Nat) : Int) (((i * 31 + c) % 262145 : Nat) : Int)
    have e1 : (((i * 7 + c) % 65536 : Nat) : Int) = ((i : Int) * 7 + (c : Int)) % 65536 := by omega
    have e2 : (((i * 31 + c) % 262145 : Nat) : Int) = ((i : Int) * 31 + (c : Int)) % 262145 := by omega
    rw [e1, e2] at h
    rw [h]
    unfold madeR RF.V
    simp only [e1, e2]))
  have HXV := Aside0.mk (fun (c : Nat) => (show (madeR i c).V.toArray.size = 34 from by simpa using RF.V_len (madeR_ok i c)))
  generalize hK : (nums .u8 (madeK i)).toArray = K at HB3 HKA HSK HKV HB6
  have HKQ := Aside0.mk hK
  clear hK
  go_upto_region 2 with (first
    | ((with_reducible refine gate_build (ty := 23) rfl ?_); refine wpList_buildTo rfl 23 _ rfl (some 12) rfl K ?aB ?_; (case aB => (simp only [List.map_toArray, List.map_cons, List.map_nil]; exact HB3.out)))
    | ((with_reducible refine gate_store (ty := 23) rfl ?_); refine Sep.store_own rfl 23 _ _ rfl rfl rfl (HS1.out.push_alloc K0 23) HSK.out HKV.out HKA.out ?_; intro w2 h2; have HS2 := Aside0.mk h2; clear h2))
  generalize w1.heap.size = g4 at HS2 ⊢
  clear HS1 HS0 hz HB3
  go_upto_region 4 with (fail)
  go_loopg [5, 6] (i % 8 + 1) (fun kq v5 v6 wr => ∃ j : Nat, v6 = .int .i64 j ∧ Aside0 (j + kq = i % 8 + 1) ∧ Aside0 (Sep w wr (ownT kRF 69 v5 (madeL i j) :: cellsT g4 K 23 :: cellsT g1 K0 23 :: [])))
  case atStart => exact ⟨0, rfl, ⟨by omega⟩, ⟨HS2.out.push_nil kRF 69⟩⟩
  case round =>
    obtain ⟨j, rfl, HJ, HS⟩ := hrel
    clear HS2
    have hm8 : (i : Int).tmod 8 = ((i % 8 : Nat) : Int) := by rw [Int.tmod_eq_emod_of_nonneg (by omega)]; omega
    by_cases hj : j ≤ i % 8
    · have HJ8 := Aside0.mk hj
      have hj8 : (j : Int) ≤ (i : Int) % 8 := by omega
      have t0 : decide ((j : Int) ≤ (i : Int) % 8) = true := decide_eq_true hj8
      have hjj : (j : Int) ≤ 7 := by omega
      go_wp2_with (first
        | ((with_reducible refine gate_load (ty := 23) rfl ?_); refine wpList_ldw ?_ 23 _ rfl ⟨g4, 0, none⟩ ?_ K _ (cells_agg HS.out.up1) Tryd.underlying23 rfl HSK.out ?_; exact rfl; exact rfl; skip)
        | ((with_reducible refine gate_build (ty := 69) rfl ?_); refine wpList_buildTo rfl 69 _ rfl (some 31) rfl (madeR i j).V.toArray ?aB ?_; (case aB => (simp only [List.map_toArray, List.map_cons, List.map_nil]; exact HB6.out j)))
        | ((with_reducible refine gate_bs (ty := 24) rfl ?_); refine wpList_bs69 rfl _ rfl (madeR i j).V.toArray rfl (HXV.out j) ?_)
        | ((with_reducible refine gate_builtin (b := .append) (xs := #[.tmp 19, .tmp 32]) rfl ?_); refine Sep.app_ref rfl _ _ rfl (madeR i j) (madeR_ok i j) rfl rfl HS.out ?aL ?_; (case aL => have := HJ8.out; rw [madeL_len]; omega); intro v3 w3 h3; have HS3 := Aside0.mk h3; clear h3))
      go_roundg (i % 8 + 1 - (j + 1))
      case measure => have := HJ.out; have := HJ8.out; omega
      case rel => exact ⟨j + 1, rfl, ⟨by have := HJ.out; have := HJ8.out; omega⟩, ⟨by rw [madeL_snoc]; exact HS3.out⟩⟩
    · obtain rfl : j = i % 8 + 1 := by have := HJ.out; omega
      have t0 : decide (((i % 8 + 1 : Nat) : Int) ≤ (i : Int) % 8) = false := decide_eq_false (by omega)
      obtain ⟨A5, c5, rfl⟩ := HS.out.own_slice
      have hml := madeL_len i (i % 8 + 1)
      rw [hml] at HS ⊢
      go_wp2_with (first
        | ((with_reducible refine gate_load (ty := 23) rfl ?_); refine wpList_ldw ?_ 23 _ rfl ⟨g4, 0, none⟩ ?_ K _ (cells_agg HS.out.up1) Tryd.underlying23 rfl HSK.out ?_; exact rfl; exact rfl; skip)
        | ((with_reducible refine gate_store (ty := 23) rfl ?_); refine Sep.store_own rfl 23 _ _ rfl rfl rfl HS.out.up2 HSK.out HKV.out HKA.out ?_; intro w7 h7; have HS7 := Aside0.mk h7; clear h7))
      refine bodyPost_ret (results_row_tmp (p := 2) (u := 3) (ty := 23) rfl _ _ g1 23 K (0, 0) _ _ rfl rfl HS7.out.cells.1 Tryd.underlying23 rfl HSK.out) rfl ⟨A5, c5, by rw [HKQ.out]; rfl, HS7.out.sel 3 [1] _ rfl (by decide) rfl⟩
end Go.Proofs.YtagodmmpkapgnaaDoor.M

namespace Go.Proofs.YtagodmmpkapgnaaDoor.M
open Go.RowKit Go.Maps Go.Proofs.YtagodmmpkapgnaaDoorW.PrintWords Go.Proofs.YtagodmmpkapgnaaDoorW.PrintLast Go.Proofs.YtagodmmpkapgnaaDoorW.PrintMore Go.Proofs.YtagodmmpkapgnaaDoor.Wr Go.Proofs.YtagodmmpkapgnaaDoor.Pl Go.Proofs.YtagodmmpkapgnaaDoor.P Go.Proofs.YtagodmmpkapgnaaDoor.A
set_option linter.unusedVariables false
set_option linter.unusedSimpArgs false
theorem repJ_rows (S : Nat → List Int) (fr n : Nat) (R : Nat → RC) : ∀ (m k a : Nat), m ≤ k → (∀ j, j < m → decJ (S (fr + (a + j) % n)) = some (R (a + j)) ∧ (R (a + j)).n = ((a + j : Nat) : Int)) → (m < k → ∀ r, decJ (S (fr + (a + m) % n)) = some r → r.n ≠ ((a + m : Nat) : Int)) → repJ S fr n k a = (List.range m).map (fun j => R (a + j)) := by
  intro m
  induction m with
  | zero =>
    intro k a hk h1 h2
    show repJ S fr n k a = []
    cases k with
    | zero => rfl
    | succ k =>
      have h3 := h2 (Nat.succ_pos k)
      rw [Nat.add_zero] at h3
      cases hd : decJ (S (fr + a % n)) with
      | none => exact repJ_none hd
      | some r => exact repJ_other hd (h3 r hd)
  | succ m ih =>
    intro k a hk h1 h2
    obtain ⟨k, rfl⟩ : ∃ q, k = q + 1 := ⟨k - 1, by omega⟩
    have h0 := h1 0 (Nat.succ_pos m)
    rw [Nat.add_zero] at h0
    rw [repJ_some h0.1 h0.2, ih k (a + 1) (by omega) (fun j hj => by have h := h1 (j + 1) (by omega); rwa [show a + (j + 1) = a + 1 + j by omega] at h) (fun hm r hr => by rw [show a + 1 + m = a + (m + 1) by omega] at hr ⊢; exact h2 (by omega) r hr)]
    rw [List.range_succ_eq_map, List.map_cons, List.map_map]
    congr 1
    refine List.map_congr_left (fun j _ => ?_)
    show R (a + 1 + j) = R (a + (j + 1))
    rw [show a + 1 + j = a + (j + 1) by omega]
structure JAt (s : DS) (fr n : Nat) (R : Nat → RC) (lo hi : Nat) : Prop where
  n1 : 1 ≤ n
  fit : fr + n ≤ s.n
  bytes : ∀ i, i < s.n → bytes_ (s.cur i)
  ok : ∀ x, lo ≤ x → x < hi → (R x).Ok ∧ (R x).May ∧ (R x).n = (x : Int)
  recs : ∀ x, lo ≤ x → x < hi → hi ≤ x + n → s.cur (fr + x % n) = encJ (R x)
  old : ∀ i, i < n → ∀ r, decJ (s.cur (fr + i)) = some r → r.n < (hi : Int)
theorem JAt.fresh (N fr n : Nat) (R : Nat → RC) (lo : Nat) (h1 : 1 ≤ n) (hf : fr + n ≤ N) : JAt (DS.fresh N (List.replicate N zeros)) fr n R lo lo :=
  ⟨h1, hf, fun i hi => by rw [fresh_cur (n := N) hi]; exact zeros_bytes, fun x h1 h2 => by omega, fun x h1 h2 => by omega, fun i hi r hr => by
    rw [fresh_cur (n := N) (show fr + i < N by omega), decJ_zeros] at hr
    cases hr⟩
theorem JAt.congr {s s' : DS} {fr n lo hi : Nat} {R : Nat → RC} (h : JAt s fr n R lo hi) (hn : s'.n = s.n) (hc : ∀ i, i < s.n → s'.cur i = s.cur i) : JAt s' fr n R lo hi :=
  ⟨h.n1, by rw [hn]; exact h.fit, fun i hi => by rw [hn] at hi; rw [hc i hi]; exact h.bytes i hi, h.ok, fun x h1 h2 h3 => by rw [hc _ (by have := Nat.mod_lt x h.n1; have := h.fit; omega)]; exact h.recs x h1 h2 h3, fun i hi r hr => by rw [hc _ (by have := h.fit; omega)] at hr; exact h.old i hi r hr⟩
theorem JAt.rd {s : DS} {fr n lo hi : Nat} {R : Nat → RC} (h : JAt s fr n R lo hi) (k : Nat) : JAt (s.rdN k) fr n R lo hi := h.congr (DS.rdN_n s k) (fun i _ => by rw [DS.rdN_cur])
theorem mod_ne {x y n : Nat} (h1 : x < y) (h2 : y < x + n) : x % n ≠ y % n := by
  intro h
  have hn : 0 < n := by omega
  have e : y = x + (y - x) := by omega
  have h3 : (y - x) % n = y - x := Nat.mod_eq_of_lt (by omega)
  have h4 : (y - x) % n = 0 := by
    have h5 := Nat.sub_mod_eq_zero_of_mod_eq h.symm
    exact h5
  omega
theorem JAt.put {s : DS} {fr n lo hi : Nat} {R : Nat → RC} (h : JAt s fr n R lo hi) (hl : lo ≤ hi) (ho : (R hi).Ok) (hm : (R hi).May) (hn : (R hi).n = (hi : Int)) : JAt (s.put (fr + hi % n) (encJ (R hi))) fr n R lo (hi + 1) := by
  have hq := Nat.mod_lt hi h.n1
  refine ⟨h.n1, h.fit, fun i hi' => ?_, fun x h1 h2 => ?_, fun x h1 h2 h3 => ?_, fun i hi' r hr => ?_⟩
  · by_cases e : i = fr + hi % n
    · subst e; rw [put_cur]; exact bytes_encJ ho hm.r8
    · rw [put_cur_ne _ _ e]; exact h.bytes i hi'
  · by_cases e : x = hi
    · subst e; exact ⟨ho, hm, hn⟩
    · exact h.ok x h1 (by omega)
  · by_cases e : x = hi
    · subst e; exact put_cur _ _ _
    · have := mod_ne (x := x) (y := hi) (n := n) (by omega) (by omega)
      rw [put_cur_ne _ _ (by omega)]
      exact h.recs x h1 (by omega) (by omega)
  · by_cases e : i = hi % n
    · subst e
      rw [put_cur, decJ_enc ho hm] at hr
      cases hr
      rw [hn]; omega
    · rw [put_cur_ne _ _ (by omega)] at hr
      have := h.old i hi' r hr
      omega
theorem JAt.flush {s : DS} {fr n lo hi : Nat} {R : Nat → RC} (h : JAt s fr n R lo hi) : JAt s.flush fr n R lo hi := h.congr rfl (fun i hi => flush_cur s hi)
theorem JAt.rep {s : DS} {fr n lo hi : Nat} {R : Nat → RC} (h : JAt s fr n R lo hi) (a : Nat) (h1 : lo ≤ a) (h2 : a ≤ hi) (h3 : hi ≤ a + n) : repJ s.cur fr n n a = (List.range (hi - a)).map (fun j => R (a + j)) := by
  refine repJ_rows s.cur fr n R (hi - a) n a (by omega) (fun j hj => ?_) (fun hm r hr e => ?_)
  · obtain ⟨o1, o2, o3⟩ := h.ok (a + j) (by omega) (by omega)
    exact ⟨by rw [h.recs (a + j) (by omega) (by omega) (by omega)]; exact decJ_enc o1 o2, o3⟩
  · have := h.old _ (Nat.mod_lt _ h.n1) r hr
    omega
theorem Sep.add_yes {w0 w : World} {L : List Th} {gj gd : Nat} {fr n st nx : Int} (h : Sep w0 w (cellsT gj (jC gd fr n st nx) 134 :: L)) (h0 : 0 ≤ st) (h1 : st ≤ 1099511627777) (h2 : 0 ≤ nx) (h3 : nx ≤ 1099511627777) (ky : List Int) (hk : ky.length = 32) (l : List RF) (m : Nat) (hm : l.length = m) (A : Option Addr) (c : Nat) (hC : kRF.C w A m l) (hl : refsM l = true) (hr : roomE n st nx = 0) :
    Calls Tryd.prog 32 #[.pointer (some ⟨gj, 0, none⟩), .agg (nums .u8 ky).toArray, .slice A m c] w fun e w' => ∃ gw, e = .returned (.tuple #[.pointer (some ⟨gw, 0, none⟩), .int .i64 0]) ∧ Sep w0 w' (wT gw (newW gj ky l) :: cellsT gj (jC gd fr n st nx) 134 :: L) :=
  (h.add h0 h1 h2 h3 ky hk l m hm A c hC).mono fun e w' hx => hx.1 ⟨hl, hr⟩
theorem Sep.opens_none {w0 w : World} {L : List Th} {g : Nat} {s : DS} (h : Sep w0 w (dkT g s :: L)) (hH : Wr.Half w0) (hb : ∀ i, i < s.n → bytes_ (s.cur i)) (fr n st : Nat) (h1 : 1 ≤ n) (h2 : n ≤ 1024) (h3 : fr + n ≤ s.n) (h4 : st ≤ 1099511627777) (hrep : repJ s.cur fr n n st = []) :
    Calls Tryd.prog 30 #[.pointer (some ⟨g, 0, none⟩), .int .i64 (fr : Int), .int .i64 (n : Int), .int .i64 (st : Int)] w fun e w' => ∃ gj A c, e = .returned (.tuple #[.pointer (some ⟨gj, 0, none⟩), .slice A 0 c, .int .i64 0]) ∧ Sep w0 w' (cellsT gj (jC g fr n st st) 134 :: dkT g (s.rdN 1) :: L) := by
  refine (h.opens hH hb fr n st h1 h2 h3 h4).mono ?_
  rintro e w' ⟨gj, A, c, l, k, hl, hk, he, hS⟩
  rw [hrep] at hl
  subst hl
  rw [List.length_nil, if_pos (by omega)] at hk
  subst hk
  exact ⟨gj, A, c, he, hS.up1.drop⟩
def wrW (gj : Nat) (p : List Int) (r : List RF) (nx : Int) : WR := { newW gj p r with nm := nx, wt := true }
theorem Sep.step1 {w0 w : World} {L : List Th} {gj gw gd : Nat} {p : List Int} {r : List RF} {fr n st nx : Nat} {s : DS} (h : Sep w0 w (wT gw (newW gj p r) :: cellsT gj (jC gd fr n st nx) 134 :: dkT gd s :: L)) (hH : Wr.Half w0) (hx : (⟨nx, p, r⟩ : RC).Ok) (hl : refsM r = true) (h1 : st ≤ 1099511627777) (h3 : nx ≤ 1099511627777) (hr : roomE n st nx = 0) (hn : 1 ≤ n) (hfn : fr + n ≤ s.n) (hc : s.c < 1073741824) :
    Calls Tryd.prog 33 #[.pointer (some ⟨gw, 0, none⟩)] w fun e w' => e = .returned (.tuple #[.bool false, .int .i64 0]) ∧ Sep w0 w' (wT gw (wrW gj p r nx) :: cellsT gj (jC gd fr n st ((nx + 1 : Nat) : Int)) 134 :: dkT gd (s.put (fr + nx % n) (encJ ⟨nx, p, r⟩)) :: L) :=
  Sep.step_yes (x := newW gj p r) h hH rfl rfl hx hl h1 h3 hr hn hfn hc
theorem Sep.step2 {w0 w : World} {L : List Th} {gj gw gd : Nat} {p : List Int} {r : List RF} {fr n st nx m : Int} {s : DS} (h : Sep w0 w (wT gw (wrW gj p r m) :: cellsT gj (jC gd fr n st nx) 134 :: dkT gd s :: L)) :
    Calls Tryd.prog 33 #[.pointer (some ⟨gw, 0, none⟩)] w fun e w' => e = .returned (.tuple #[.bool true, .int .i64 0]) ∧ Sep w0 w' (cellsT gj (jC gd fr n st nx) 134 :: dkT gd s.flush :: L) := by
  refine (Sep.step_flush (x := wrW gj p r m) h rfl rfl).mono ?_
  rintro e w' ⟨he, hS⟩
  exact ⟨he, hS.drop⟩
end Go.Proofs.YtagodmmpkapgnaaDoor.M

namespace Go.Proofs.YtagodmmpkapgnaaDoor.M
open Go.RowKit Go.Maps Go.Proofs.YtagodmmpkapgnaaDoorW.PrintWords Go.Proofs.YtagodmmpkapgnaaDoorW.PrintLast Go.Proofs.YtagodmmpkapgnaaDoorW.PrintMore Go.Proofs.YtagodmmpkapgnaaDoor.Wr Go.Proofs.YtagodmmpkapgnaaDoor.Pl Go.Proofs.YtagodmmpkapgnaaDoor.P Go.Proofs.YtagodmmpkapgnaaDoor.A
set_option linter.unusedVariables false
set_option linter.unusedSimpArgs false
theorem roomE_zero {n st nx : Int} (h1 : nx ≤ 1099511627776) (h2 : nx - st < n) : roomE n st nx = 0 := by unfold roomE; rw [if_neg (by omega), if_neg (by omega)]
end Go.Proofs.YtagodmmpkapgnaaDoor.M

namespace Go.Proofs.YtagodmmpkapgnaaDoor.M
open Go.RowKit Go.Maps Go.Proofs.YtagodmmpkapgnaaDoorW.PrintWords Go.Proofs.YtagodmmpkapgnaaDoorW.PrintLast Go.Proofs.YtagodmmpkapgnaaDoorW.PrintMore Go.Proofs.YtagodmmpkapgnaaDoor.Wr Go.Proofs.YtagodmmpkapgnaaDoor.Pl Go.Proofs.YtagodmmpkapgnaaDoor.P Go.Proofs.YtagodmmpkapgnaaDoor.A
set_option linter.unusedVariables false
set_option linter.unusedSimpArgs false
def rowsJ (R : Nat → RC) (a m : Nat) : List RC := (List.range m).map (fun j => R (a + j))
theorem rowsJ_len (R : Nat → RC) (a m : Nat) : (rowsJ R a m).length = m := by unfold rowsJ; rw [List.length_map, List.length_range]
end Go.Proofs.YtagodmmpkapgnaaDoor.M

namespace Go.Proofs.YtagodmmpkapgnaaDoor.M
open Go.RowKit Go.Maps Go.Proofs.YtagodmmpkapgnaaDoorW.PrintWords Go.Proofs.YtagodmmpkapgnaaDoorW.PrintLast Go.Proofs.YtagodmmpkapgnaaDoorW.PrintMore Go.Proofs.YtagodmmpkapgnaaDoor.Wr Go.Proofs.YtagodmmpkapgnaaDoor.Pl Go.Proofs.YtagodmmpkapgnaaDoor.P Go.Proofs.YtagodmmpkapgnaaDoor.A Go.Proofs.YtagodmmpkapgnaaDoor.Crc
set_option linter.unusedVariables false
set_option linter.unusedSimpArgs false
theorem Sep.turn {w0 w : World} {L : List Th} {g : Nat} {s : DS} (h : Sep w0 w (dkT g s :: L)) (i bit : Nat) (hi : i < s.n) (hb : bit < 4096) :
    Calls Tryd.prog 45 #[.pointer (some ⟨g, 0, none⟩), .int .i64 (i : Int), .int .i64 (bit : Int)] w fun e w' => e = .returned (.int .i64 0) ∧ Sep w0 w' (dkT g (s.turn i bit) :: L) := by
  obtain ⟨F, ⟨base, lb, cp, mb, f, k, D, h1, hF⟩, h2, h3⟩ := h.open1
  refine (turn_in g i bit w base lb cp mb k f D s h1 hi hb).mono ?_
  rintro e w' ⟨he, hd, hc⟩
  exact ⟨he, h3 (dkT g (s.turn i bit)) w' F ⟨base, lb, cp, mb, f, k, D, hd, hF⟩ (fun b hb => .inl hb) (hc.mono (fun x hx => (hF x).2 (by rcases hx with rfl | hx; exact .inr (.inl rfl); exact .inr (.inr (.inr ⟨i, hi, hx⟩)))))⟩
theorem mskB_range (r : Nat) (h : r < 8) : 0 ≤ mskB r ∧ mskB r < 256 ∧ (mskB r).toNat = 2 ^ r := by
  unfold mskB
  have : (2 : Nat) ^ r < 256 := by
    have := Nat.pow_lt_pow_right (a := 2) (by decide) h
    exact this
  exact ⟨Int.natCast_nonneg _, Int.ofNat_lt.2 this, Int.toNat_natCast _⟩
theorem flipL_flip1 {b : List Int} (hb : bytes_ b) (bit : Nat) (h : bit < 8 * b.length) : flipL (bit / 8) (mskB (bit % 8)) b = flip1 b (bit : Int) := by
  unfold flipL flip1
  rw [if_pos (by omega), Int.toNat_natCast]
  congr 1
  have hx := hb _ (getD_mem (b := b) (i := bit / 8) (by omega))
  obtain ⟨h1, h2, h3⟩ := mskB_range (bit % 8) (by omega)
  rw [u8_xor _ _ hx.1 hx.2 h1 h2, h3]
  rfl
theorem turn_cur_ne (s : DS) (i bit j : Nat) (h : j ≠ i) : (s.turn i bit).cur j = s.cur j := by
  unfold DS.turn DS.cur
  simp only [if_neg h]
  rw [List.getD_eq_getElem?_getD, List.getElem?_set_ne (fun e => h e.symm), ← List.getD_eq_getElem?_getD]
theorem turn_cur (s : DS) (i bit : Nat) (hi : i < s.n) (hL : s.L.length = s.n) (hb : bytes_ (s.cur i)) (hl : (s.cur i).length = 512) (hbit : bit < 4096) : (s.turn i bit).cur i = flip1 (s.cur i) (bit : Int) := by
  rw [← flipL_flip1 hb bit (by omega)]
  unfold DS.turn DS.cur
  simp only [if_true]
  rw [List.getLast?_map]
  cases e : (s.W i).getLast? with
  | none =>
    show (s.L.set i _).getD i [] = _
    rw [List.getD_eq_getElem?_getD, List.getElem?_set_self (by omega)]
    rfl
  | some b => rfl
end Go.Proofs.YtagodmmpkapgnaaDoor.M

namespace Go.Proofs.YtagodmmpkapgnaaDoor.M
open Go.RowKit Go.Maps Go.Proofs.YtagodmmpkapgnaaDoorW.PrintWords Go.Proofs.YtagodmmpkapgnaaDoorW.PrintLast Go.Proofs.YtagodmmpkapgnaaDoorW.PrintMore Go.Proofs.YtagodmmpkapgnaaDoor.Wr Go.Proofs.YtagodmmpkapgnaaDoor.Pl Go.Proofs.YtagodmmpkapgnaaDoor.P Go.Proofs.YtagodmmpkapgnaaDoor.A
set_option linter.unusedVariables false
set_option linter.unusedSimpArgs false
open Go.Proofs.YtagodmmpkapgnaaDoor.Crc
def jb20_T : Bool × List (List Nat × List Nat) := (true, [([], []), ([], []), ([], []), ([1, 2], [1, 2]), ([], []), ([3, 4], [3, 4]), ([5], [5]), ([], []), ([7], [7]), ([0, 6, 8, 8], [0, 6, 8]), ([9], [9])])
def jb20_B : List Nat := [0, 0, 0, 6, 0, 30, 62, 0, 128, 511, 1023]
theorem jb20_tab : rtab .any (opsOf Tryd.f10 20) = jb20_T := by kernel_rfl
theorem jb20_bits : waitsOk jb20_T.2 jb20_B = true := by kernel_rfl
def firstR (F : Nat) (x : Nat) : RC := madeC (x : Int) (x - F)
theorem turned_none {s : DS} {fr n lo hi : Nat} {R : Nat → RC} (h : JAt s fr n R lo hi) (hL : s.L.length = s.n) (x B : Nat) (h1 : lo ≤ x) (h2 : x < hi) (h3 : hi ≤ x + n) (hB : B < 4096) : decJ ((s.turn (fr + x % n) B).cur (fr + x % n)) = none := by
  obtain ⟨o1, o2, o3⟩ := h.ok x h1 h2
  have hq := Nat.mod_lt x h.n1
  have he := h.recs x h1 h2 h3
  rw [turn_cur s _ B (by have := h.fit; omega) hL (by rw [he]; exact bytes_encJ o1 o2.r8) (by rw [he]; exact encJ_len o1 o2.r8) hB, he]
  exact flipJ_none o1 o2.r8 hB
theorem turned_bytes {s : DS} {fr n lo hi : Nat} {R : Nat → RC} (h : JAt s fr n R lo hi) (hL : s.L.length = s.n) (x B : Nat) (h1 : lo ≤ x) (h2 : x < hi) (h3 : hi ≤ x + n) (hB : B < 4096) (i : Nat) (hi' : i < s.n) : bytes_ ((s.turn (fr + x % n) B).cur i) := by
  by_cases e : i = fr + x % n
  · subst e
    obtain ⟨o1, o2, o3⟩ := h.ok x h1 h2
    have he := h.recs x h1 h2 h3
    rw [turn_cur s _ B hi' hL (h.bytes _ hi') (by rw [he]; exact encJ_len o1 o2.r8) hB]
    exact bytes_flip (h.bytes _ hi') _
  · rw [turn_cur_ne s _ B _ e]
    exact h.bytes i hi'
theorem turned_ahead {s : DS} {fr n lo hi : Nat} {R : Nat → RC} (h : JAt s fr n R lo hi) (hL : s.L.length = s.n) (x B : Nat) (h1 : lo ≤ x) (h2 : x < hi) (h3 : hi ≤ lo + n) (hB : B < 4096) : repJ (s.turn (fr + x % n) B).cur fr n n lo = rowsJ R lo (x - lo) := by
  refine repJ_rows _ fr n R (x - lo) n lo (by omega) (fun j hj => ?_) (fun hm r hr e => ?_)
  · obtain ⟨o1, o2, o3⟩ := h.ok (lo + j) (by omega) (by omega)
    have hne := mod_ne (x := lo + j) (y := x) (n := n) (by omega) (by omega)
    exact ⟨by rw [turn_cur_ne s _ B _ (by omega), h.recs (lo + j) (by omega) (by omega) (by omega)]; exact decJ_enc o1 o2, o3⟩
  · rw [show lo + (x - lo) = x by omega, turned_none h hL x B h1 h2 (by omega) hB] at hr
    cases hr
theorem turned_behind {s : DS} {fr n lo hi : Nat} {R : Nat → RC} (h : JAt s fr n R lo hi) (hL : s.L.length = s.n) (x B : Nat) (h1 : lo ≤ x) (h2 : x < hi) (h3 : hi ≤ lo + n) (hB : B < 4096) : repJ (s.turn (fr + x % n) B).cur fr n n (x + 1) = rowsJ R (x + 1) (hi - (x + 1)) := by
  refine repJ_rows _ fr n R (hi - (x + 1)) n (x + 1) (by omega) (fun j hj => ?_) (fun hm r hr e => ?_)
  · obtain ⟨o1, o2, o3⟩ := h.ok (x + 1 + j) (by omega) (by omega)
    have hne := mod_ne (x := x) (y := x + 1 + j) (n := n) (by omega) (by omega)
    exact ⟨by rw [turn_cur_ne s _ B _ (by omega), h.recs (x + 1 + j) (by omega) (by omega) (by omega)]; exact decJ_enc o1 o2, o3⟩
  · rw [show x + 1 + (hi - (x + 1)) = hi by omega] at hr e
    by_cases e2 : hi % n = x % n
    · rw [e2, turned_none h hL x B h1 h2 (by omega) hB] at hr
      cases hr
    · rw [turn_cur_ne s _ B _ (by omega)] at hr
      have := h.old _ (Nat.mod_lt hi h.n1) r hr
      omega
set_option maxHeartbeats 16000000 in
set_option maxRecDepth 100000 in
theorem bit10 (a0 a1 a2 a3 bit : Int) (w : World) (hH : Wr.Half w) : Calls Tryd.prog 10 #[.int .i64 a0, .int .i64 a1, .int .i64 a2, .int .i64 a3, .int .i64 bit] w fun e w' => e = .returned (.bool true) ∧ Below w.heap.size w w' := by
  have HP0 := Aside0.mk (fun W => place28 a0 13 (by decide) (by decide) W)
  have HP1 := Aside0.mk (fun W => place28 a1 1000 (by decide) (by decide) W)
  have HPB := Aside0.mk (fun W => place28 bit 4096 (by decide) (by decide) W)
  obtain ⟨n, hn1, hn13, hn⟩ : ∃ n : Nat, 1 ≤ n ∧ n ≤ 13 ∧ a0 % 13 = (n : Int) - 1 := ⟨(a0 % 13).toNat + 1, by omega, by omega, by omega⟩
  obtain ⟨F, hF, hFe⟩ : ∃ F : Nat, F < 1000 ∧ a1 % 1000 = (F : Int) := ⟨(a1 % 1000).toNat, by omega, by omega⟩
  obtain ⟨B, hB, hBe⟩ : ∃ B : Nat, B < 4096 ∧ bit % 4096 = (B : Int) := ⟨(bit % 4096).toNat, by omega, by omega⟩
  have HP2 := Aside0.mk (fun W => place28 a2 n (by omega) (by omega) W)
  have hc0 := Int.emod_nonneg a2 (show (n : Int) ≠ 0 by omega)
  have hc1 := Int.emod_lt_of_pos a2 (show (0 : Int) < n by omega)
  obtain ⟨C, hC1, hCn, hCe⟩ : ∃ C : Nat, 1 ≤ C ∧ C ≤ n ∧ a2 % (n : Int) = (C : Int) - 1 := ⟨(a2 % (n : Int)).toNat + 1, by omega, by omega, by omega⟩
  have HP3 := Aside0.mk (fun W => place28 a3 C (by omega) (by omega) W)
  have hd0 := Int.emod_nonneg a3 (show (C : Int) ≠ 0 by omega)
  have hd1 := Int.emod_lt_of_pos a3 (show (0 : Int) < C by omega)
  obtain ⟨A, hA, hAe⟩ : ∃ A : Nat, A < C ∧ a3 % (C : Int) = (A : Int) := ⟨(a3 % (C : Int)).toNat, by omega, by omega⟩
  rw [hn] at HP0
  rw [hFe] at HP1
  rw [hBe] at HPB
  rw [hCe] at HP2
  rw [hAe] at HP3
  clear hn hFe hBe hCe hAe hc0 hc1 hd0 hd1
  have HS0 := Aside0.mk (Sep.refl w)
  have HNN := Aside0.mk (show (1 ≤ n ∧ n ≤ 13) ∧ F < 1000 ∧ B < 4096 ∧ (1 ≤ C ∧ C ≤ n) ∧ A < C from ⟨⟨hn1, hn13⟩, hF, hB, ⟨hC1, hCn⟩, hA⟩)
  have HTO := Aside0.mk (fun W (hb : Below w.heap.size w W) => told_calls W (hH.below hb))
  have HNW := Aside0.mk (fun (W : World) (h : Sep w W []) => (show Calls Tryd.prog 29 #[.int .i64 24] W (fun e w' => ∃ g, e = .returned (.tuple #[.pointer (some ⟨g, 0, none⟩), .int .i64 0]) ∧ Sep w w' [dkT g toD1]) from h.new 24 (by decide) (by decide)))
  have HJ0 := Aside0.mk (show JAt toD1 2 n (firstR F) F F from JAt.fresh 24 2 n (firstR F) F hn1 (by omega))
  have HOP := Aside0.mk (fun (W : World) (g : Nat) (h : Sep w W (dkT g toD1 :: [])) => (show Calls Tryd.prog 30 #[.pointer (some ⟨g, 0, none⟩), .int .i64 2, .int .i64 (n : Int), .int .i64 (F : Int)] W (fun e w' => ∃ gj A c, e = .returned (.tuple #[.pointer (some ⟨gj, 0, none⟩), .slice A 0 c, .int .i64 0]) ∧ Sep w w' (cellsT gj (jC g 2 n F F) 134 :: dkT g (toD1.rdN 1) :: [])) from h.opens_none hH HJ0.out.bytes 2 n F hn1 (by omega) (show 2 + n ≤ 24 by omega) (by omega) (by have h := HJ0.out.rep F (Nat.le_refl _) (Nat.le_refl _) (by omega); rw [Nat.sub_self] at h; exact h)))
  have HMD := Aside0.mk (fun (k : Nat) (hk : k ≤ 65536) (W : World) => made31 k hk W)
  have hz := (zero_of_info (P := Tryd.prog) (t := 23) (v := .agg (nums .u8 (List.replicate 32 0)).toArray) (n := 32) (by kernel_rfl)).1
  have HKV := Aside0.mk (fun (k : Nat) => (show (nums .u8 (List.replicate 32 0)).toArray.size = (nums .u8 (madeK k)).toArray.size from by simp [nums_length, madeK_len]))
  have HKA := Aside0.mk (fun (k : Nat) => nums_all (madeK k))
  have HSK := Aside0.mk (fun (k : Nat) => (show (Tryd.prog.info? 23).map (·.size) = some (nums .u8 (madeK k)).toArray.size from size23 (by simp [nums_length, madeK_len])))
  have HADD := Aside0.mk (fun (k : Nat) (W : World) (L : List Th) (gj gd : Nat) (A : Option Addr) (c : Nat) (h : Sep w W (cellsT gj (jC gd 2 n F ((F + k : Nat) : Int)) 134 :: L)) (hk : k < C) (hC : kRF.C W A (k % 8 + 1) (madeL k (k % 8 + 1))) => h.add_yes (by omega) (by omega) (by omega) (by omega) (madeK k) (madeK_len k) (madeL k (k % 8 + 1)) (k % 8 + 1) (madeL_len _ _) A c hC (madeC_refs k) (roomE_zero (by omega) (by omega)))
  have HSTY := Aside0.mk (fun (k : Nat) (W : World) (L : List Th) (gj gd gw : Nat) (s : DS) (h : Sep w W (wT gw (newW gj (madeK k) (madeL k (k % 8 + 1))) :: cellsT gj (jC gd 2 n F ((F + k : Nat) : Int)) 134 :: dkT gd s :: L)) (hk : k < C) (hn : s.n = 24) (hc : s.c = 0) => (show Calls Tryd.prog 33 #[.pointer (some ⟨gw, 0, none⟩)] W (fun e w' => e = .returned (.tuple #[.bool false, .int .i64 0]) ∧ Sep w w' (wT gw (wrW gj (madeK k) (madeL k (k % 8 + 1)) ((F + k : Nat) : Int)) :: cellsT gj (jC gd 2 n F ((F + k + 1 : Nat) : Int)) 134 :: dkT gd (s.put (2 + (F + k) % n) (encJ (firstR F (F + k)))) :: L)) from by
    have e : firstR F (F + k) = (⟨((F + k : Nat) : Int), madeK k, madeL k (k % 8 + 1)⟩ : RC) := by unfold firstR; rw [Nat.add_sub_cancel_left]; rfl
    rw [e]
    exact Sep.step1 (fr := 2) (n := n) (st := F) (nx := F + k) h hH (madeC_ok _ k) (madeC_refs k) (by omega) (by omega) (roomE_zero (by omega) (by omega)) hn1 (by omega) (by omega)))
  have HRO := Aside0.mk (fun (k : Nat) (hk : k < C) => (show (firstR F (F + k)).Ok ∧ (firstR F (F + k)).May ∧ (firstR F (F + k)).n = ((F + k : Nat) : Int) from ⟨madeC_ok _ _, madeC_may _ _ (by omega) (by omega), rfl⟩))
  have hn1' : (1 : Int) ≤ (n : Int) := by omega
  have hn2' : (n : Int) ≤ 13 := by omega
  have hF' : (F : Int) < 1000 := by omega
  have hC1' : (1 : Int) ≤ (C : Int) := by omega
  have hC2' : (C : Int) ≤ 13 := by omega
  have hA' : (A : Int) < (C : Int) := by omega
  have e1 : 1 + ((n : Int) - 1) = (n : Int) := by omega
  have e2 : 1 + ((C : Int) - 1) = (C : Int) := by omega
  generalize (nums .u8 (List.replicate 32 0)).toArray = K0 at hz HKV
  have HH := Aside0.mk hH
  clear hH hn1 hn13 hF hB hC1 hCn hA
  go_enter Tryd.func10, Tryd.ntmps10
  go_upto_region 11 with (first
    | (go_at_call 28; (with_reducible refine (HP0.out _).mono ?_); rintro e w1 ⟨rfl, hb⟩; have HS1 := Aside0.mk (HS0.out.step hb); clear hb)
    | (go_at_call 28; (with_reducible refine (HP1.out _).mono ?_); rintro e w1b ⟨rfl, hb⟩; have HS1b := Aside0.mk (HS1.out.step hb); clear hb)
    | (go_at_call 28; (with_reducible refine (HP2.out _).mono ?_); rintro e w1c ⟨rfl, hb⟩; have HS1c := Aside0.mk (HS1b.out.step hb); clear hb)
    | (go_at_call 28; (with_reducible refine (HP3.out _).mono ?_); rintro e w1d ⟨rfl, hb⟩; have HS1d := Aside0.mk (HS1c.out.step hb); clear hb)
    | (go_at_call 29; (with_reducible refine (HNW.out _ HS1d.out).mono ?_); rintro e w2 ⟨g, rfl, h2⟩; have HS2 := Aside0.mk h2; clear h2)
    | (go_at_call 14; (with_reducible refine (HTO.out _ HS2.out.below).mono ?_); rintro e w2b ⟨rfl, hb⟩; have HS2b := Aside0.mk (HS2.out.step hb); clear hb)
    | (go_at_call 30; (with_reducible refine (HOP.out _ _ HS2b.out).mono ?_); rintro e w3 ⟨gj, A3, c3, rfl, h3⟩; have HS3 := Aside0.mk h3; clear h3))
  clear HS0 HS1 HS1b HS1c HS1d HS2 HS2b HNW HOP HTO HP0 HP1 HP2 HP3 e1 e2
  go_upto_region 12 with (fail)
  go_loopg [16] C (fun kq v16 wr => ∃ i : Nat, v16 = .int .i64 i ∧ Aside0 (i + kq = C) ∧ Aside0 (∃ s : DS, (s.n = 24 ∧ s.c = 0 ∧ JAt s 2 n (firstR F) F (F + i)) ∧ Sep w wr (cellsT gj (jC g 2 n F ((F + i : Nat) : Int)) 134 :: dkT g s :: [])))
  case atStart => exact ⟨0, rfl, ⟨by omega⟩, ⟨toD1.rdN 1, ⟨rfl, rfl, HJ0.out.rd 1⟩, HS3.out⟩⟩
  case round =>
    obtain ⟨i, rfl, HJ, hS⟩ := hrel
    obtain ⟨s, hsn, hS⟩ := hS.out
    have HS := Aside0.mk hS
    have HSN := Aside0.mk hsn
    clear hS hsn HS3
    by_cases hi : i < C
    · have t0 : decide (i < C) = true := decide_eq_true hi
      have HI := Aside0.mk hi
      go_upto_region 15 with (first
        | (go_at_call 31; (with_reducible refine (HMD.out i (by have := HI.out; have := HNN.out; omega) _).mono ?_); rintro e w4 ⟨A4, c4, rfl, h4⟩; have HS4 := Aside0.mk (HS.out.then_ h4); clear h4)
        | ((with_reducible refine gate_store (ty := 23) rfl ?_); refine Sep.store_own rfl 23 _ _ rfl rfl rfl (HS4.out.push_alloc K0 23) (HSK.out i) (HKV.out i) (HKA.out i) ?_; intro w5 h5; have HS5 := Aside0.mk h5; clear h5))
      generalize w4.heap.size = g5 at HS5 ⊢
      clear HS4 hz
      go_wp2_with (first
        | ((with_reducible refine gate_load (ty := 23) rfl ?_); refine wpList_ldw ?_ 23 _ rfl ⟨g5, 0, none⟩ ?_ _ _ (cells_agg HS5.out) Tryd.underlying23 rfl (HSK.out i) ?_; exact rfl; exact rfl; skip)
        | (go_at_call 32; (with_reducible refine (HADD.out i _ _ _ _ _ _ HS5.out.up2 HI.out (by have h := HS5.out.up1.own_C.1; rwa [madeL_len] at h)).mono ?_); rintro e w7 ⟨gw, rfl, h7⟩; have HSa := Aside0.mk (show Sep w w7 (wT gw (newW gj (madeK i) (madeL i (i % 8 + 1))) :: cellsT gj (jC g 2 n F ((F + i : Nat) : Int)) 134 :: dkT g s :: []) from h7.sel 5 [0, 1, 4] _ rfl (by decide) rfl); clear h7)
        | (go_at_call 33; (with_reducible refine (HSTY.out i _ _ _ _ _ _ HSa.out HI.out HSN.out.1 HSN.out.2.1).mono ?_); rintro e w8 ⟨rfl, h8⟩; have HSb := Aside0.mk h8; clear h8 HSa)
        | (go_at_call 33; (with_reducible refine (Sep.step2 HSb.out).mono ?_); rintro e w9 ⟨rfl, h9⟩; have HSc := Aside0.mk h9; clear h9))
      go_roundg (C - (i + 1))
      case measure => have := HJ.out; have := HI.out; omega
      case rel => exact ⟨i + 1, rfl, ⟨by have := HJ.out; have := HI.out; omega⟩, ⟨(s.put (2 + (F + i) % n) (encJ (firstR F (F + i)))).flush, ⟨HSN.out.1, rfl, (HSN.out.2.2.put (by omega) (HRO.out i HI.out).1 (HRO.out i HI.out).2.1 (HRO.out i HI.out).2.2).flush⟩, HSc.out⟩⟩
    · obtain rfl : i = C := by have := HJ.out; omega
      have t0 : decide (i < i) = false := decide_eq_false (Nat.lt_irrefl i)
      have HDL := Aside0.mk HS.out.up1.dk_lasts.1
      have HMQ := Aside0.mk (Nat.mod_lt (F + A) (show 0 < n by have := HNN.out; omega))
      have hmod : ((F : Int) + (A : Int)).tmod (n : Int) = (((F + A) % n : Nat) : Int) := by rw [← Int.natCast_add]; exact tmod_nat _ _
      have HB1 := Aside0.mk (fun j (hj : j < 24) => turned_bytes HSN.out.2.2 HDL.out (F + A) B (by omega) (by have := HNN.out; omega) (by have := HNN.out; omega) HNN.out.2.2.1 j (by rw [HSN.out.1]; exact hj))
      have HR1 := Aside0.mk (turned_ahead HSN.out.2.2 HDL.out (F + A) B (by omega) (by have := HNN.out; omega) (by have := HNN.out; omega) HNN.out.2.2.1)
      have HR2 := Aside0.mk (turned_behind HSN.out.2.2 HDL.out (F + A) B (by omega) (by have := HNN.out; omega) (by have := HNN.out; omega) HNN.out.2.2.1)
      generalize (F + A) % n = q at HMQ hmod HB1 HR1 HR2
      have HTU := Aside0.mk (fun (W : World) (L : List Th) (g : Nat) (s : DS) (h : Sep w W (dkT g s :: L)) (hn : s.n = 24) => (show Calls Tryd.prog 45 #[.pointer (some ⟨g, 0, none⟩), .int .i64 (2 + (q : Int)), .int .i64 (B : Int)] W (fun e w' => e = .returned (.int .i64 0) ∧ Sep w w' (dkT g (s.turn (2 + q) B) :: L)) from by
        have h2 := h.turn (2 + q) B (by have := HMQ.out; have := HNN.out; omega) HNN.out.2.2.1
        rw [Int.natCast_add] at h2
        exact h2))
      have HW64 := Aside0.mk (show Go.RowKit.wrap64 (2 + (q : Int)) = 2 + (q : Int) from w64 (by have := HMQ.out; have := HNN.out; omega) (by have := HMQ.out; have := HNN.out; omega))
      have hw1 : Go.RowKit.wrap64 ((F : Int) + (A : Int)) = (F : Int) + (A : Int) := w64 (by omega) (by omega)
      have hn0 : ¬ n = 0 := by have := HNN.out; omega
      have hq1 : (q : Int) < 13 := by have := HMQ.out; have := HNN.out; omega
      go_upto_region 20 with (fail)
      have HSx := Aside0.mk (HS.out.step (below_drew1 (Below.refl wr.heap.size wr)))
      clear HS
      refine start_ (n := 11) (S := fun W => True) (ds := []) (bb 11 0) (by kernel_rfl) rfl rfl (trivial) (fun hHeld => ?_); refine with_tabW jb20_tab jb20_bits (fun HT_ HW_ => ?_)
      generalize wr.drew = wd at hHeld HSx ⊢
      refine pure_ (i := 0) (N := (some 91)) (v := ?_) (a' := ?_) (bb 11 1) rfl rfl (any_of HT_.out (by kernel_rfl)) (fun _ _ _ h => h) (Or.inl ⟨by rfl, ?_⟩) ?_ ?_
      rotate_left
      · intro w'
        go_simp
        with_reducible rfl
      rotate_left
      · simp only [Act.put, List.setIfInBounds_toArray, List.set_cons_zero, List.set_cons_succ, i64_w, i32_w]
        rfl
      refine pure_ (i := 1) (N := (some 92)) (v := ?_) (a' := ?_) (bb 11 3) rfl rfl (any_of HT_.out (by kernel_rfl)) (fun _ _ _ h => h) (Or.inl ⟨by rfl, ?_⟩) ?_ ?_
      rotate_left
      · intro w'
        go_simp
        with_reducible rfl
      rotate_left
      · simp only [Act.put, List.setIfInBounds_toArray, List.set_cons_zero, List.set_cons_succ, i64_w, i32_w]
        rfl
      refine pure_ (i := 2) (N := (some 93)) (v := ?_) (a' := ?_) (bb 11 7) rfl rfl (any_of HT_.out (by kernel_rfl)) (fun _ _ _ h => h) (Or.inl ⟨by rfl, ?_⟩) ?_ ?_
      rotate_left
      · intro w'
        go_simp
        with_reducible rfl
      rotate_left
      · simp only [Act.put, List.setIfInBounds_toArray, List.set_cons_zero, List.set_cons_succ, i64_w, i32_w]
        rfl
      refine pure_ (i := 3) (N := (some 94)) (v := ?_) (a' := ?_) (bb 11 15) rfl rfl (any_of HT_.out (by kernel_rfl)) (fun _ _ _ h => h) (Or.inl ⟨by rfl, ?_⟩) ?_ ?_
      rotate_left
      · intro w'
        go_simp
        with_reducible rfl
      rotate_left
      · simp only [Act.put, List.setIfInBounds_toArray, List.set_cons_zero, List.set_cons_succ, i64_w, i32_w]
        rfl
      refine pure_ (i := 4) (N := (some 95)) (v := ?_) (a' := ?_) (bb 11 31) rfl rfl (any_of HT_.out (by kernel_rfl)) (fun _ _ _ h => h) (Or.inl ⟨by rfl, ?_⟩) ?_ ?_
      rotate_left
      · intro w'
        go_simp
        with_reducible rfl
      rotate_left
      · simp only [Act.put, List.setIfInBounds_toArray, List.set_cons_zero, List.set_cons_succ, i64_w, i32_w]
        rfl
      refine pure_ (i := 5) (N := (some 96)) (v := ?_) (a' := ?_) (bb 11 63) rfl rfl (any_of HT_.out (by kernel_rfl)) (fun _ _ _ h => h) (Or.inl ⟨by rfl, ?_⟩) ?_ ?_
      rotate_left
      · intro w'
        go_simp
        with_reducible rfl
      rotate_left
      · simp only [Act.put, List.setIfInBounds_toArray, List.set_cons_zero, List.set_cons_succ, i64_w, i32_w]
        rfl
      refine pure_ (i := 6) (N := (some 97)) (v := ?_) (a' := ?_) (bb 11 127) rfl rfl (any_of HT_.out (by kernel_rfl)) (fun _ _ _ h => h) (Or.inl ⟨by rfl, ?_⟩) ?_ ?_
      rotate_left
      · intro w'
        go_simp
        with_reducible rfl
      rotate_left
      · simp only [Act.put, List.setIfInBounds_toArray, List.set_cons_zero, List.set_cons_succ, i64_w, i32_w]
        rfl
      refine pure_ (i := 7) (N := (some 98)) (v := ?_) (a' := ?_) (bb 11 255) rfl rfl (any_of HT_.out (by kernel_rfl)) (fun _ _ _ h => h) (Or.inl ⟨by rfl, ?_⟩) ?_ ?_
      rotate_left
      · intro w'
        go_simp
        with_reducible rfl
      rotate_left
      · simp only [Act.put, List.setIfInBounds_toArray, List.set_cons_zero, List.set_cons_succ, i64_w, i32_w]
        rfl
      refine one_ (i := 8) (N := (some 99)) (bb 11 511) rfl rfl (one_of HT_.out (by kernel_rfl)) (by decide) (fun K hK => ?_)
      refine goes_ Tryd.func28 (by kernel_rfl) rfl #[.int .i64 bit, .int .i64 4096] (by rfl) rfl rfl (by (try simp only [List.map_toArray, List.map_cons, List.map_nil]); first | done | rfl) ?_
      with_reducible refine (HPB.out _).mono ?_
      rintro e wa ⟨rfl, hb⟩
      have HSa := Aside0.mk (HSx.out.step hb)
      clear hb
      refine ⟨_, rfl, ?_⟩
      refine hK.out _ _ (trivial) (fun hHeld => ?_)
      clear hK K
      refine norm_ (a' := ?_) ?_ ?_
      rotate_left
      · show Act.put _ (some 99) _ = _
        simp only [Act.put, List.setIfInBounds_toArray, List.set_cons_zero, List.set_cons_succ, i64_w, i32_w]
        rfl
      refine one_ (i := 9) (N := (some 100)) (bb 11 1023) rfl rfl (one_of HT_.out (by kernel_rfl)) (by decide) (fun K hK => ?_)
      refine goes_ Tryd.func45 (by kernel_rfl) rfl #[.pointer (some ⟨g, 0, none⟩), .int .i64 (Go.RowKit.wrap64 (2 + (q : Int))), .int .i64 (B : Int)] (by rfl) rfl rfl (by (try simp only [List.map_toArray, List.map_cons, List.map_nil]); first | done | rfl) ?_
      rw [HW64.out]
      with_reducible refine (HTU.out _ _ _ _ HSa.out.up1 HSN.out.1).mono ?_
      rintro e wb ⟨rfl, hb⟩
      have HSb := Aside0.mk hb
      clear hb
      refine ⟨_, rfl, ?_⟩
      refine hK.out _ _ (trivial) (fun hHeld => ?_)
      clear hK K
      refine norm_ (a' := ?_) ?_ ?_
      rotate_left
      · show Act.put _ (some 100) _ = _
        simp only [Act.put, List.setIfInBounds_toArray, List.set_cons_zero, List.set_cons_succ, i64_w, i32_w]
        rfl
      refine pure_ (i := 10) (N := (some 101)) (v := ?_) (a' := ?_) (bb 11 2047) rfl rfl (any_of HT_.out (by kernel_rfl)) (fun _ _ _ h => h) (Or.inl ⟨by rfl, ?_⟩) ?_ ?_
      rotate_left
      · intro w'
        go_simp
        with_reducible rfl
      rotate_left
      · simp only [Act.put, List.setIfInBounds_toArray, List.set_cons_zero, List.set_cons_succ, i64_w, i32_w]
        rfl
      refine done_ (done_of HT_.out (by kernel_rfl)) ?_
      clear hHeld HT_ HW_
      have HSb := Aside0.mk (show Sep w wb (dkT g (s.turn (2 + q) B) :: cellsT gj (jC g 2 n F ((F + i : Nat) : Int)) 134 :: []) from HSb.out)
      have HTN := Aside0.mk (show (s.turn (2 + q) B).n = 24 from HSN.out.1)
      generalize s.turn (2 + q) B = s2 at HSb HB1 HR1 HR2 HTN
      have HRA := Aside0.mk (show Calls Tryd.prog 37 #[.pointer (some ⟨g, 0, none⟩), .int .i64 2, .int .i64 (n : Int), .int .i64 (F : Int)] wb (fun e w' => ∃ A' c', e = .returned (.tuple #[.slice A' A c', .int .i64 0]) ∧ ∃ k, Sep w w' (dkT g (s2.rdN k) :: cellsT gj (jC g 2 n F ((F + i : Nat) : Int)) 134 :: [])) from by
        refine (HSb.out.replay HH.out (fun j hj => HB1.out j (by rw [HTN.out] at hj; exact hj)) 2 n F (by have := HNN.out; omega) (by have := HNN.out; omega) (by have := HNN.out; rw [HTN.out]; omega) (by have := HNN.out; omega)).mono ?_
        rintro e w' ⟨A', c', l, k, hl, hk, he, hS⟩
        rw [HR1.out] at hl
        have hm : l.length = A := by rw [hl, rowsJ_len]; omega
        rw [hm] at he
        exact ⟨A', c', he, k, hS.drop⟩)
      have HRB := Aside0.mk (fun (W : World) (k : Nat) (h : Sep w W (dkT g (s2.rdN k) :: cellsT gj (jC g 2 n F ((F + i : Nat) : Int)) 134 :: [])) => (show Calls Tryd.prog 37 #[.pointer (some ⟨g, 0, none⟩), .int .i64 2, .int .i64 (n : Int), .int .i64 ((F : Int) + (A : Int) + 1)] W (fun e w' => ∃ (A' : Option Addr) (c' m : Nat), (m : Int) = (i : Int) - (A : Int) - 1 ∧ e = .returned (.tuple #[.slice A' m c', .int .i64 0]) ∧ Below w.heap.size w w') from by
        refine (h.replay HH.out (fun j hj => by rw [DS.rdN_cur]; exact HB1.out j (by rw [DS.rdN_n, HTN.out] at hj; exact hj)) 2 n (F + A + 1) (by have := HNN.out; omega) (by have := HNN.out; omega) (by have := HNN.out; rw [DS.rdN_n, HTN.out]; omega) (by have := HNN.out; omega)).mono ?_
        rintro e w' ⟨A', c', l, k, hl, hk, he, hS⟩
        rw [DS.rdN_cur, HR2.out] at hl
        have hm : l.length = F + i - (F + A + 1) := by rw [hl, rowsJ_len]
        rw [hm] at he
        exact ⟨A', c', _, by have := HNN.out; omega, he, hS.below⟩))
      go_upto_region 24 with (first
        | (go_at_call 37; (with_reducible refine HRA.out.mono ?_); rintro e wc ⟨A5, c5, rfl, k5, h5⟩; have HSc := Aside0.mk h5; clear h5)
        | (go_at_call 37; (with_reducible refine (HRB.out _ _ HSc.out).mono ?_); rintro e wd2 ⟨A6, c6, m6, hm6, rfl, hb⟩; have HBd := Aside0.mk hb; clear hb))
      go_wp2
      go_ret
      exact ⟨rfl, HBd.out⟩
theorem journalBit_pure (a0 a1 a2 a3 a4 : Int) (h0 : (Lit.int .i64 a0).wf = true) (h1 : (Lit.int .i64 a1).wf = true) (h2 : (Lit.int .i64 a2).wf = true) (h3 : (Lit.int .i64 a3).wf = true) (h4 : (Lit.int .i64 a4).wf = true) : ∃ k : Nat, true = true := ⟨0, rfl⟩
theorem journalBit_row (k : Nat) (a0 a1 a2 a3 a4 : Int) (r : Bool) (w : World) (hG : Wr.Half w) (h : r = true) :
    Calls Tryd.prog 10 #[.int .i64 a0, .int .i64 a1, .int .i64 a2, .int .i64 a3, .int .i64 a4] w fun e w' => e = .returned (.bool r) ∧ Below w.heap.size w w' := by
  subst h
  exact bit10 a0 a1 a2 a3 a4 w hG
end Go.Proofs.YtagodmmpkapgnaaDoor.M

namespace Go.Proofs.YtagodmmpkapgnaaDoor.journalBit
open Go.ChangeShapes Go.WideShapes Go.ChangeAt Go.RowKit Go.Proofs.YtagodmmpkapgnaaDoorW.PrintWords Go.Proofs.YtagodmmpkapgnaaDoorW.PrintLast Go.Proofs.YtagodmmpkapgnaaDoorW.PrintMore Go.Proofs.YtagodmmpkapgnaaDoor.P Go.Proofs.YtagodmmpkapgnaaDoor.M Go.Proofs.YtagodmmpkapgnaaDoor.Wr Go.Proofs.YtagodmmpkapgnaaDoor.Pl Go.Proofs.YtagodmmpkapgnaaDoor.A
set_option linter.unusedVariables false
theorem own : ownKnob Tryd.prog.godebug = none := by kernel_rfl
theorem laidOut : laidOutB Tryd.prog = true := by kernel_rfl
theorem gTab : Tryd.prog.globalNamed "kiln/wire.half" = some 0 := by kernel_rfl
theorem gTabType : (Tryd.prog.globals[0]?).map (·.type) = some 165 := by kernel_rfl
theorem cellsTab : Tryd.prog.cellsOf 165 = 16 := by kernel_rfl
theorem cells124 : Tryd.prog.cellsOf 124 = 1 := by kernel_rfl
theorem half_of {W : World} (h : laidMetH Tryd.prog Rows.journalBitRow.laid W) : Wr.Half W := by
  have t : Lib.TabIs Tryd.prog W "kiln/wire.half" .u32 [0, 498536548, 997073096, 651767980, 1994146192, 1802195444, 1303535960, 1342533948, 3988292384, 4027552580, 3604390888, 3412177804, 2607071920, 2262029012, 2685067896, 3183342108] := Lib.tabIs_of_head (rest := []) gTab gTabType Tryd.underlying165 Tryd.underlying124 cells124 cellsTab h
  intro i hi
  have hc := t.cell gTab i (by simpa using hi)
  have e : ∀ j : Fin 16, ([0, 498536548, 997073096, 651767980, 1994146192, 1802195444, 1303535960, 1342533948, 3988292384, 4027552580, 3604390888, 3412177804, 2607071920, 2262029012, 2685067896, 3183342108] : List Int)[j.1]? = some ((halfL.getD j.1 0 : Nat) : Int) := by decide
  have e2 := e ⟨i, hi⟩
  first
  | (rw [List.getD_eq_getElem?_getD, e2] at hc; exact hc)
  | (rw [List.getElem?_eq_some_iff] at e2; obtain ⟨_, e3⟩ := e2; rw [e3] at hc; exact hc)
def IsRow (k : IntKind) (w : World) (a : Option Addr) (len cap : Nat) (zs : List Int) : Prop :=
  (a = none ∧ len = 0 ∧ cap = 0 ∧ zs = []) ∨
  ∃ x, a = some x ∧ len ≤ cap ∧ cap ≤ maxLen ∧ zs.length = cap ∧ (∀ i, i < zs.length → w.cell? (x.add i) = some (.int k (zs.getD i 0))) ∧ ∀ n ∈ zs, (Lit.int k n).wf = true
set_option maxRecDepth 100000 in
theorem contract (H : Type) (enc : TypeId × Value → H) (W : World) (base : Nat) (args : Array Value) (ds gs : List (DataW H)) (before : List MemPlace)
    (hval : ∀ (j : Nat) t v, Tryd.f10.params[j]? = some t → args[j]? = some v → Value.okWide Tryd.prog W .any base t v)
    (hW : DataW.Whole enc Tryd.prog Tryd.f10.params.toList Rows.journalBitSpec.vars false W args.toList ds gs before)
    (hsz0 : (DataW.weightsEach Tryd.prog (Tryd.f10.params.toList ++ Rows.journalBitSpec.plain.varTypes Tryd.prog) (ds ++ gs)).all (· ≤ reachBytes) = true)
    (hL : laidMetH Tryd.prog Rows.journalBitRow.laid W) :
    Calls Tryd.prog 10 args W fun e W' => ∃ v, e = .returned v ∧ Rows.journalBitSpec.post enc Tryd.prog Tryd.f10 false true false false W args v W' := by
  have hG := half_of hL
  have hW' := hW
  have hsz : (DataW.weightsEach Tryd.prog (Tryd.f10.params.toList ++ Rows.journalBitSpec.plain.varTypes Tryd.prog) (ds ++ gs)).all (· ≤ reachBytes) = true := hsz0
  obtain ⟨p, q, hA0, hV, rfl, hfz, hnd⟩ := hW
  have hA : DataW.TrodAll enc Tryd.prog W 0 (fun _ => true) true Tryd.f10.params.toList args.toList ds p := hA0
  rw [Tryd.params10] at hA hval hsz
  obtain ⟨v0, vs0, d0, ds0, p0, q0, hargs, rfl, rfl, h0, r0⟩ := trodAll_cons hA
  obtain ⟨v1, vs1, d1, ds1, p1, q1, rfl, rfl, rfl, h1, r1⟩ := trodAll_cons r0
  obtain ⟨v2, vs2, d2, ds2, p2, q2, rfl, rfl, rfl, h2, r2⟩ := trodAll_cons r1
  obtain ⟨v3, vs3, d3, ds3, p3, q3, rfl, rfl, rfl, h3, r3⟩ := trodAll_cons r2
  obtain ⟨v4, vs4, d4, ds4, p4, q4, rfl, rfl, rfl, h4, r4⟩ := trodAll_cons r3
  obtain ⟨rfl, rfl, rfl⟩ := trodAll_nil r4
  obtain rfl : args = #[v0, v1, v2, v3, v4] := by cases args; simp_all
  obtain ⟨rfl, rfl⟩ := trodVars_none hV
  obtain ⟨a0, rfl, rfl, rfl, w0⟩ := open_int Tryd.underlying3 (hval 0 3 v0 rfl rfl) h0
  obtain ⟨a1, rfl, rfl, rfl, w1⟩ := open_int Tryd.underlying3 (hval 1 3 v1 rfl rfl) h1
  obtain ⟨a2, rfl, rfl, rfl, w2⟩ := open_int Tryd.underlying3 (hval 2 3 v2 rfl rfl) h2
  obtain ⟨a3, rfl, rfl, rfl, w3⟩ := open_int Tryd.underlying3 (hval 3 3 v3 rfl rfl) h3
  obtain ⟨a4, rfl, rfl, rfl, w4⟩ := open_int Tryd.underlying3 (hval 4 3 v4 rfl rfl) h4
  clear hA0 hsz0 hsz
  obtain ⟨k, h⟩ := M.journalBit_pure a0 a1 a2 a3 a4 w0 w1 w2 w3 w4
  refine (M.journalBit_row k a0 a1 a2 a3 a4 true W  hG h).mono ?_
  rintro e W' ⟨rfl, bel⟩
  exact ⟨_, rfl, _, _, _, [], _, [], hW', trodAll_mk1 (shut_bool Tryd.underlying4 _), (trodAll_cons_mk (shut_int Tryd.underlying3 w0) (trodAll_cons_mk (shut_int Tryd.underlying3 w1) (trodAll_cons_mk (shut_int Tryd.underlying3 w2) (trodAll_cons_mk (shut_int Tryd.underlying3 w3) (trodAll_cons_mk (shut_int Tryd.underlying3 w4) trodAll_mk0))))), rfl, bel.frame _, fun h => by cases h⟩
noncomputable def laidWorld (os : Os) : World :=
  { World.holding Tryd.prog os ⟨#[], #[], []⟩ with heap := (World.holding Tryd.prog os ⟨#[], #[], []⟩).heap.modify 0 fun
      | .cells _ t frozen => .cells #[.int .u32 0, .int .u32 498536548, .int .u32 997073096, .int .u32 651767980, .int .u32 1994146192, .int .u32 1802195444, .int .u32 1303535960, .int .u32 1342533948, .int .u32 3988292384, .int .u32 4027552580, .int .u32 3604390888, .int .u32 3412177804, .int .u32 2607071920, .int .u32 2262029012, .int .u32 2685067896, .int .u32 3183342108] t frozen
      | o => o }
set_option maxRecDepth 100000 in
theorem laid_met (os : Os) : laidMet Tryd.prog Rows.journalBitRow.laid ((laidWorld os).forCall (fun _ _ => 0) ⟨#[], #[.int .i64 0, .int .i64 0, .int .i64 0, .int .i64 0, .int .i64 0], []⟩).memory :=
  laidMet_of_run' 8 (by kernel_rfl) (by kernel_rfl)
set_option maxRecDepth 100000 in
theorem reads (os : Os) {H : Type} (enc : TypeId × Value → H) : ∃ places, DataW.whole enc Tryd.prog ((laidWorld os).forCall (fun _ _ => 0) ⟨#[], #[.int .i64 0, .int .i64 0, .int .i64 0, .int .i64 0, .int .i64 0], []⟩).memory Tryd.f10.params.toList Rows.journalBitSpec.vars false (#[.int .i64 0, .int .i64 0, .int .i64 0, .int .i64 0, .int .i64 0] : Array Value).toList 8 = some ([.lit (.int .i64 0), .lit (.int .i64 0), .lit (.int .i64 0), .lit (.int .i64 0), .lit (.int .i64 0)], [], places) :=
  ⟨[], by kernel_rfl⟩
set_option maxRecDepth 100000 in
theorem lifted (os : Os) (started : os.Started) (H : Type) (enc : TypeId × Value → H) (F : Stop.Interp) :
    ReturnsInHanded {} Tryd.checked os 10 .any ((OpenSpec.ofChange Rows.journalBitSpec).preRow enc Tryd.prog Tryd.f10 Rows.journalBitRow.domain false Rows.journalBitRow.laid) (((OpenSpec.ofChange Rows.journalBitSpec).at F).post enc Tryd.prog Tryd.f10 false true false false) := by
  obtain ⟨places, hx⟩ := reads os enc
  refine returnsInHanded_of_row (C := Tryd.checked) (s := OpenSpec.ofChange Rows.journalBitSpec) own started (by kernel_rfl) Tryd.func10
    (witness_row_at (enc := enc) (C := Tryd.checked) false (laidWorld os) #[.int .i64 0, .int .i64 0, .int .i64 0, .int .i64 0, .int .i64 0] rfl (by kernel_rfl) (by kernel_rfl) (by kernel_rfl)
      (OpenSpec.preRow_of_cond 8 hx (by kernel_rfl) (fun k hk => by cases hk) (by kernel_rfl) (laid_met os))) ?_
  intro W base args ds gs before hval hW _ hcond hsz hL _ _
  exact contract H enc W base args ds gs before hval hW hsz hL
set_option maxRecDepth 100000 in
theorem said : Rows.JournalBitSaid :=
  OpenClaim.holds_of_cond 10 Tryd.f10 rfl rfl rfl rfl rfl rfl rfl ⟨rfl, rfl, rfl, rfl, rfl⟩ rfl rfl rfl rfl rfl (by kernel_rfl) Tryd.func10 (by kernel_rfl)
    (of_decide_eq_true (by kernel_rfl)) (by unfold Func.isWrapper; first | (rw [if_pos (by decide +kernel)]; kernel_rfl) | (rw [if_neg (by decide +kernel)]; exact ⟨rfl, rfl⟩))
    (fun os started H enc _ F => by rw [OpenClaim.pre_eq_preRow]; exact lifted os started H enc F)
theorem plain (f : FuncId) (fn : Func) (hf : Tryd.pinned.checked.prog.funcNamed "kiln/kilnlaw17.JournalBit" = some f) (hfn : Tryd.pinned.checked.prog.funcs[f]? = some fn) :
    false = Tryd.pinned.checked.prog.looks [] ∧ ∀ (j : Nat) t, fn.params[j]? = some t → Tryd.pinned.checked.prog.wantsStandIn t = false := by
  obtain rfl : f = 10 := Option.some.inj ((show Tryd.prog.funcNamed "kiln/kilnlaw17.JournalBit" = some 10 by kernel_rfl).symm.trans hf) |>.symm
  obtain rfl : fn = Tryd.f10 := (Option.some.inj (Tryd.func10.symm.trans hfn)).symm
  refine ⟨by kernel_rfl, fun j t ht => ?_⟩
  rw [Tryd.params10] at ht
  have hm : t ∈ [3, 3, 3, 3, 3] := by simpa using Array.mem_of_getElem? ht
  have hall : ([3, 3, 3, 3, 3].all fun u => !Tryd.prog.wantsStandIn u) = true := by kernel_rfl
  exact (show Tryd.prog.wantsStandIn t = false by simpa using List.all_eq_true.1 hall t hm)
set_option maxRecDepth 100000 in
theorem card : Rows.JournalBitCardSaid :=
  Claim7.holds_tied_plain_at .later [] _ _ _ _ said (fun _ h => by cases h) (by kernel_rfl) (fun _ h => by cases h) journalBit_row_tie rfl ⟨rfl, rfl⟩ (by kernel_rfl) rfl plain (by kernel_rfl)
#print axioms card
end Go.Proofs.YtagodmmpkapgnaaDoor.journalBit
namespace Go.Proofs.YtagodmmpkapgnaaDoor
theorem journalBit_card_holds : Rows.JournalBitCardSaid := journalBit.card
end Go.Proofs.YtagodmmpkapgnaaDoor
