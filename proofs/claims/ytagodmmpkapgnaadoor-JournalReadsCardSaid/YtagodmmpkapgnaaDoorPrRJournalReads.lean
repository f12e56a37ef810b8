/- JournalReads: Decode of any bytes, with a right sum too, answers as the document says, and what was handed in is as it was. No condition beyond the statement's own. -/
import Derived.Test.YtagodmmpkapgnaaDoorPrZ2
import Derived.Test.YtagodmmpkapgnaaDoorCards
import Derived.Test.YtagodmmpkapgnaaDoorTie
import Derived.WalkKit
import Derived.ProofKit
import Derived.OpenShut
import Derived.ShutString
import Derived.ChangeOld
import Derived.Below
import Derived.SizedLaws
import Derived.Deep.DeepHandedRow
import Derived.Lib.LaidTab
namespace Go.Proofs.YtagodmmpkapgnaaDoor.M
open Go.RowKit Go.Maps Go.Proofs.YtagodmmpkapgnaaDoorW.PrintWords Go.Proofs.YtagodmmpkapgnaaDoorW.PrintLast Go.Proofs.YtagodmmpkapgnaaDoorW.PrintMore Go.Proofs.YtagodmmpkapgnaaDoor.Wr Go.Proofs.YtagodmmpkapgnaaDoor.Pl Go.Proofs.YtagodmmpkapgnaaDoor.P Go.Proofs.YtagodmmpkapgnaaDoor.A
set_option linter.unusedVariables false
set_option linter.unusedSimpArgs false
def to5_T : Bool × List (List Nat × List Nat) := (true, [([], []), ([0], [0]), ([1], [1]), ([2], [2]), ([3, 2], [2, 3]), ([2, 4], [2, 4]), ([5, 2], [5]), ([6], [6]), ([7, 6], [6, 7]), ([6, 8], [6, 8]), ([9, 6], [9]), ([10], [10]), ([10], [10]), ([11, 12, 10, 10], [10, 11, 12]), ([13, 10], [10, 13]), ([10, 14], [10, 14]), ([15, 13], [15]), ([16], [16]), ([16, 16], [16]), ([17, 18, 18, 16], [16, 17, 18]), ([19, 16], [16, 19]), ([16, 20], [16, 20])])
def to5_B : List Nat := [0, 1, 3, 7, 15, 31, 63, 127, 255, 511, 1023, 2047, 2047, 8191, 16383, 32767, 65535, 131071, 131071, 524287, 1048575, 2097151]
theorem to5_tab : rtab .any (opsOf Tryd.f14 5) = to5_T := by kernel_rfl
theorem to5_bits : waitsOk to5_T.2 to5_B = true := by kernel_rfl
def toD1 : DS := DS.fresh 24 (List.replicate 24 zeros)
def toD2 : DS := (toD1.rdN 1).put 2 (encJ (oneR 0))
theorem toD1_cur {j : Nat} (h : j < 24) : toD1.cur j = zeros := fresh_cur h
theorem toD1_rep : repJ toD1.cur 2 8 8 0 = [] := repJ_none (by rw [show (2 + 0 % 8 : Nat) = 2 from rfl, toD1_cur (by decide)]; exact decJ_zeros)
theorem toD2_cur2 : toD2.flush.cur 2 = encJ (oneR 0) := by rw [flush_cur _ (show 2 < 24 by decide)]; exact put_cur _ _ _
theorem toD2_cur {j : Nat} (h : j < 24) (h2 : j ≠ 2) : toD2.flush.cur j = zeros := by
  rw [flush_cur _ (show j < 24 from h)]
  unfold toD2
  rw [put_cur_ne _ _ h2, DS.rdN_cur]
  exact toD1_cur h
theorem toD2_bytes (j : Nat) (h : j < 24) : bytes_ (toD2.flush.cur j) := by
  by_cases h2 : j = 2
  · subst h2; rw [toD2_cur2]; exact bytes_encJ (one_ok 0) (show 1 ≤ 8 by decide)
  · rw [toD2_cur h h2]; exact zeros_bytes
theorem toD2_rep : repJ toD2.flush.cur 2 8 8 0 = [oneR 0] := by
  rw [repJ_some (r := oneR 0) (by rw [show (2 + 0 % 8 : Nat) = 2 from rfl, toD2_cur2]; exact decJ_enc (one_ok 0) (one_may 0 (by decide) (by decide))) rfl]
  rw [repJ_none (by rw [show (2 + (0 + 1) % 8 : Nat) = 3 from rfl, toD2_cur (by decide) (by decide)]; exact decJ_zeros)]
theorem told_open {w0 w : World} {L : List Th} {g : Nat} (h : Sep w0 w (dkT g toD1 :: L)) (hH : Wr.Half w0) : Calls Tryd.prog 30 #[.pointer (some ⟨g, 0, none⟩), .int .i64 2, .int .i64 8, .int .i64 0] w fun e w' => ∃ gj A c, e = .returned (.tuple #[.pointer (some ⟨gj, 0, none⟩), .slice A 0 c, .int .i64 0]) ∧ Sep w0 w' (cellsT gj (jC g 2 8 0 0) 134 :: dkT g (toD1.rdN 1) :: L) := by
  refine (h.opens hH (fun i hi => by rw [toD1_cur hi]; exact zeros_bytes) 2 8 0 (by decide) (by decide) (show 2 + 8 ≤ 24 by decide) (by decide)).mono ?_
  rintro e w' ⟨gj, A, c, l, k, hl, hk, he, hS⟩
  rw [toD1_rep] at hl
  subst hl
  subst hk
  exact ⟨gj, A, c, he, hS.up1.drop⟩
theorem told_add {w0 w : World} {L : List Th} {gj g : Nat} {A : Option Addr} {c : Nat} (h : Sep w0 w (ownT kRF 69 (.slice A 1 c) (oneR 0).r :: cellsT gj (jC g 2 8 0 0) 134 :: L)) : Calls Tryd.prog 32 #[.pointer (some ⟨gj, 0, none⟩), .agg (nums .u8 (oneR 0).p).toArray, .slice A 1 c] w fun e w' => ∃ gw, e = .returned (.tuple #[.pointer (some ⟨gw, 0, none⟩), .int .i64 0]) ∧ Sep w0 w' (wT gw (newW gj (oneR 0).p (oneR 0).r) :: cellsT gj (jC g 2 8 0 0) 134 :: L) := by
  refine (h.up1.add (by decide) (by decide) (by decide) (by decide) (oneR 0).p rfl (oneR 0).r 1 rfl A c h.own_C.1).mono ?_
  rintro e w' ⟨h1, _⟩
  obtain ⟨gw, he, hS⟩ := h1 ⟨(refsM_iff _).2 ⟨Nat.le_refl _, (show 1 ≤ 8 by decide), (one_may 0 (by decide) (by decide)).r⟩, rfl⟩
  exact ⟨gw, he, hS.up2.drop⟩
theorem told_step1 {w0 w : World} {L : List Th} {gj gw g : Nat} (h : Sep w0 w (wT gw (newW gj (oneR 0).p (oneR 0).r) :: cellsT gj (jC g 2 8 0 0) 134 :: dkT g (toD1.rdN 1) :: L)) (hH : Wr.Half w0) : Calls Tryd.prog 33 #[.pointer (some ⟨gw, 0, none⟩)] w fun e w' => e = .returned (.tuple #[.bool false, .int .i64 0]) ∧ Sep w0 w' (wT gw { newW gj (oneR 0).p (oneR 0).r with nm := 0, wt := true } :: cellsT gj (jC g 2 8 0 1) 134 :: dkT g toD2 :: L) :=
  Sep.step_yes (x := newW gj (oneR 0).p (oneR 0).r) (fr := 2) (n := 8) (st := 0) (nx := 0) h hH rfl rfl (one_ok 0) ((refsM_iff _).2 ⟨Nat.le_refl _, (show 1 ≤ 8 by decide), (one_may 0 (by decide) (by decide)).r⟩) (by decide) (by decide) rfl (by decide) (show 2 + 8 ≤ 24 by decide) (by decide)
theorem told_replay {w0 w : World} {L : List Th} {g : Nat} (h : Sep w0 w (dkT g toD2.flush :: L)) (hH : Wr.Half w0) : Calls Tryd.prog 37 #[.pointer (some ⟨g, 0, none⟩), .int .i64 2, .int .i64 8, .int .i64 0] w fun e w' => ∃ A c, e = .returned (.tuple #[.slice A 1 c, .int .i64 0]) ∧ Sep w0 w' (ownT kRC 26 (.slice A 1 c) [oneR 0] :: L) := by
  refine (h.replay hH toD2_bytes 2 8 0 (by decide) (by decide) (show 2 + 8 ≤ 24 by decide) (by decide)).mono ?_
  rintro e w' ⟨A, c, l, k, hl, hk, he, hS⟩
  rw [toD2_rep] at hl
  subst hl
  subst hk
  exact ⟨A, c, he, hS.up1.drop⟩
set_option maxHeartbeats 16000000 in
set_option maxRecDepth 100000 in
theorem told_calls (w : World) (hH : Wr.Half w) : Calls Tryd.prog 14 #[] w fun e w' => e = .returned (.bool true) ∧ Below w.heap.size w w' := by
  have HH := Aside0.mk hH
  have HS0 := Aside0.mk (Sep.refl w)
  have HONE := Aside0.mk (fun (n : Int) (W : World) => one_calls n W)
  have HOK := Aside0.mk (one_ok 3)
  have HMAY := Aside0.mk (one_may 3 (by decide) (by decide))
  have HBB := Aside0.mk (And.intro (bytes_encJ HOK.out HMAY.out.r8) (encJ_len HOK.out HMAY.out.r8))
  have HE17 := Aside0.mk (fun (W : World) (A : Option Addr) (c : Nat) (M : List Th) (h : Sep w W (ownT kRF 69 (.slice A 1 c) (oneR 3).r :: M)) => encode17_yes (oneR 3) HOK.out HMAY.out A c W h.own_C.1)
  have HE := Aside0.mk (fun (W : World) (A : Option Addr) (c : Nat) (M : List Th) (h : Sep w W (ownT kRF 69 (.slice A 1 c) (oneR 3).r :: M)) => encode_yes (oneR 3) HOK.out HMAY.out A c W (hH.below h.below) h.own_C.1)
  have HDE := Aside0.mk (decJ_enc HOK.out HMAY.out)
  generalize encJ (oneR 3) = b at HBB HE17 HE HDE
  have hz := (zero_of_info (P := Tryd.prog) (t := 26) (v := .agg zRC) (n := 34) (by unfold zRC; kernel_rfl)).1
  have HSZ := Aside0.mk (show (Tryd.prog.info? 26).map (·.size) = some zRC.size from size26 zRC_size)
  have HZs := Aside0.mk zRC_size
  have HZA := Aside0.mk zRC_all
  generalize hZE : zRC = Z at hz HSZ HZs HZA
  have HZE := Aside0.mk hZE
  clear hZE
  have HZC := Aside0.mk (fun (W : World) (A : Option Addr) (c : Nat) (M : List Th) (h : Sep w W (ownT (Kd.int .u8) 5 (.slice A 512 c) zeros :: M)) => (show Calls Tryd.prog 24 #[.slice A 512 c] W (fun e w' => e = .returned (.tuple #[.agg Z, .int .i64 61]) ∧ Below W.heap.size W w') from by
    have h2 := h.own_C
    rw [zeros_len] at h2
    rw [← HZE.out]
    exact decode_none zeros zeros_bytes A 512 c zeros_len h2.2 W (hH.below h.below) h2.1 decJ_zeros))
  clear hH
  go_enter Tryd.func14, Tryd.ntmps14
  go_upto_region 2 with (first
    | (go_at_call 36; (with_reducible refine (HONE.out 3 _).mono ?_); rintro e w1 ⟨A1, c1, rfl, h1⟩; have HS1 := Aside0.mk h1; clear h1)
    | (go_at_call 18; (with_reducible refine (HE17.out _ _ _ _ HS1.out).mono ?_); rintro e w2 ⟨A2, c2, rfl, h2⟩; have HS2 := Aside0.mk ((HS1.out.then_ h2).up1.drop); clear h2))
  go_upto_region 3 with (first
    | (go_at_call 36; (with_reducible refine (HONE.out 3 _).mono ?_); rintro e w3 ⟨A3, c3, rfl, h3⟩; have HS3 := Aside0.mk (HS2.out.then_ h3); clear h3)
    | (go_at_call 17; (with_reducible refine (HE.out _ _ _ _ HS3.out).mono ?_); rintro e w4 ⟨A4, c4, rfl, h4⟩; have HS4 := Aside0.mk ((HS3.out.then_ h4).up1.drop); clear h4))
  clear HS1 HS2 HS3 HS0 HE HE17
  have HC4 := Aside0.mk (show (Kd.int .u8).C w4 A4 512 b ∧ 512 ≤ c4 from by have h := HS4.out.own_C; rwa [HBB.out.2] at h)
  have HC2 := Aside0.mk (show (Kd.int .u8).C w4 A2 512 b ∧ 512 ≤ c2 from by have h := HS4.out.up1.own_C; rwa [HBB.out.2] at h)
  have HDC := Aside0.mk (decode_some b HBB.out.1 A2 512 c2 HBB.out.2 HC2.out.2 w4 (HH.out.below HS4.out.below) HC2.out.1 (oneR 3) HDE.out)
  have HSV := Aside0.mk (fun A c => RC.size HOK.out A c)
  have HAV := Aside0.mk (fun A c => RC.V_all (oneR 3) A c)
  have HVS := Aside0.mk (fun A c => (show ((oneR 3).V A c).toArray.size = 34 from by simpa using RC.V_len HOK.out A c))
  have HSM := Aside0.mk (fun (W : World) (t u : Th) (h : Sep w W (t :: u :: ownT (Kd.int .u8) 5 (.slice A4 512 c4) b :: ownT (Kd.int .u8) 5 (.slice A2 512 c2) b :: [])) => (show Calls Tryd.prog 19 #[.slice A4 512 c4, .slice A2 512 c2] W (fun e w' => e = .returned (.bool true) ∧ Below W.heap.size W w') from by
    have h4 := h.up2.own_C; have h2 := h.up3.own_C
    rw [HBB.out.2] at h4 h2
    have h5 := same19 h4.1 h2.1 HBB.out.2 HBB.out.2 h4.2 h2.2 (by decide)
    rwa [decide_eq_true (rfl : b = b)] at h5))
  go_upto_region 4 with (first
    | (go_at_call 24; (with_reducible refine HDC.out.mono ?_); rintro e w5 ⟨A5, c5, rfl, h5⟩; have HS5 := Aside0.mk (HS4.out.then_ h5); clear h5; generalize hV : ((oneR 3).V A5 c5).toArray = V3; have HV := Aside0.mk hV; have HSV3 := Aside0.mk (HSV.out A5 c5); have HAV3 := Aside0.mk (HAV.out A5 c5); have HVS3 := Aside0.mk (HVS.out A5 c5); rw [hV] at HSV3 HAV3 HVS3; clear hV)
    | ((with_reducible refine gate_store (ty := 26) rfl ?_); refine Sep.store_own rfl 26 _ _ rfl rfl rfl (HS5.out.push_alloc Z 26) HSV3.out (HZs.out.trans HVS3.out.symm) HAV3.out ?_; intro w6 h6; have HS6 := Aside0.mk h6; clear h6))
  generalize w5.heap.size = g5 at HS6 ⊢
  clear HS5 HS4 HC4 HC2 HDC HDE
  go_upto_region 5 with (first
    | (at_make; refine Kd.R_make (Kd.int .u8) (w0 := w6) w6.heap.size 5 rfl (N := 33) rfl 29 (.const (.int .i64 512)) (.const (.int .i64 512)) rfl (512 : Int) rfl rfl Tryd.underlying29 (.int .u8 0) 1 info_u8 rfl (by decide) (by decide) 0 (ok := fun _ => True) (okp := fun _ => True) rfl (fun _ h => h) trivial (by decide) (by decide) (Below.refl _ _) (Nat.le_refl _) ?_; intro v7 w7 hr hb hg hat; have hS7 := HS6.out.push_own (xs := zeros) hr hb; have HS7 := Aside0.mk hS7; clear hr hb hg hat hS7; obtain ⟨A7, c7, rfl⟩ := HS7.out.own_slice; rw [zeros_len] at HS7 ⊢)
    | (go_at_call 24; (with_reducible refine (HZC.out _ _ _ _ HS7.out).mono ?_); rintro e w8 ⟨rfl, hb⟩; have HS8 := Aside0.mk (HS7.out.drop.step hb); clear hb)
    | ((with_reducible refine gate_store (ty := 26) rfl ?_); refine Sep.store_own rfl 26 _ _ rfl rfl rfl (HS8.out.push_alloc Z 26) HSZ.out rfl HZA.out ?_; intro w9 h9; have HS9 := Aside0.mk h9.drop; clear h9))
  clear HS6 HS7 HS8 hz HZC
  have HHS := Aside0.mk (fun (W : World) (M : List Th) (h : Sep w W (cellsT g5 V3 26 :: M)) => (show ∀ j v, V3.toList[j]? = some v → W.cell? ((⟨g5, 0, none⟩ : Addr).add j) = some v from fun j v hv => seg_at (cs := V3.toList) h.cells.1 0 V3.toList (by rw [List.drop_zero]; exact List.take_of_length_le (Nat.le_refl _)) j v hv))
  have HSR := Aside0.mk (fun (W : World) (A8 : Option Addr) (c8 : Nat) (M : List Th) (h : Sep w W (ownT kRF 69 (.slice A8 1 c8) (oneR 3).r :: cellsT g5 V3 26 :: ownT kRF 69 (.slice A5 1 c5) (oneR 3).r :: M)) => (show Calls Tryd.prog 27 #[.agg V3, .agg ((oneR 3).V A8 c8).toArray] W (fun e w' => e = .returned (.bool true) ∧ Below W.heap.size W w') from by
    have h2 := sameRecord (oneR 3) HOK.out 1 rfl A5 A8 c5 c8 W h.up2.own_C.1 h.own_C.1
    rw [HV.out] at h2
    exact h2))
  have HSx := Aside0.mk (HS9.out.step (below_drew1 (Below.refl w9.heap.size w9)))
  clear HS9
  refine start_ (n := 22) (S := fun W => ∀ j v, V3.toList[j]? = some v → W.cell? ((⟨g5, 0, none⟩ : Addr).add j) = some v) (ds := []) (bb 22 0) (by kernel_rfl) rfl rfl (HHS.out _ _ HSx.out) (fun hHeld => ?_); refine with_tabW to5_tab to5_bits (fun HT_ HW_ => ?_)
  generalize w9.drew = wd at hHeld HSx ⊢
  refine pure_ (i := 0) (N := (some 37)) (v := ?_) (a' := ?_) (bb 22 1) rfl rfl (any_of HT_.out (by kernel_rfl)) (fun _ _ _ h => h) (Or.inl ⟨by rfl, ?_⟩) ?_ ?_
  rotate_left
  · intro w'
    go_simp
    with_reducible rfl
  rotate_left
  · simp only [Act.put, List.setIfInBounds_toArray, List.set_cons_zero, List.set_cons_succ, i64_w, i32_w]
    rfl
  refine pure_ (i := 1) (N := (some 38)) (v := ?_) (a' := ?_) (bb 22 3) rfl rfl (any_of HT_.out (by kernel_rfl)) (fun _ _ _ h => h) (Or.inl ⟨by rfl, ?_⟩) ?_ ?_
  rotate_left
  · intro w'
    go_simp
    with_reducible rfl
  rotate_left
  · simp only [Act.put, List.setIfInBounds_toArray, List.set_cons_zero, List.set_cons_succ, i64_w, i32_w]
    rfl
  refine pure_ (i := 2) (N := (some 39)) (v := ?_) (a' := ?_) (bb 22 7) rfl rfl (any_of HT_.out (by kernel_rfl)) (fun _ _ _ h => h) (Or.inl ⟨by rfl, ?_⟩) ?_ ?_
  rotate_left
  · intro w'
    go_simp
    with_reducible rfl
  rotate_left
  · simp only [Act.put, List.setIfInBounds_toArray, List.set_cons_zero, List.set_cons_succ, i64_w, i32_w]
    rfl
  refine pure_ (i := 3) (N := (some 40)) (v := ?_) (a' := ?_) (bb 22 15) rfl rfl (any_of HT_.out (by kernel_rfl)) (fun _ _ _ h => h) (Or.inl ⟨by rfl, ?_⟩) ?_ ?_
  rotate_left
  · intro w'
    go_simp
    with_reducible rfl
  rotate_left
  · simp only [Act.put, List.setIfInBounds_toArray, List.set_cons_zero, List.set_cons_succ, i64_w, i32_w]
    rfl
  refine pure_ (i := 4) (N := (some 41)) (v := ?_) (a' := ?_) (bb 22 31) rfl rfl (any_of HT_.out (by kernel_rfl)) (fun _ _ _ h => h) (Or.inl ⟨by rfl, ?_⟩) ?_ ?_
  rotate_left
  · intro w'
    go_simp
    with_reducible rfl
  rotate_left
  · simp only [Act.put, List.setIfInBounds_toArray, List.set_cons_zero, List.set_cons_succ, i64_w, i32_w]
    rfl
  refine pure_ (i := 5) (N := (some 42)) (v := ?_) (a' := ?_) (bb 22 63) rfl rfl (any_of HT_.out (by kernel_rfl)) (fun _ _ _ h => h) (Or.inl ⟨by rfl, ?_⟩) ?_ ?_
  rotate_left
  · intro w'
    go_simp
    with_reducible rfl
  rotate_left
  · simp only [Act.put, List.setIfInBounds_toArray, List.set_cons_zero, List.set_cons_succ, i64_w, i32_w]
    rfl
  refine pure_ (i := 6) (N := (some 43)) (v := ?_) (a' := ?_) (bb 22 127) rfl rfl (any_of HT_.out (by kernel_rfl)) (fun _ _ _ h => h) (Or.inl ⟨by rfl, ?_⟩) ?_ ?_
  rotate_left
  · intro w'
    go_simp
    with_reducible rfl
  rotate_left
  · simp only [Act.put, List.setIfInBounds_toArray, List.set_cons_zero, List.set_cons_succ, i64_w, i32_w]
    rfl
  refine pure_ (i := 7) (N := (some 44)) (v := ?_) (a' := ?_) (bb 22 255) rfl rfl (any_of HT_.out (by kernel_rfl)) (fun _ _ _ h => h) (Or.inl ⟨by rfl, ?_⟩) ?_ ?_
  rotate_left
  · intro w'
    go_simp
    with_reducible rfl
  rotate_left
  · simp only [Act.put, List.setIfInBounds_toArray, List.set_cons_zero, List.set_cons_succ, i64_w, i32_w]
    rfl
  refine pure_ (i := 8) (N := (some 45)) (v := ?_) (a' := ?_) (bb 22 511) rfl rfl (any_of HT_.out (by kernel_rfl)) (fun _ _ _ h => h) (Or.inl ⟨by rfl, ?_⟩) ?_ ?_
  rotate_left
  · intro w'
    go_simp
    with_reducible rfl
  rotate_left
  · simp only [Act.put, List.setIfInBounds_toArray, List.set_cons_zero, List.set_cons_succ, i64_w, i32_w]
    rfl
  refine pure_ (i := 9) (N := (some 46)) (v := ?_) (a' := ?_) (bb 22 1023) rfl rfl (any_of HT_.out (by kernel_rfl)) (fun _ _ _ h => h) (Or.inl ⟨by rfl, ?_⟩) ?_ ?_
  rotate_left
  · intro w'
    go_simp
    with_reducible rfl
  rotate_left
  · simp only [Act.put, List.setIfInBounds_toArray, List.set_cons_zero, List.set_cons_succ, i64_w, i32_w]
    rfl
  refine pure_ (i := 10) (N := (some 47)) (v := ?_) (a' := ?_) (bb 22 2047) rfl rfl (any_of HT_.out (by kernel_rfl)) (fun _ _ _ h => h) (Or.inl ⟨by rfl, ?_⟩) ?_ ?_
  rotate_left
  · intro w'
    go_simp
    with_reducible rfl
  rotate_left
  · simp only [Act.put, List.setIfInBounds_toArray, List.set_cons_zero, List.set_cons_succ, i64_w, i32_w]
    rfl
  refine pure_ (i := 11) (N := (some 48)) (v := ?_) (a' := ?_) (bb 22 4095) rfl rfl (any_of HT_.out (by kernel_rfl)) (fun _ _ _ h => h) (Or.inl ⟨by rfl, ?_⟩) ?_ ?_
  rotate_left
  · intro w'
    go_simp
    with_reducible rfl
  rotate_left
  · simp only [Act.put, List.setIfInBounds_toArray, List.set_cons_zero, List.set_cons_succ, i64_w, i32_w]
    rfl
  refine pure_ (i := 12) (N := (some 49)) (v := ?_) (a' := ?_) (bb 22 8191) rfl rfl (any_of HT_.out (by kernel_rfl)) (fun _ _ _ h => h) (Or.inl ⟨by rfl, ?_⟩) ?_ ?_
  rotate_left
  · intro w'
    go_simp
    with_reducible rfl
  rotate_left
  · simp only [Act.put, List.setIfInBounds_toArray, List.set_cons_zero, List.set_cons_succ, i64_w, i32_w]
    rfl
  refine one_ (i := 13) (N := (some 50)) (bb 22 16383) rfl rfl (one_of HT_.out (by kernel_rfl)) (by decide) (fun K hK => ?_)
  refine goes_ Tryd.func19 (by kernel_rfl) rfl #[.slice A4 512 c4, .slice A2 512 c2] (by rfl) rfl rfl (by (try simp only [List.map_toArray, List.map_cons, List.map_nil]); first | done | rfl) ?_
  with_reducible refine (HSM.out _ _ _ HSx.out).mono ?_
  rintro e wa ⟨rfl, hb⟩
  have HSa := Aside0.mk (HSx.out.step hb)
  clear hb
  refine ⟨_, rfl, ?_⟩
  refine hK.out _ _ (HHS.out _ _ HSa.out) (fun hHeld => ?_)
  clear hK K
  refine norm_ (a' := ?_) ?_ ?_
  rotate_left
  · show Act.put _ (some 50) _ = _
    simp only [Act.put, List.setIfInBounds_toArray, List.set_cons_zero, List.set_cons_succ, i64_w, i32_w]
    rfl
  refine pure_ (i := 14) (N := (some 51)) (v := ?_) (a' := ?_) (bb 22 32767) rfl rfl (any_of HT_.out (by kernel_rfl)) (fun _ _ _ h => h) (Or.inl ⟨by rfl, ?_⟩) ?_ ?_
  rotate_left
  · intro w'
    go_simp
    with_reducible rfl
  rotate_left
  · simp only [Act.put, List.setIfInBounds_toArray, List.set_cons_zero, List.set_cons_succ, i64_w, i32_w]
    rfl
  refine pure_ (i := 15) (N := (some 52)) (v := ?_) (a' := ?_) (bb 22 65535) rfl rfl (any_of HT_.out (by kernel_rfl)) (fun _ _ _ h => h) (Or.inl ⟨by rfl, ?_⟩) ?_ ?_
  rotate_left
  · intro w'
    go_simp
    with_reducible rfl
  rotate_left
  · simp only [Act.put, List.setIfInBounds_toArray, List.set_cons_zero, List.set_cons_succ, i64_w, i32_w]
    rfl
  refine pure_ (i := 16) (N := (some 53)) (v := ?_) (a' := ?_) (bb 22 131071) rfl rfl (any_of HT_.out (by kernel_rfl)) (fun _ _ _ h => h) (Or.inl ⟨by rfl, ?_⟩) ?_ ?_
  rotate_left
  · intro w'
    go_simp
    with_reducible rfl
  rotate_left
  · simp only [Act.put, List.setIfInBounds_toArray, List.set_cons_zero, List.set_cons_succ, i64_w, i32_w]
    rfl
  refine take_ (i := 17) (N := (some 54)) (v := .agg V3) (a' := ?_) (bb 22 262143) rfl rfl (take_ofW HT_.out HW_.out (by kernel_rfl)) (fun _ _ _ h => h) (Or.inl ⟨by rfl, fun w' s0 => yields_ld 26 _ rfl ⟨g5, 0, none⟩ rfl V3 _ s0 Tryd.underlying26 rfl HSV3.out⟩) hHeld ?_ ?_
  rotate_left
  · simp only [Act.put, List.setIfInBounds_toArray, List.set_cons_zero, List.set_cons_succ, i64_w, i32_w]
    rfl
  refine one_ (i := 18) (N := (some 55)) (bb 22 524287) rfl rfl (one_of HT_.out (by kernel_rfl)) (by decide) (fun K hK => ?_)
  refine goes_ Tryd.func36 (by kernel_rfl) rfl #[.int .i64 3] (by rfl) rfl rfl (by (try simp only [List.map_toArray, List.map_cons, List.map_nil]); first | done | rfl) ?_
  with_reducible refine (HONE.out 3 _).mono ?_
  rintro e wb ⟨Ab, cb, rfl, hb⟩
  have HSb := Aside0.mk (HSa.out.then_ hb)
  clear hb
  refine ⟨_, rfl, ?_⟩
  refine hK.out _ _ (HHS.out _ _ HSb.out.up1) (fun hHeld => ?_)
  clear hK K
  refine norm_ (a' := ?_) ?_ ?_
  rotate_left
  · show Act.put _ (some 55) _ = _
    simp only [Act.put, List.setIfInBounds_toArray, List.set_cons_zero, List.set_cons_succ, i64_w, i32_w]
    rfl
  refine one_ (i := 19) (N := (some 56)) (bb 22 1048575) rfl rfl (one_of HT_.out (by kernel_rfl)) (by decide) (fun K hK => ?_)
  refine goes_ Tryd.func27 (by kernel_rfl) rfl #[.agg V3, .agg ((oneR 3).V Ab cb).toArray] (by rfl) rfl rfl (by (try simp only [List.map_toArray, List.map_cons, List.map_nil]); first | done | rfl) ?_
  with_reducible refine (HSR.out _ _ _ _ HSb.out).mono ?_
  rintro e wc ⟨rfl, hb⟩
  have HSc := Aside0.mk (HSb.out.step hb)
  clear hb
  refine ⟨_, rfl, ?_⟩
  refine hK.out _ _ (HHS.out _ _ HSc.out.up1) (fun hHeld => ?_)
  clear hK K
  refine norm_ (a' := ?_) ?_ ?_
  rotate_left
  · show Act.put _ (some 56) _ = _
    simp only [Act.put, List.setIfInBounds_toArray, List.set_cons_zero, List.set_cons_succ, i64_w, i32_w]
    rfl
  refine pure_ (i := 20) (N := (some 57)) (v := ?_) (a' := ?_) (bb 22 2097151) rfl rfl (any_of HT_.out (by kernel_rfl)) (fun _ _ _ h => h) (Or.inl ⟨by rfl, ?_⟩) ?_ ?_
  rotate_left
  · intro w'
    go_simp
    with_reducible rfl
  rotate_left
  · simp only [Act.put, List.setIfInBounds_toArray, List.set_cons_zero, List.set_cons_succ, i64_w, i32_w]
    rfl
  refine pure_ (i := 21) (N := (some 58)) (v := ?_) (a' := ?_) (bb 22 4194303) rfl rfl (any_of HT_.out (by kernel_rfl)) (fun _ _ _ h => h) (Or.inl ⟨by rfl, ?_⟩) ?_ ?_
  rotate_left
  · intro w'
    go_simp
    with_reducible rfl
  rotate_left
  · simp only [Act.put, List.setIfInBounds_toArray, List.set_cons_zero, List.set_cons_succ, i64_w, i32_w]
    rfl
  refine done_ (done_of HT_.out (by kernel_rfl)) ?_
  clear hHeld HT_ HW_ HSx HSa HSb HSM HSR HHS HSV3 HAV3 HVS3 HV HSV HAV HVS HBB HOK HMAY
  have HSn := Aside0.mk (Sep.start HSc.out.below)
  clear HSc
  have HNW := Aside0.mk (fun (W : World) (h : Sep w W []) => (show Calls Tryd.prog 29 #[.int .i64 24] W (fun e w' => ∃ g, e = .returned (.tuple #[.pointer (some ⟨g, 0, none⟩), .int .i64 0]) ∧ Sep w w' [dkT g toD1]) from h.new 24 (by decide) (by decide)))
  have HOK := Aside0.mk (one_ok 0)
  have HFP := Aside0.mk (fun A c W => field26_1 (oneR 0) rfl A c W)
  have HFR := Aside0.mk (fun (A : Option Addr) (c : Nat) (W : World) => (show (Instr.field 26 (.agg ((oneR 0).V A c).toArray) 2).run Tryd.prog W = .ok (.slice A 1 c) W from field26_2 (oneR 0) rfl A c W))
  go_upto_region 13 with (first
    | (go_at_call 29; (with_reducible refine (HNW.out _ HSn.out).mono ?_); rintro e w10 ⟨g, rfl, h1⟩; have HSd := Aside0.mk h1; clear h1)
    | (go_at_call 30; (with_reducible refine (told_open HSd.out HH.out).mono ?_); rintro e w11 ⟨gj, A11, c11, rfl, h1⟩; have HSe := Aside0.mk h1; clear h1))
  clear HSn HSd HNW
  go_upto_region 14 with (first
    | (go_at_call 36; (with_reducible refine (HONE.out 0 _).mono ?_); rintro e w13 ⟨An, cn, rfl, h1⟩; have HSg := Aside0.mk ((HSf.out.then_ h1).up1.drop); clear h1)
    | (go_at_call 32; (with_reducible refine (told_add HSg.out).mono ?_); rintro e w14 ⟨gw, rfl, h1⟩; have HSh := Aside0.mk h1; clear h1)
    | (go_at_call 36; (with_reducible refine (HONE.out 0 _).mono ?_); rintro e w12 ⟨Am, cm, rfl, h1⟩; have HSf := Aside0.mk (HSe.out.then_ h1); clear h1)
    | ((with_reducible refine gate_field (ty := 26) (f := 1) rfl ?_); refine wpList_fieldw rfl 26 _ 1 rfl _ _ rfl (HFP.out _ _ _) ?_)
    | ((with_reducible refine gate_field (ty := 26) (f := 2) rfl ?_); refine wpList_fieldw rfl 26 _ 2 rfl _ _ rfl (HFR.out _ _ _) ?_))
  clear HSe HSf HSg HFP HFR
  go_upto_region 18 with (first
    | (go_at_call 33; (with_reducible refine (told_step1 HSh.out HH.out).mono ?_); rintro e w15 ⟨rfl, h1⟩; have HSi := Aside0.mk h1; clear h1 HSh)
    | (go_at_call 33; (with_reducible refine (HSi.out.step_flush rfl rfl).mono ?_); rintro e w16 ⟨rfl, h1⟩; have HSj := Aside0.mk h1; clear h1 HSi))
  have HSk := Aside0.mk (show Sep w w16 (dkT g toD2.flush :: cellsT gj (jC g 2 8 0 1) 134 :: []) from HSj.out.drop.up1)
  clear HSj
  go_upto_region 19 with (go_at_call 37; (with_reducible refine (told_replay HSk.out HH.out).mono ?_); rintro e w17 ⟨Ar, cr, rfl, h1⟩; have HSl := Aside0.mk h1; clear h1)
  clear HSk
  have HSA := Aside0.mk (fun (W : World) (A1 A2 : Option Addr) (c1 c2 : Nat) (M : List Th) (h : Sep w W (ownT kRC 26 (.slice A2 1 c2) [oneR 0] :: ownT kRC 26 (.slice A1 1 c1) [oneR 0] :: M)) => sameAll [oneR 0] 1 rfl A1 A2 c1 c2 W h.up1.own_C.1 h.own_C.1)
  have HVS := Aside0.mk (fun A c => (show ((oneR 0).V A c).toArray.size = 34 from by simpa using RC.V_len HOK.out A c))
  go_wp2_with (first
    | (go_at_call 34; (with_reducible refine (next_calls HSl.out.up1.cells.1).mono ?_); rintro e w18 ⟨rfl, hb⟩; have HSm := Aside0.mk (HSl.out.step hb); clear hb)
    | (go_at_call 36; (with_reducible refine (HONE.out 0 _).mono ?_); rintro e w19 ⟨Ao, co, rfl, h1⟩; have HSo := Aside0.mk (HSm.out.then_ h1); clear h1)
    | ((with_reducible refine gate_bs (ty := 53) rfl ?_); refine gate_guard (by rfl) ?_; dsimp only; refine wpList_bs26 rfl _ rfl _ rfl (HVS.out Ao co) ?_; have HSp := Aside0.mk (HSo.out.push_rec (oneR 0) HOK.out))
    | (go_at_call 39; (with_reducible refine (HSA.out _ _ _ _ _ _ HSp.out).mono ?_); rintro e w20 ⟨rfl, hb⟩; have HSq := Aside0.mk (HSp.out.step hb); clear hb))
  go_ret
  exact ⟨rfl, HSq.out.below⟩
end Go.Proofs.YtagodmmpkapgnaaDoor.M

namespace Go.Proofs.YtagodmmpkapgnaaDoor.M
open Go.RowKit Go.Maps Go.Proofs.YtagodmmpkapgnaaDoorW.PrintWords Go.Proofs.YtagodmmpkapgnaaDoorW.PrintLast Go.Proofs.YtagodmmpkapgnaaDoorW.PrintMore Go.Proofs.YtagodmmpkapgnaaDoor.Wr Go.Proofs.YtagodmmpkapgnaaDoor.Pl Go.Proofs.YtagodmmpkapgnaaDoor.P Go.Proofs.YtagodmmpkapgnaaDoor.A
set_option linter.unusedVariables false
set_option linter.unusedSimpArgs false
theorem cells_agg {w0 w : World} {L : List Th} {g e : Nat} {V : Array Value} (h : Sep w0 w (cellsT g V e :: L)) : ∀ j v, V.toList[j]? = some v → w.cell? ((⟨g, 0, none⟩ : Addr).add j) = some v := fun j v hv => seg_at (cs := V.toList) h.cells.1 0 V.toList (by rw [List.drop_zero]; exact List.take_of_length_le (Nat.le_refl _)) j v hv
end Go.Proofs.YtagodmmpkapgnaaDoor.M

namespace Go.Proofs.YtagodmmpkapgnaaDoor.M
open Go.RowKit Go.Maps Go.Proofs.YtagodmmpkapgnaaDoorW.PrintWords Go.Proofs.YtagodmmpkapgnaaDoorW.PrintLast Go.Proofs.YtagodmmpkapgnaaDoorW.PrintMore Go.Proofs.YtagodmmpkapgnaaDoor.Wr Go.Proofs.YtagodmmpkapgnaaDoor.Pl Go.Proofs.YtagodmmpkapgnaaDoor.P Go.Proofs.YtagodmmpkapgnaaDoor.A
set_option linter.unusedVariables false
set_option linter.unusedSimpArgs false
set_option maxHeartbeats 4000000 in
set_option maxRecDepth 100000 in
theorem cut21 (A : Option Addr) (m c : Nat) (k : Nat) (hk : k ≤ 1000000) (hc : m ≤ c) (hm : m ≤ 9223372036854775807) (w : World) : Calls Tryd.prog 21 #[.slice A m c, .int .i64 (k : Int)] w fun e w' => e = .returned (.slice A (min m k) c) ∧ w' = w := by
  by_cases h : k < m
  · have t1 : decide (k < m) = true := decide_eq_true (by omega)
    have hc1 : (k : Int) ≤ (c : Int) := by omega
    have hk1 : (k : Int) ≤ 1000000 := by omega
    have HM := Aside0.mk (show min m k = k by omega)
    clear h hm hc hk
    go_enter Tryd.func21, Tryd.ntmps21
    go_wp2
    go_ret
    rw [HM.out]
    exact ⟨rfl, rfl⟩
  · have t1 : decide (k < m) = false := decide_eq_false (by omega)
    have HM := Aside0.mk (show min m k = m by omega)
    clear h hm hc hk
    go_enter Tryd.func21, Tryd.ntmps21
    go_wp2
    go_ret
    rw [HM.out]
    exact ⟨rfl, rfl⟩
theorem C_pre8 {w : World} {A : Option Addr} {n m : Nat} {l r : List Int} (h : (Kd.int .u8).C w A m (l ++ r)) (hn : l.length = n) : (Kd.int .u8).C w A n l := by
  have h1 := h.1
  have h0 : (Kd.int .u8).C w A (l ++ r).length (l ++ r) := by rw [h1]; exact h
  have h2 := Kd.C_take (m := n) h0 (by rw [List.length_append]; omega)
  have e : (l ++ r).take n = l := by rw [← hn, List.take_append_of_le_length (Nat.le_refl _), List.take_length]
  rw [e, hn] at h2
  exact h2
theorem C_take8 {w : World} {A : Option Addr} {n : Nat} {l : List Int} (h : (Kd.int .u8).C w A n l) (m : Nat) (hm : m ≤ n) : (Kd.int .u8).C w A m (l.take m) := by
  have h1 := h.1
  have h0 : (Kd.int .u8).C w A l.length l := by rw [h1]; exact h
  have h2 := Kd.C_take (m := m) h0 (by omega)
  rwa [show (l.take m).length = m by rw [List.length_take]; omega] at h2
theorem addr_add (ad : Addr) (i : Nat) (h : 0 < i) : ad.add i = ⟨ad.block, ad.off + i, none⟩ := by
  have h := add_field ad 0 i h
  rwa [Nat.zero_add, show ad.add 0 = ad from rfl] at h
def marksL : List Int := [201, 202, 203] ++ List.replicate 70 206
set_option maxHeartbeats 4000000 in
set_option maxRecDepth 100000 in
theorem laid23 (b : List Int) (n : Nat) (hn : b.length = n) (A : Option Addr) (c : Nat) (w : World) (hC : (Kd.int .u8).C w A n b) (hl : n ≤ 1000000) :
    Calls Tryd.prog 23 #[.slice A n c] w fun e w' => ∃ A' c', e = .returned (.slice A' n c') ∧ n + 73 ≤ c' ∧ Sep w w' [ownT (Kd.int .u8) 5 (.slice A' (n + 73) c') (b ++ marksL)] := by
  have HS0 := Aside0.mk ((Sep.refl w).push_nil (Kd.int .u8) 5)
  have HC := Aside0.mk (fun W (hb : Below w.heap.size w W) => Kd.C_below hC hb)
  have HL := Aside0.mk (And.intro hn hl)
  have hn1 : (n : Int) ≤ 1000000 := by omega
  clear hC hn hl
  go_enter Tryd.func23, Tryd.ntmps23
  go_upto_region 4 with (first
    | ((with_reducible refine gate_builtin (b := .append) (xs := #[.tmp 5, .tmp 6]) rfl ?_); refine Sep.app_row rfl _ _ rfl b rfl rfl HS0.out (HC.out _ HS0.out.below) ?aL ?_; (case aL => have := HL.out; simp; omega); intro v1 w1 h1; have HS1 := Aside0.mk h1; clear h1)
    | ((with_reducible refine gate_builtin (b := .append) (xs := #[.tmp 8, .tmp 9]) rfl ?_); refine Sep.app_row rfl _ _ rfl [201, 202, 203] rfl rfl (HS1.out.step (below_alloc (Below.refl _ _) _)) (C_seg (cs := [.int .u8 201, .int .u8 202, .int .u8 203]) (heap_alloc_new _ _) 0 [201, 202, 203] rfl (by decide)) ?aL ?_; (case aL => have := HL.out; simp; omega); intro v2 w2 h2; have HS2 := Aside0.mk h2; clear h2))
  have HS3 := Aside0.mk (show Sep w w2 (ownT (Kd.int .u8) 5 v2 (b ++ ([201, 202, 203] ++ List.replicate 0 206)) :: []) from by have h := HS2.out; simp only [List.nil_append] at h; simpa using h)
  clear HS2 HS1 HS0
  go_upto_region 5 with (fail)
  go_loopg [3, 4] 70 (fun kq v3 v4 wr => ∃ i : Nat, v4 = .int .i64 i ∧ Aside0 (i + kq = 70) ∧ Aside0 (Sep w wr (ownT (Kd.int .u8) 5 v3 (b ++ ([201, 202, 203] ++ List.replicate i 206)) :: [])))
  case atStart => exact ⟨0, rfl, ⟨rfl⟩, HS3⟩
  case round =>
    obtain ⟨i, rfl, HJ, HS⟩ := hrel
    clear HS3
    by_cases hi : i < 70
    · have t0 : decide ((i : Int) < 70) = true := decide_eq_true (by omega)
      have hi1 : (i : Int) < 70 := by omega
      have HI := Aside0.mk hi
      go_wp2_with ((with_reducible refine gate_builtin (b := .append) (xs := #[.tmp 15, .tmp 16]) rfl ?_); refine Sep.app_one rfl _ _ rfl 206 rfl rfl HS.out ?aL ?_; (case aL => have := HL.out; have := HI.out; simp; omega); intro vd wd hd; have HSd := Aside0.mk hd; clear hd)
      go_roundg (70 - (i + 1))
      case measure => have := HJ.out; have := HI.out; omega
      case rel => exact ⟨i + 1, rfl, ⟨by have := HJ.out; have := HI.out; omega⟩, ⟨by have h := HSd.out; rw [List.append_assoc, List.append_assoc] at h; rw [List.replicate_succ']; exact h⟩⟩
    · obtain rfl : i = 70 := by have := HJ.out; omega
      have t0 : decide (((70 : Nat) : Int) < 70) = false := by decide
      obtain ⟨A2, c2, rfl⟩ := HS.out.own_slice
      have HLL := Aside0.mk (show (b ++ ([201, 202, 203] ++ List.replicate 70 206)).length = n + 73 from by have := HL.out.1; simp; omega)
      have HCC := Aside0.mk (show n + 73 ≤ c2 from by have h := HS.out.own_C.2; rwa [HLL.out] at h)
      have hc2 : (n : Int) ≤ (c2 : Int) := by have := HCC.out; omega
      rw [HLL.out] at HS ⊢
      go_wp2
      go_ret
      exact ⟨A2, c2, rfl, HCC.out, HS.out⟩
set_option maxHeartbeats 4000000 in
set_option maxRecDepth 100000 in
theorem summed22 (b : List Int) (hb : bytes_ b) (hm : b.length = 512) (A : Option Addr) (c : Nat) (hc : 512 ≤ c) (w : World) (hC : (Kd.int .u8).C w A 512 b) :
    Calls Tryd.prog 22 #[.slice A 512 c] w fun e w' => ∃ v, e = .returned v ∧ Sep w w' [ownT (Kd.int .u8) 5 v (b.take 508 ++ fixL (crc (b.take 508)) 4)] := by
  have HS0 := Aside0.mk ((Sep.refl w).push_nil (Kd.int .u8) 5)
  have HC := Aside0.mk (fun W (hb : Below w.heap.size w W) => Kd.C_below (C_take8 hC 508 (by decide)) hb)
  have HB := Aside0.mk (bytes_take hb 508)
  have HLB := Aside0.mk (show (b.take 508).length = 508 from by rw [List.length_take, hm]; rfl)
  have hc1 : (508 : Int) ≤ (c : Int) := by omega
  generalize b.take 508 = x at HC HB HLB ⊢
  clear hC hb hm hc
  go_enter Tryd.func22, Tryd.ntmps22
  go_upto_region 2 with ((with_reducible refine gate_builtin (b := .append) (xs := #[.const (.slice none 0 0), .tmp 5]) rfl ?_); refine Sep.app_row rfl _ _ rfl x rfl rfl HS0.out (HC.out _ HS0.out.below) ?aL ?_; (case aL => simp); intro v1 w1 h1; have HS1 := Aside0.mk h1; clear h1)
  have HS2 := Aside0.mk (show Sep w w1 (ownT (Kd.int .u8) 5 v1 x :: []) from HS1.out)
  obtain ⟨A1, c1, rfl⟩ := HS2.out.own_slice
  rw [HLB.out] at HS2 ⊢
  have HSU := Aside0.mk (Sep.crc17 HS2.out HB.out HLB.out (by decide))
  have HCR := Aside0.mk (crc_lt x)
  generalize hq : crc x = q at HCR HSU
  have HQ := Aside0.mk hq
  clear hq
  have hq1 : (q : Int) < 4294967296 := by have := HCR.out; omega
  go_wp2_with (first
    | (go_at_call 68; (with_reducible refine HSU.out.mono ?_); rintro e wa ⟨rfl, h4⟩; have HSo := Aside0.mk h4; clear h4)
    | (go_at_call 67; (with_reducible refine (Sep.fix17_4 HSo.out (by have := HLB.out; omega) (q : Int) (Int.natCast_nonneg q)).mono ?_); rintro e wb ⟨vb, rfl, h4⟩; have HSp := Aside0.mk h4; clear h4))
  go_ret
  exact ⟨vb, rfl, by rw [HQ.out]; have h := HSp.out; rwa [Int.toNat_natCast] at h⟩
set_option maxHeartbeats 4000000 in
set_option maxRecDepth 100000 in
theorem intact26 (b : List Int) (n : Nat) (hn : b.length = n) (A1 A2 : Option Addr) (c1 c2 : Nat) (w : World) (hC1 : (Kd.int .u8).C w A1 (n + 73) (b ++ marksL)) (hC2 : (Kd.int .u8).C w A2 n b) (hc : n + 73 ≤ c1) (hc2 : n ≤ c2) (hl : n ≤ 1000000) :
    Calls Tryd.prog 26 #[.slice A1 n c1, .slice A2 n c2] w fun e w' => e = .returned (.bool true) ∧ Below w.heap.size w w' := by
  have HB0 := Aside0.mk (Below.refl w.heap.size w)
  have hC0 : (Kd.int .u8).C w A1 n b := C_pre8 (l := b) (r := marksL) hC1 hn
  have hc1 : n ≤ c1 := by omega
  have hl1 : n ≤ 4611686018427387904 := by omega
  have HSM := Aside0.mk (show Calls Tryd.prog 19 #[.slice A1 n c1, .slice A2 n c2] w (fun e w' => e = .returned (.bool true) ∧ Below w.heap.size w w') from by
    have h5 := same19 hC0 hC2 hn hn hc1 hc2 hl1
    rwa [decide_eq_true (rfl : b = b)] at h5)
  have hn0 : (n : Int) ≤ 1000000 := by omega
  have hc0 : (n : Int) + 4 ≤ (c1 : Int) := by omega
  have hcn : ¬ c1 = n := by omega
  obtain ⟨ad, rfl, _⟩ := hC1.2.2 (by omega)
  have HM := Aside0.mk (fun W (hb : Below w.heap.size w W) => (show W.cell? (ad.add n) = some (.int .u8 201) ∧ W.cell? ((ad.add n).add 1) = some (.int .u8 202) ∧ W.cell? ((ad.add n).add 2) = some (.int .u8 203) ∧ W.cell? ((ad.add n).add 3) = some (.int .u8 206) from by
    have h := C_cells (Kd.C_below hC1 hb)
    have e : nums .u8 (b ++ marksL) = nums .u8 b ++ nums .u8 marksL := nums_append _ _ _
    have g : ∀ j v, (nums .u8 marksL)[j]? = some v → W.cell? (ad.add (n + j)) = some v := fun j v hv => h (n + j) v (by rw [e, List.getElem?_append_right (by rw [nums_length]; omega), nums_length, hn, Nat.add_sub_cancel_left]; exact hv)
    refine ⟨g 0 _ rfl, ?_, ?_, ?_⟩
    · rw [Addr.add_add]; exact g 1 _ rfl
    · rw [Addr.add_add]; exact g 2 _ rfl
    · rw [Addr.add_add]; exact g 3 _ rfl))
  clear hC1 hC2 hc hn hc2 hl hC0 hc1 hl1
  go_enter Tryd.func26, Tryd.ntmps26
  go_upto_region 4 with (go_at_call 19; (with_reducible refine HSM.out.mono ?_); rintro e w2 ⟨rfl, hb⟩; have HB2 := Aside0.mk hb; clear hb)
  obtain ⟨m0, m1, m2, m3⟩ := HM.out _ HB2.out
  generalize ad.add n = ap at m0 m1 m2 m3 ⊢
  rw [addr_add ap 1 (by decide)] at m1
  rw [addr_add ap 2 (by decide)] at m2
  rw [addr_add ap 3 (by decide)] at m3
  go_wp2
  go_ret
  exact ⟨rfl, HB2.out⟩
end Go.Proofs.YtagodmmpkapgnaaDoor.M

namespace Go.Proofs.YtagodmmpkapgnaaDoor.M
open Go.RowKit Go.Maps Go.Proofs.YtagodmmpkapgnaaDoorW.PrintWords Go.Proofs.YtagodmmpkapgnaaDoorW.PrintLast Go.Proofs.YtagodmmpkapgnaaDoorW.PrintMore Go.Proofs.YtagodmmpkapgnaaDoor.Wr Go.Proofs.YtagodmmpkapgnaaDoor.Pl Go.Proofs.YtagodmmpkapgnaaDoor.P Go.Proofs.YtagodmmpkapgnaaDoor.A
set_option linter.unusedVariables false
set_option linter.unusedSimpArgs false
theorem u8_wf {l : List Int} (h : ∀ x ∈ l, (Lit.int .u8 x).wf = true) : bytes_ l := fun x hx => by
  have := h x hx
  simp [Lit.wf, IntKind.min, IntKind.max, IntKind.signed, IntKind.bits] at this
  omega
set_option maxHeartbeats 16000000 in
set_option maxRecDepth 100000 in
theorem reads_calls (b0 : List Int) (hb0 : bytes_ b0) (A0 : Option Addr) (c0 : Nat) (hc : b0.length ≤ c0) (sm : Bool) (w : World) (hH : Wr.Half w) (hC : (Kd.int .u8).C w A0 b0.length b0) :
    Calls Tryd.prog 4 #[.slice A0 b0.length c0, .bool sm] w fun e w' => e = .returned (.bool true) ∧ Below w.heap.size w w' := by
  have HS0 := Aside0.mk ((Sep.refl w).push_nil (Kd.int .u8) 5)
  have HH := Aside0.mk hH
  have HTO := Aside0.mk (told_calls w hH)
  have HCU := Aside0.mk (fun (W : World) => (show Calls Tryd.prog 21 #[.slice A0 b0.length c0, .int .i64 700] W (fun e w' => e = .returned (.slice A0 (min b0.length 700) c0) ∧ w' = W) from cut21 A0 b0.length c0 700 (by decide) hc (by have := hC.2.1; omega) W))
  have HCC := Aside0.mk (fun W (hb : Below w.heap.size w W) => Kd.C_below (C_take8 hC (min b0.length 700) (Nat.min_le_left _ _)) hb)
  have HBY := Aside0.mk (bytes_take hb0 (min b0.length 700))
  have HLE := Aside0.mk (show (b0.take (min b0.length 700)).length = min b0.length 700 ∧ min b0.length 700 ≤ 700 from ⟨by rw [List.length_take]; omega, Nat.min_le_right _ _⟩)
  generalize min b0.length 700 = k at HCU HCC HBY HLE
  generalize b0.take k = b1 at HCC HBY HLE
  have hz := (zero_of_info (P := Tryd.prog) (t := 26) (v := .agg zRC) (n := 34) (by unfold zRC; kernel_rfl)).1
  have HZs := Aside0.mk zRC_size
  have HSZ := Aside0.mk (show (Tryd.prog.info? 26).map (·.size) = some zRC.size from size26 zRC_size)
  have HZA := Aside0.mk zRC_all
  generalize hZE : zRC = Z at hz HZs HSZ HZA
  have HZE := Aside0.mk hZE
  clear hZE hH hC hc hb0
  go_enter Tryd.func4, Tryd.ntmps4
  go_upto_region 4 with (first
    | (go_at_call 14; (with_reducible refine HTO.out.mono ?_); rintro e w2 ⟨rfl, hb⟩; have HS2 := Aside0.mk (HS0.out.step hb); clear hb)
    | (go_at_call 21; (with_reducible refine (HCU.out _).mono ?_); rintro e w3 ⟨rfl, rfl⟩)
    | ((with_reducible refine gate_builtin (b := .append) (xs := #[.const (.slice none 0 0), .tmp 13]) rfl ?_); refine Sep.app_row rfl _ _ rfl b1 rfl rfl HS2.out (HCC.out _ HS2.out.below) ?aL ?_; (case aL => have := HLE.out.2; simp; omega); intro v4 w4 h4; have HS4 := Aside0.mk h4; clear h4))
  clear HS0 HS2 HTO HCU HCC
  have HS5 := Aside0.mk (show Sep w w4 (ownT (Kd.int .u8) 5 v4 b1 :: []) from HS4.out)
  clear HS4
  obtain ⟨A4, c4, rfl⟩ := HS5.out.own_slice
  rw [HLE.out.1] at HS5 ⊢
  cases sm with
  | false =>
    go_upto_region 6 with (fail)
    have HS6 := Aside0.mk (show Sep w w4 (ownT (Kd.int .u8) 5 (.slice A4 k c4) b1 :: []) from HS5.out)
    have HB := Aside0.mk (show bytes_ b1 ∧ b1.length = k ∧ k ≤ 1000000 from ⟨HBY.out, HLE.out.1, by have := HLE.out.2; omega⟩)
    clear HS5 HBY HLE
    generalize b1 = b at HS6 HB
    generalize k = n at HS6 HB ⊢
    generalize w4 = w6 at HS6 ⊢
    generalize A4 = A at HS6 ⊢
    generalize c4 = c at HS6 ⊢
    have HC6 := Aside0.mk (show (Kd.int .u8).C w6 A n b ∧ n ≤ c from by have h := HS6.out.own_C; rwa [HB.out.2.1] at h)
    have HLA := Aside0.mk (laid23 b n HB.out.2.1 A c w6 HC6.out.1 HB.out.2.2)
    go_upto_region 7 with (go_at_call 23; (with_reducible refine HLA.out.mono ?_); rintro e w7 ⟨A7, c7, rfl, hc7, h7⟩; have HS7 := Aside0.mk (HS6.out.then_ h7); have HC7 := Aside0.mk hc7; clear h7 hc7)
    clear HLA
    have HX7 := Aside0.mk (fun (W : World) (M : List Th) (h : Sep w W (ownT (Kd.int .u8) 5 (.slice A7 (n + 73) c7) (b ++ marksL) :: M)) => (show (Kd.int .u8).C W A7 (n + 73) (b ++ marksL) from by have h2 := h.own_C.1; rwa [show (b ++ marksL).length = n + 73 from by rw [List.length_append, HB.out.2.1]; rfl] at h2))
    have HX6 := Aside0.mk (fun (W : World) (M : List Th) (h : Sep w W (ownT (Kd.int .u8) 5 (.slice A n c) b :: M)) => (show (Kd.int .u8).C W A n b from by have h2 := h.own_C.1; rwa [HB.out.2.1] at h2))
    have HIN := Aside0.mk (fun (W : World) (M M' : List Th) (h : Sep w W (ownT (Kd.int .u8) 5 (.slice A7 (n + 73) c7) (b ++ marksL) :: M)) (h' : Sep w W (ownT (Kd.int .u8) 5 (.slice A n c) b :: M')) => intact26 b n HB.out.2.1 A7 A c7 c W (HX7.out W M h) (HX6.out W M' h') HC7.out HC6.out.2 HB.out.2.2)
    cases hd : decJ b with
    | none =>
      have HD24 := Aside0.mk (by have h := decode_none b HB.out.1 A7 n c7 HB.out.2.1 (by have := HC7.out; omega) w7 (HH.out.below HS7.out.below) (C_pre8 (l := b) (r := marksL) (HX7.out w7 _ HS7.out) HB.out.2.1) hd; rw [HZE.out] at h; exact h)
      have HD25 := Aside0.mk (fun (W : World) (M : List Th) (h : Sep w W (ownT (Kd.int .u8) 5 (.slice A n c) b :: M)) => (by have h := decode17_none b HB.out.1 A n c HB.out.2.1 HC6.out.2 W (HX6.out W M h) hd; rw [HZE.out] at h; exact h : Calls Tryd.prog 25 #[.slice A n c] W (fun e w' => e = .returned (.tuple #[.agg Z, .bool false]) ∧ Below W.heap.size W w')))
      have HSR := Aside0.mk (fun (W : World) => (by have h := sameRecord noRC noRC_ok 0 rfl none none 0 0 W ⟨rfl, by decide, fun h => absurd h (Nat.lt_irrefl _)⟩ ⟨rfl, by decide, fun h => absurd h (Nat.lt_irrefl _)⟩; rw [show (noRC.V none 0).toArray = Z from HZE.out] at h; exact h : Calls Tryd.prog 27 #[.agg Z, .agg Z] W (fun e w' => e = .returned (.bool true) ∧ Below W.heap.size W w')))
      clear hd
      go_upto_region 8 with (first
        | (go_at_call 24; (with_reducible refine HD24.out.mono ?_); rintro e w8 ⟨rfl, hb⟩; have HS8 := Aside0.mk (HS7.out.step hb); clear hb)
        | ((with_reducible refine gate_store (ty := 26) rfl ?_); refine Sep.store_own rfl 26 _ _ rfl rfl rfl (HS8.out.push_alloc Z 26) HSZ.out rfl HZA.out ?_; intro w9 h9; have HS9 := Aside0.mk h9; clear h9))
      generalize w8.heap.size = g8 at HS9 ⊢
      clear HS6 HS7 HS8 HD24
      go_upto_region 9 with (first
        | (go_at_call 25; (with_reducible refine (HD25.out _ _ HS9.out.up2).mono ?_); rintro e wa ⟨rfl, hb⟩; have HSa := Aside0.mk (HS9.out.step hb); clear hb)
        | ((with_reducible refine gate_store (ty := 26) rfl ?_); refine Sep.store_own rfl 26 _ _ rfl rfl rfl (HSa.out.push_alloc Z 26) HSZ.out rfl HZA.out ?_; intro wb hb; have HSb := Aside0.mk hb; clear hb))
      generalize wa.heap.size = g9 at HSb ⊢
      clear HS9 HSa HD25 hz
      go_wp2_with (first
        | (go_at_call 26; (with_reducible refine (HIN.out _ _ _ HSb.out.up2 HSb.out.up3).mono ?_); rintro e wc ⟨rfl, hb⟩; have HSc := Aside0.mk (HSb.out.step hb); clear hb)
        | ((with_reducible refine gate_load (ty := 26) rfl ?_); refine wpList_ldw ?_ 26 _ rfl ⟨g8, 0, none⟩ ?_ Z _ (cells_agg HSc.out.up1) Tryd.underlying26 rfl HSZ.out ?_; exact rfl; exact rfl; skip)
        | ((with_reducible refine gate_load (ty := 26) rfl ?_); refine wpList_ldw ?_ 26 _ rfl ⟨g9, 0, none⟩ ?_ Z _ (cells_agg HSc.out) Tryd.underlying26 rfl HSZ.out ?_; exact rfl; exact rfl; skip)
        | (go_at_call 27; (with_reducible refine (HSR.out _).mono ?_); rintro e wd ⟨rfl, hb⟩; have HSd := Aside0.mk (HSc.out.step hb); clear hb))
      go_ret
      exact ⟨rfl, HSd.out.below⟩
    | some r =>
      have HRO := Aside0.mk ((decJ_some HB.out.1 hd).1)
      have HD24 := Aside0.mk (decode_some b HB.out.1 A7 n c7 HB.out.2.1 (by have := HC7.out; omega) w7 (HH.out.below HS7.out.below) (C_pre8 (l := b) (r := marksL) (HX7.out w7 _ HS7.out) HB.out.2.1) r hd)
      have HD25 := Aside0.mk (fun (W : World) (M : List Th) (h : Sep w W (ownT (Kd.int .u8) 5 (.slice A n c) b :: M)) => decode17_some b HB.out.1 A n c HB.out.2.1 HC6.out.2 W (HX6.out W M h) r hd)
      have HSZ := Aside0.mk (fun A c => RC.size HRO.out A c)
      have HVA := Aside0.mk (fun A c => RC.V_all r A c)
      have HVS := Aside0.mk (fun A c => (show (r.V A c).toArray.size = 34 from by simpa using RC.V_len HRO.out A c))
      clear hd
      go_upto_region 8 with (first
        | (go_at_call 24; (with_reducible refine HD24.out.mono ?_); rintro e w8 ⟨A8, c8, rfl, h8⟩; have HS8 := Aside0.mk (HS7.out.then_ h8); clear h8)
        | ((with_reducible refine gate_store (ty := 26) rfl ?_); refine Sep.store_own rfl 26 _ _ rfl rfl rfl (HS8.out.push_alloc Z 26) (HSZ.out A8 c8) (HZs.out.trans (HVS.out A8 c8).symm) (HVA.out A8 c8) ?_; intro w9 h9; have HS9 := Aside0.mk h9; clear h9))
      generalize w8.heap.size = g8 at HS9 ⊢
      clear HS6 HS7 HS8 HD24
      go_upto_region 9 with (first
        | (go_at_call 25; (with_reducible refine (HD25.out _ _ HS9.out.up3).mono ?_); rintro e wa ⟨Aa, ca, rfl, ha⟩; have HSa := Aside0.mk (HS9.out.then_ ha); clear ha)
        | ((with_reducible refine gate_store (ty := 26) rfl ?_); refine Sep.store_own rfl 26 _ _ rfl rfl rfl (HSa.out.push_alloc Z 26) (HSZ.out Aa ca) (HZs.out.trans (HVS.out Aa ca).symm) (HVA.out Aa ca) ?_; intro wb hb; have HSb := Aside0.mk hb; clear hb))
      generalize wa.heap.size = g9 at HSb ⊢
      clear HS9 HSa HD25 hz
      have HSR := Aside0.mk (fun (W : World) (M M' : List Th) (h : Sep w W (ownT kRF 69 (.slice A8 r.r.length c8) r.r :: M)) (h' : Sep w W (ownT kRF 69 (.slice Aa r.r.length ca) r.r :: M')) => sameRecord r HRO.out r.r.length rfl A8 Aa c8 ca W h.own_C.1 h'.own_C.1)
      go_wp2_with (first
        | (go_at_call 26; (with_reducible refine (HIN.out _ _ _ HSb.out.up4 (HSb.out.drop.up4)).mono ?_); rintro e wc ⟨rfl, hb⟩; have HSc := Aside0.mk (HSb.out.step hb); clear hb)
        | ((with_reducible refine gate_load (ty := 26) rfl ?_); refine wpList_ldw ?_ 26 _ rfl ⟨g8, 0, none⟩ ?_ (r.V A8 c8).toArray _ (cells_agg HSc.out.up2) Tryd.underlying26 rfl (HSZ.out A8 c8) ?_; exact rfl; exact rfl; skip)
        | ((with_reducible refine gate_load (ty := 26) rfl ?_); refine wpList_ldw ?_ 26 _ rfl ⟨g9, 0, none⟩ ?_ (r.V Aa ca).toArray _ (cells_agg HSc.out) Tryd.underlying26 rfl (HSZ.out Aa ca) ?_; exact rfl; exact rfl; skip)
        | (go_at_call 27; (with_reducible refine (HSR.out _ _ _ HSc.out.up3 HSc.out.up1).mono ?_); rintro e wd ⟨rfl, hb⟩; have HSd := Aside0.mk (HSc.out.step hb); clear hb))
      go_ret
      exact ⟨rfl, HSd.out.below⟩
  | true =>
    by_cases hk : k = 512
    · have t1 : decide ((k : Int) = 512) = true := decide_eq_true (by omega)
      have hki : (k : Int) = 512 := by omega
      have HC5 := Aside0.mk (show (Kd.int .u8).C w4 A4 512 b1 ∧ 512 ≤ c4 from by have h := HS5.out.own_C; rw [HLE.out.1, hk] at h; exact h)
      have HSU := Aside0.mk (summed22 b1 HBY.out (by rw [HLE.out.1, hk]) A4 c4 HC5.out.2 w4 HC5.out.1)
      have HL1 := Aside0.mk (show (b1.take 508 ++ fixL (crc (b1.take 508)) 4).length = 512 from by rw [List.length_append, List.length_take, HLE.out.1, hk, fixL_len]; rfl)
      have HB1 := Aside0.mk (show bytes_ (b1.take 508 ++ fixL (crc (b1.take 508)) 4) from bytes_append (bytes_take HBY.out 508) (bytes_fix _ _))
      subst hk
      generalize b1.take 508 ++ fixL (crc (b1.take 508)) 4 = b2 at HSU HL1 HB1
      go_upto_region 6 with (go_at_call 22; (with_reducible refine HSU.out.mono ?_); rintro e w6 ⟨v6, rfl, h6⟩; have HSx := Aside0.mk ((HS5.out.then_ h6).up1.drop); clear h6)
      clear HS5 HC5 HSU HBY HLE
      have HSy := Aside0.mk (show Sep w w6 (ownT (Kd.int .u8) 5 v6 b2 :: []) from HSx.out)
      clear HSx
      obtain ⟨A, c, rfl⟩ := HSy.out.own_slice
      rw [HL1.out] at HSy ⊢
      have HS6 := Aside0.mk HSy.out
      clear HSy
      have HB := Aside0.mk (show bytes_ b2 ∧ b2.length = 512 ∧ 512 ≤ 1000000 from ⟨HB1.out, HL1.out, by decide⟩)
      clear HB1 HL1 t1 hki
      generalize b2 = b at HS6 HB
      obtain ⟨n, hn5⟩ : ∃ n, 512 = n := ⟨_, rfl⟩
      rw [hn5] at HS6 HB ⊢
      clear hn5
      have HC6 := Aside0.mk (show (Kd.int .u8).C w6 A n b ∧ n ≤ c from by have h := HS6.out.own_C; rwa [HB.out.2.1] at h)
      have HLA := Aside0.mk (laid23 b n HB.out.2.1 A c w6 HC6.out.1 HB.out.2.2)
      go_upto_region 7 with (go_at_call 23; (with_reducible refine HLA.out.mono ?_); rintro e w7 ⟨A7, c7, rfl, hc7, h7⟩; have HS7 := Aside0.mk (HS6.out.then_ h7); have HC7 := Aside0.mk hc7; clear h7 hc7)
      clear HLA
      have HX7 := Aside0.mk (fun (W : World) (M : List Th) (h : Sep w W (ownT (Kd.int .u8) 5 (.slice A7 (n + 73) c7) (b ++ marksL) :: M)) => (show (Kd.int .u8).C W A7 (n + 73) (b ++ marksL) from by have h2 := h.own_C.1; rwa [show (b ++ marksL).length = n + 73 from by rw [List.length_append, HB.out.2.1]; rfl] at h2))
      have HX6 := Aside0.mk (fun (W : World) (M : List Th) (h : Sep w W (ownT (Kd.int .u8) 5 (.slice A n c) b :: M)) => (show (Kd.int .u8).C W A n b from by have h2 := h.own_C.1; rwa [HB.out.2.1] at h2))
      have HIN := Aside0.mk (fun (W : World) (M M' : List Th) (h : Sep w W (ownT (Kd.int .u8) 5 (.slice A7 (n + 73) c7) (b ++ marksL) :: M)) (h' : Sep w W (ownT (Kd.int .u8) 5 (.slice A n c) b :: M')) => intact26 b n HB.out.2.1 A7 A c7 c W (HX7.out W M h) (HX6.out W M' h') HC7.out HC6.out.2 HB.out.2.2)
      cases hd : decJ b with
      | none =>
        have HD24 := Aside0.mk (by have h := decode_none b HB.out.1 A7 n c7 HB.out.2.1 (by have := HC7.out; omega) w7 (HH.out.below HS7.out.below) (C_pre8 (l := b) (r := marksL) (HX7.out w7 _ HS7.out) HB.out.2.1) hd; rw [HZE.out] at h; exact h)
        have HD25 := Aside0.mk (fun (W : World) (M : List Th) (h : Sep w W (ownT (Kd.int .u8) 5 (.slice A n c) b :: M)) => (by have h := decode17_none b HB.out.1 A n c HB.out.2.1 HC6.out.2 W (HX6.out W M h) hd; rw [HZE.out] at h; exact h : Calls Tryd.prog 25 #[.slice A n c] W (fun e w' => e = .returned (.tuple #[.agg Z, .bool false]) ∧ Below W.heap.size W w')))
        have HSR := Aside0.mk (fun (W : World) => (by have h := sameRecord noRC noRC_ok 0 rfl none none 0 0 W ⟨rfl, by decide, fun h => absurd h (Nat.lt_irrefl _)⟩ ⟨rfl, by decide, fun h => absurd h (Nat.lt_irrefl _)⟩; rw [show (noRC.V none 0).toArray = Z from HZE.out] at h; exact h : Calls Tryd.prog 27 #[.agg Z, .agg Z] W (fun e w' => e = .returned (.bool true) ∧ Below W.heap.size W w')))
        clear hd
        go_upto_region 8 with (first
          | (go_at_call 24; (with_reducible refine HD24.out.mono ?_); rintro e w8 ⟨rfl, hb⟩; have HS8 := Aside0.mk (HS7.out.step hb); clear hb)
          | ((with_reducible refine gate_store (ty := 26) rfl ?_); refine Sep.store_own rfl 26 _ _ rfl rfl rfl (HS8.out.push_alloc Z 26) HSZ.out rfl HZA.out ?_; intro w9 h9; have HS9 := Aside0.mk h9; clear h9))
        generalize w8.heap.size = g8 at HS9 ⊢
        clear HS6 HS7 HS8 HD24
        go_upto_region 9 with (first
          | (go_at_call 25; (with_reducible refine (HD25.out _ _ HS9.out.up2).mono ?_); rintro e wa ⟨rfl, hb⟩; have HSa := Aside0.mk (HS9.out.step hb); clear hb)
          | ((with_reducible refine gate_store (ty := 26) rfl ?_); refine Sep.store_own rfl 26 _ _ rfl rfl rfl (HSa.out.push_alloc Z 26) HSZ.out rfl HZA.out ?_; intro wb hb; have HSb := Aside0.mk hb; clear hb))
        generalize wa.heap.size = g9 at HSb ⊢
        clear HS9 HSa HD25 hz
        go_wp2_with (first
          | (go_at_call 26; (with_reducible refine (HIN.out _ _ _ HSb.out.up2 HSb.out.up3).mono ?_); rintro e wc ⟨rfl, hb⟩; have HSc := Aside0.mk (HSb.out.step hb); clear hb)
          | ((with_reducible refine gate_load (ty := 26) rfl ?_); refine wpList_ldw ?_ 26 _ rfl ⟨g8, 0, none⟩ ?_ Z _ (cells_agg HSc.out.up1) Tryd.underlying26 rfl HSZ.out ?_; exact rfl; exact rfl; skip)
          | ((with_reducible refine gate_load (ty := 26) rfl ?_); refine wpList_ldw ?_ 26 _ rfl ⟨g9, 0, none⟩ ?_ Z _ (cells_agg HSc.out) Tryd.underlying26 rfl HSZ.out ?_; exact rfl; exact rfl; skip)
          | (go_at_call 27; (with_reducible refine (HSR.out _).mono ?_); rintro e wd ⟨rfl, hb⟩; have HSd := Aside0.mk (HSc.out.step hb); clear hb))
        go_ret
        exact ⟨rfl, HSd.out.below⟩
      | some r =>
        have HRO := Aside0.mk ((decJ_some HB.out.1 hd).1)
        have HD24 := Aside0.mk (decode_some b HB.out.1 A7 n c7 HB.out.2.1 (by have := HC7.out; omega) w7 (HH.out.below HS7.out.below) (C_pre8 (l := b) (r := marksL) (HX7.out w7 _ HS7.out) HB.out.2.1) r hd)
        have HD25 := Aside0.mk (fun (W : World) (M : List Th) (h : Sep w W (ownT (Kd.int .u8) 5 (.slice A n c) b :: M)) => decode17_some b HB.out.1 A n c HB.out.2.1 HC6.out.2 W (HX6.out W M h) r hd)
        have HSZ := Aside0.mk (fun A c => RC.size HRO.out A c)
        have HVA := Aside0.mk (fun A c => RC.V_all r A c)
        have HVS := Aside0.mk (fun A c => (show (r.V A c).toArray.size = 34 from by simpa using RC.V_len HRO.out A c))
        clear hd
        go_upto_region 8 with (first
          | (go_at_call 24; (with_reducible refine HD24.out.mono ?_); rintro e w8 ⟨A8, c8, rfl, h8⟩; have HS8 := Aside0.mk (HS7.out.then_ h8); clear h8)
          | ((with_reducible refine gate_store (ty := 26) rfl ?_); refine Sep.store_own rfl 26 _ _ rfl rfl rfl (HS8.out.push_alloc Z 26) (HSZ.out A8 c8) (HZs.out.trans (HVS.out A8 c8).symm) (HVA.out A8 c8) ?_; intro w9 h9; have HS9 := Aside0.mk h9; clear h9))
        generalize w8.heap.size = g8 at HS9 ⊢
        clear HS6 HS7 HS8 HD24
        go_upto_region 9 with (first
          | (go_at_call 25; (with_reducible refine (HD25.out _ _ HS9.out.up3).mono ?_); rintro e wa ⟨Aa, ca, rfl, ha⟩; have HSa := Aside0.mk (HS9.out.then_ ha); clear ha)
          | ((with_reducible refine gate_store (ty := 26) rfl ?_); refine Sep.store_own rfl 26 _ _ rfl rfl rfl (HSa.out.push_alloc Z 26) (HSZ.out Aa ca) (HZs.out.trans (HVS.out Aa ca).symm) (HVA.out Aa ca) ?_; intro wb hb; have HSb := Aside0.mk hb; clear hb))
        generalize wa.heap.size = g9 at HSb ⊢
        clear HS9 HSa HD25 hz
        have HSR := Aside0.mk (fun (W : World) (M M' : List Th) (h : Sep w W (ownT kRF 69 (.slice A8 r.r.length c8) r.r :: M)) (h' : Sep w W (ownT kRF 69 (.slice Aa r.r.length ca) r.r :: M')) => sameRecord r HRO.out r.r.length rfl A8 Aa c8 ca W h.own_C.1 h'.own_C.1)
        go_wp2_with (first
          | (go_at_call 26; (with_reducible refine (HIN.out _ _ _ HSb.out.up4 (HSb.out.drop.up4)).mono ?_); rintro e wc ⟨rfl, hb⟩; have HSc := Aside0.mk (HSb.out.step hb); clear hb)
          | ((with_reducible refine gate_load (ty := 26) rfl ?_); refine wpList_ldw ?_ 26 _ rfl ⟨g8, 0, none⟩ ?_ (r.V A8 c8).toArray _ (cells_agg HSc.out.up2) Tryd.underlying26 rfl (HSZ.out A8 c8) ?_; exact rfl; exact rfl; skip)
          | ((with_reducible refine gate_load (ty := 26) rfl ?_); refine wpList_ldw ?_ 26 _ rfl ⟨g9, 0, none⟩ ?_ (r.V Aa ca).toArray _ (cells_agg HSc.out) Tryd.underlying26 rfl (HSZ.out Aa ca) ?_; exact rfl; exact rfl; skip)
          | (go_at_call 27; (with_reducible refine (HSR.out _ _ _ HSc.out.up3 HSc.out.up1).mono ?_); rintro e wd ⟨rfl, hb⟩; have HSd := Aside0.mk (HSc.out.step hb); clear hb))
        go_ret
        exact ⟨rfl, HSd.out.below⟩
    · have hk1 : ¬ (k : Int) = 512 := by omega
      have t1 : decide ((k : Int) = 512) = false := decide_eq_false hk1
      go_upto_region 6 with (fail)
      have HS6 := Aside0.mk (show Sep w w4 (ownT (Kd.int .u8) 5 (.slice A4 k c4) b1 :: []) from HS5.out)
      have HB := Aside0.mk (show bytes_ b1 ∧ b1.length = k ∧ k ≤ 1000000 from ⟨HBY.out, HLE.out.1, by have := HLE.out.2; omega⟩)
      clear HS5 HBY HLE t1 hk1 hk
      generalize b1 = b at HS6 HB
      generalize k = n at HS6 HB ⊢
      generalize w4 = w6 at HS6 ⊢
      generalize A4 = A at HS6 ⊢
      generalize c4 = c at HS6 ⊢
      have HC6 := Aside0.mk (show (Kd.int .u8).C w6 A n b ∧ n ≤ c from by have h := HS6.out.own_C; rwa [HB.out.2.1] at h)
      have HLA := Aside0.mk (laid23 b n HB.out.2.1 A c w6 HC6.out.1 HB.out.2.2)
      go_upto_region 7 with (go_at_call 23; (with_reducible refine HLA.out.mono ?_); rintro e w7 ⟨A7, c7, rfl, hc7, h7⟩; have HS7 := Aside0.mk (HS6.out.then_ h7); have HC7 := Aside0.mk hc7; clear h7 hc7)
      clear HLA
      have HX7 := Aside0.mk (fun (W : World) (M : List Th) (h : Sep w W (ownT (Kd.int .u8) 5 (.slice A7 (n + 73) c7) (b ++ marksL) :: M)) => (show (Kd.int .u8).C W A7 (n + 73) (b ++ marksL) from by have h2 := h.own_C.1; rwa [show (b ++ marksL).length = n + 73 from by rw [List.length_append, HB.out.2.1]; rfl] at h2))
      have HX6 := Aside0.mk (fun (W : World) (M : List Th) (h : Sep w W (ownT (Kd.int .u8) 5 (.slice A n c) b :: M)) => (show (Kd.int .u8).C W A n b from by have h2 := h.own_C.1; rwa [HB.out.2.1] at h2))
      have HIN := Aside0.mk (fun (W : World) (M M' : List Th) (h : Sep w W (ownT (Kd.int .u8) 5 (.slice A7 (n + 73) c7) (b ++ marksL) :: M)) (h' : Sep w W (ownT (Kd.int .u8) 5 (.slice A n c) b :: M')) => intact26 b n HB.out.2.1 A7 A c7 c W (HX7.out W M h) (HX6.out W M' h') HC7.out HC6.out.2 HB.out.2.2)
      cases hd : decJ b with
      | none =>
        have HD24 := Aside0.mk (by have h := decode_none b HB.out.1 A7 n c7 HB.out.2.1 (by have := HC7.out; omega) w7 (HH.out.below HS7.out.below) (C_pre8 (l := b) (r := marksL) (HX7.out w7 _ HS7.out) HB.out.2.1) hd; rw [HZE.out] at h; exact h)
        have HD25 := Aside0.mk (fun (W : World) (M : List Th) (h : Sep w W (ownT (Kd.int .u8) 5 (.slice A n c) b :: M)) => (by have h := decode17_none b HB.out.1 A n c HB.out.2.1 HC6.out.2 W (HX6.out W M h) hd; rw [HZE.out] at h; exact h : Calls Tryd.prog 25 #[.slice A n c] W (fun e w' => e = .returned (.tuple #[.agg Z, .bool false]) ∧ Below W.heap.size W w')))
        have HSR := Aside0.mk (fun (W : World) => (by have h := sameRecord noRC noRC_ok 0 rfl none none 0 0 W ⟨rfl, by decide, fun h => absurd h (Nat.lt_irrefl _)⟩ ⟨rfl, by decide, fun h => absurd h (Nat.lt_irrefl _)⟩; rw [show (noRC.V none 0).toArray = Z from HZE.out] at h; exact h : Calls Tryd.prog 27 #[.agg Z, .agg Z] W (fun e w' => e = .returned (.bool true) ∧ Below W.heap.size W w')))
        clear hd
        go_upto_region 8 with (first
          | (go_at_call 24; (with_reducible refine HD24.out.mono ?_); rintro e w8 ⟨rfl, hb⟩; have HS8 := Aside0.mk (HS7.out.step hb); clear hb)
          | ((with_reducible refine gate_store (ty := 26) rfl ?_); refine Sep.store_own rfl 26 _ _ rfl rfl rfl (HS8.out.push_alloc Z 26) HSZ.out rfl HZA.out ?_; intro w9 h9; have HS9 := Aside0.mk h9; clear h9))
        generalize w8.heap.size = g8 at HS9 ⊢
        clear HS6 HS7 HS8 HD24
        go_upto_region 9 with (first
          | (go_at_call 25; (with_reducible refine (HD25.out _ _ HS9.out.up2).mono ?_); rintro e wa ⟨rfl, hb⟩; have HSa := Aside0.mk (HS9.out.step hb); clear hb)
          | ((with_reducible refine gate_store (ty := 26) rfl ?_); refine Sep.store_own rfl 26 _ _ rfl rfl rfl (HSa.out.push_alloc Z 26) HSZ.out rfl HZA.out ?_; intro wb hb; have HSb := Aside0.mk hb; clear hb))
        generalize wa.heap.size = g9 at HSb ⊢
        clear HS9 HSa HD25 hz
        go_wp2_with (first
          | (go_at_call 26; (with_reducible refine (HIN.out _ _ _ HSb.out.up2 HSb.out.up3).mono ?_); rintro e wc ⟨rfl, hb⟩; have HSc := Aside0.mk (HSb.out.step hb); clear hb)
          | ((with_reducible refine gate_load (ty := 26) rfl ?_); refine wpList_ldw ?_ 26 _ rfl ⟨g8, 0, none⟩ ?_ Z _ (cells_agg HSc.out.up1) Tryd.underlying26 rfl HSZ.out ?_; exact rfl; exact rfl; skip)
          | ((with_reducible refine gate_load (ty := 26) rfl ?_); refine wpList_ldw ?_ 26 _ rfl ⟨g9, 0, none⟩ ?_ Z _ (cells_agg HSc.out) Tryd.underlying26 rfl HSZ.out ?_; exact rfl; exact rfl; skip)
          | (go_at_call 27; (with_reducible refine (HSR.out _).mono ?_); rintro e wd ⟨rfl, hb⟩; have HSd := Aside0.mk (HSc.out.step hb); clear hb))
        go_ret
        exact ⟨rfl, HSd.out.below⟩
      | some r =>
        have HRO := Aside0.mk ((decJ_some HB.out.1 hd).1)
        have HD24 := Aside0.mk (decode_some b HB.out.1 A7 n c7 HB.out.2.1 (by have := HC7.out; omega) w7 (HH.out.below HS7.out.below) (C_pre8 (l := b) (r := marksL) (HX7.out w7 _ HS7.out) HB.out.2.1) r hd)
        have HD25 := Aside0.mk (fun (W : World) (M : List Th) (h : Sep w W (ownT (Kd.int .u8) 5 (.slice A n c) b :: M)) => decode17_some b HB.out.1 A n c HB.out.2.1 HC6.out.2 W (HX6.out W M h) r hd)
        have HSZ := Aside0.mk (fun A c => RC.size HRO.out A c)
        have HVA := Aside0.mk (fun A c => RC.V_all r A c)
        have HVS := Aside0.mk (fun A c => (show (r.V A c).toArray.size = 34 from by simpa using RC.V_len HRO.out A c))
        clear hd
        go_upto_region 8 with (first
          | (go_at_call 24; (with_reducible refine HD24.out.mono ?_); rintro e w8 ⟨A8, c8, rfl, h8⟩; have HS8 := Aside0.mk (HS7.out.then_ h8); clear h8)
          | ((with_reducible refine gate_store (ty := 26) rfl ?_); refine Sep.store_own rfl 26 _ _ rfl rfl rfl (HS8.out.push_alloc Z 26) (HSZ.out A8 c8) (HZs.out.trans (HVS.out A8 c8).symm) (HVA.out A8 c8) ?_; intro w9 h9; have HS9 := Aside0.mk h9; clear h9))
        generalize w8.heap.size = g8 at HS9 ⊢
        clear HS6 HS7 HS8 HD24
        go_upto_region 9 with (first
          | (go_at_call 25; (with_reducible refine (HD25.out _ _ HS9.out.up3).mono ?_); rintro e wa ⟨Aa, ca, rfl, ha⟩; have HSa := Aside0.mk (HS9.out.then_ ha); clear ha)
          | ((with_reducible refine gate_store (ty := 26) rfl ?_); refine Sep.store_own rfl 26 _ _ rfl rfl rfl (HSa.out.push_alloc Z 26) (HSZ.out Aa ca) (HZs.out.trans (HVS.out Aa ca).symm) (HVA.out Aa ca) ?_; intro wb hb; have HSb := Aside0.mk hb; clear hb))
        generalize wa.heap.size = g9 at HSb ⊢
        clear HS9 HSa HD25 hz
        have HSR := Aside0.mk (fun (W : World) (M M' : List Th) (h : Sep w W (ownT kRF 69 (.slice A8 r.r.length c8) r.r :: M)) (h' : Sep w W (ownT kRF 69 (.slice Aa r.r.length ca) r.r :: M')) => sameRecord r HRO.out r.r.length rfl A8 Aa c8 ca W h.own_C.1 h'.own_C.1)
        go_wp2_with (first
          | (go_at_call 26; (with_reducible refine (HIN.out _ _ _ HSb.out.up4 (HSb.out.drop.up4)).mono ?_); rintro e wc ⟨rfl, hb⟩; have HSc := Aside0.mk (HSb.out.step hb); clear hb)
          | ((with_reducible refine gate_load (ty := 26) rfl ?_); refine wpList_ldw ?_ 26 _ rfl ⟨g8, 0, none⟩ ?_ (r.V A8 c8).toArray _ (cells_agg HSc.out.up2) Tryd.underlying26 rfl (HSZ.out A8 c8) ?_; exact rfl; exact rfl; skip)
          | ((with_reducible refine gate_load (ty := 26) rfl ?_); refine wpList_ldw ?_ 26 _ rfl ⟨g9, 0, none⟩ ?_ (r.V Aa ca).toArray _ (cells_agg HSc.out) Tryd.underlying26 rfl (HSZ.out Aa ca) ?_; exact rfl; exact rfl; skip)
          | (go_at_call 27; (with_reducible refine (HSR.out _ _ _ HSc.out.up3 HSc.out.up1).mono ?_); rintro e wd ⟨rfl, hb⟩; have HSd := Aside0.mk (HSc.out.step hb); clear hb))
        go_ret
        exact ⟨rfl, HSd.out.below⟩
theorem journalReads_pure (l : List Int) (sm : Bool) (hl : l.length ≤ 140737488351232) (hw : ∀ n ∈ l, (Lit.int .u8 n).wf = true) : ∃ k : Nat, bytes_ l ∧ true = true := ⟨0, u8_wf hw, rfl⟩
theorem journalReads_row (k : Nat) (A : Option Addr) (c : Nat) (l : List Int) (sm : Bool) (v : Bool) (W : World) (hC : (Kd.int .u8).C W A l.length l) (hc : l.length ≤ c) (hG : Wr.Half W) (h : bytes_ l ∧ v = true) :
    Calls Tryd.prog 4 #[.slice A l.length c, .bool sm] W fun e w' => e = .returned (.bool v) ∧ Below W.heap.size W w' := by
  obtain ⟨h, rfl⟩ := h
  exact reads_calls l h A c hc sm W hG hC
end Go.Proofs.YtagodmmpkapgnaaDoor.M

namespace Go.Proofs.YtagodmmpkapgnaaDoor.journalReads
open Go.ChangeShapes Go.WideShapes Go.ChangeAt Go.RowKit Go.Proofs.YtagodmmpkapgnaaDoorW.PrintWords Go.Proofs.YtagodmmpkapgnaaDoorW.PrintLast Go.Proofs.YtagodmmpkapgnaaDoorW.PrintMore Go.Proofs.YtagodmmpkapgnaaDoor.P Go.Proofs.YtagodmmpkapgnaaDoor.M Go.Proofs.YtagodmmpkapgnaaDoor.Wr Go.Proofs.YtagodmmpkapgnaaDoor.Pl Go.Proofs.YtagodmmpkapgnaaDoor.A
set_option linter.unusedVariables false
theorem own : ownKnob Tryd.prog.godebug = none := by kernel_rfl
theorem laidOut : laidOutB Tryd.prog = true := by kernel_rfl
theorem gTab : Tryd.prog.globalNamed "kiln/wire.half" = some 0 := by kernel_rfl
theorem gTabType : (Tryd.prog.globals[0]?).map (·.type) = some 165 := by kernel_rfl
theorem cellsTab : Tryd.prog.cellsOf 165 = 16 := by kernel_rfl
theorem cells124 : Tryd.prog.cellsOf 124 = 1 := by kernel_rfl
theorem half_of {W : World} (h : laidMetH Tryd.prog Rows.journalReadsRow.laid W) : Wr.Half W := by
  have t : Lib.TabIs Tryd.prog W "kiln/wire.half" .u32 [0, 498536548, 997073096, 651767980, 1994146192, 1802195444, 1303535960, 1342533948, 3988292384, 4027552580, 3604390888, 3412177804, 2607071920, 2262029012, 2685067896, 3183342108] := Lib.tabIs_of_head (rest := []) gTab gTabType Tryd.underlying165 Tryd.underlying124 cells124 cellsTab h
  intro i hi
  have hc := t.cell gTab i (by simpa using hi)
  have e : ∀ j : Fin 16, ([0, 498536548, 997073096, 651767980, 1994146192, 1802195444, 1303535960, 1342533948, 3988292384, 4027552580, 3604390888, 3412177804, 2607071920, 2262029012, 2685067896, 3183342108] : List Int)[j.1]? = some ((halfL.getD j.1 0 : Nat) : Int) := by decide
  have e2 := e ⟨i, hi⟩
  first
  | (rw [List.getD_eq_getElem?_getD, e2] at hc; exact hc)
  | (rw [List.getElem?_eq_some_iff] at e2; obtain ⟨_, e3⟩ := e2; rw [e3] at hc; exact hc)
def IsRow (k : IntKind) (w : World) (a : Option Addr) (len cap : Nat) (zs : List Int) : Prop :=
  (a = none ∧ len = 0 ∧ cap = 0 ∧ zs = []) ∨
  ∃ x, a = some x ∧ len ≤ cap ∧ cap ≤ maxLen ∧ zs.length = cap ∧ (∀ i, i < zs.length → w.cell? (x.add i) = some (.int k (zs.getD i 0))) ∧ ∀ n ∈ zs, (Lit.int k n).wf = true
set_option maxRecDepth 100000 in
theorem contract (H : Type) (enc : TypeId × Value → H) (W : World) (base : Nat) (args : Array Value) (ds gs : List (DataW H)) (before : List MemPlace)
    (hval : ∀ (j : Nat) t v, Tryd.f4.params[j]? = some t → args[j]? = some v → Value.okWide Tryd.prog W .any base t v)
    (hW : DataW.Whole enc Tryd.prog Tryd.f4.params.toList Rows.journalReadsSpec.vars false W args.toList ds gs before)
    (hsz0 : (DataW.weightsEach Tryd.prog (Tryd.f4.params.toList ++ Rows.journalReadsSpec.plain.varTypes Tryd.prog) (ds ++ gs)).all (· ≤ reachBytes) = true)
    (hL : laidMetH Tryd.prog Rows.journalReadsRow.laid W) :
    Calls Tryd.prog 4 args W fun e W' => ∃ v, e = .returned v ∧ Rows.journalReadsSpec.post enc Tryd.prog Tryd.f4 false true false false W args v W' := by
  have hG := half_of hL
  have hW' := hW
  have hsz : (DataW.weightsEach Tryd.prog (Tryd.f4.params.toList ++ Rows.journalReadsSpec.plain.varTypes Tryd.prog) (ds ++ gs)).all (· ≤ reachBytes) = true := hsz0
  obtain ⟨p, q, hA0, hV, rfl, hfz, hnd⟩ := hW
  have hA : DataW.TrodAll enc Tryd.prog W 0 (fun _ => true) true Tryd.f4.params.toList args.toList ds p := hA0
  rw [Tryd.params4] at hA hval hsz
  obtain ⟨v0, vs0, d0, ds0, p0, q0, hargs, rfl, rfl, h0, r0⟩ := trodAll_cons hA
  obtain ⟨v1, vs1, d1, ds1, p1, q1, rfl, rfl, rfl, h1, r1⟩ := trodAll_cons r0
  obtain ⟨rfl, rfl, rfl⟩ := trodAll_nil r1
  obtain rfl : args = #[v0, v1] := by cases args; simp_all
  obtain ⟨rfl, rfl⟩ := trodVars_none hV
  obtain ⟨a0, len0, cap0, rfl⟩ := okWide_slice Tryd.underlying29 (hval 0 29 v0 rfl rfl)
  have k0 := h0
  have lt0 : ∀ x ∈ p0, x.block < W.heap.size := by obtain ⟨m, hm⟩ := k0; exact DataW.trod_lt m _ _ _ hm
  obtain ⟨z0, w0⟩ : ∃ zs, IsRow .u8 W a0 len0 cap0 zs := by
    obtain ⟨fuel, hf⟩ := h0
    rcases open_ints Tryd.underlying29 Tryd.underlying5 (by kernel_rfl) hf with ⟨hcs, _⟩ | ⟨x, l, c, zs, hcs, _, hl, hm, hz, _, hcell, hwz⟩
    · simp [Value.cells] at hcs
      obtain ⟨rfl, rfl, rfl⟩ := hcs
      exact ⟨[], .inl ⟨rfl, rfl, rfl, rfl⟩⟩
    · simp [Value.cells] at hcs
      obtain ⟨rfl, rfl, rfl⟩ := hcs
      exact ⟨zs, .inr ⟨_, rfl, hl, hm, by simpa using hz, hcell, hwz⟩⟩
  have y0 : len0 * 1 ≤ 140737488351232 := Go.Proofs.YtagodmmpkapgnaaDoorW.PrintWords.sized_ints hsz (j := 0) (t := 29) rfl rfl Tryd.underlying29 Tryd.underlying5 (by kernel_rfl) (by kernel_rfl) h0
  obtain ⟨a1, rfl, rfl, rfl⟩ := open_bool Tryd.underlying4 (hval 1 4 v1 rfl rfl) h1
  obtain ⟨l0, rfl, hr0, hm0, hw0, hc0⟩ := ReadsInt.ofRowC w0
  clear hA0 hsz0 hsz
  obtain ⟨k, h⟩ := M.journalReads_pure l0 a1 (by omega) hw0
  refine (M.journalReads_row k _ _ l0 a1 true W (Kd.C_of_reads (d := (0 : Int)) (h1 := fun _ => rfl) hr0) hc0 hG h).mono ?_
  rintro e W' ⟨rfl, bel⟩
  exact ⟨_, rfl, _, _, _, [], _, [], hW', trodAll_mk1 (shut_bool Tryd.underlying4 _), (trodAll_cons_mk (Below.trod laidOut (by kernel_rfl) (of_decide_eq_true (by kernel_rfl)) k0 bel lt0) (trodAll_cons_mk (shut_bool Tryd.underlying4 _) trodAll_mk0)), rfl, bel.frame _, fun h => by cases h⟩
noncomputable def laidWorld (os : Os) : World :=
  { World.holding Tryd.prog os ⟨#[], #[], []⟩ with heap := (World.holding Tryd.prog os ⟨#[], #[], []⟩).heap.modify 0 fun
      | .cells _ t frozen => .cells #[.int .u32 0, .int .u32 498536548, .int .u32 997073096, .int .u32 651767980, .int .u32 1994146192, .int .u32 1802195444, .int .u32 1303535960, .int .u32 1342533948, .int .u32 3988292384, .int .u32 4027552580, .int .u32 3604390888, .int .u32 3412177804, .int .u32 2607071920, .int .u32 2262029012, .int .u32 2685067896, .int .u32 3183342108] t frozen
      | o => o }
set_option maxRecDepth 100000 in
theorem laid_met (os : Os) : laidMet Tryd.prog Rows.journalReadsRow.laid ((laidWorld os).forCall (fun _ _ => 0) ⟨#[], #[.slice none 0 0, .bool false], []⟩).memory :=
  laidMet_of_run' 8 (by kernel_rfl) (by kernel_rfl)
set_option maxRecDepth 100000 in
theorem reads (os : Os) {H : Type} (enc : TypeId × Value → H) : ∃ places, DataW.whole enc Tryd.prog ((laidWorld os).forCall (fun _ _ => 0) ⟨#[], #[.slice none 0 0, .bool false], []⟩).memory Tryd.f4.params.toList Rows.journalReadsSpec.vars false (#[.slice none 0 0, .bool false] : Array Value).toList 8 = some ([.nil, .lit (.bool false)], [], places) :=
  ⟨[], by kernel_rfl⟩
set_option maxRecDepth 100000 in
theorem lifted (os : Os) (started : os.Started) (H : Type) (enc : TypeId × Value → H) (F : Stop.Interp) :
    ReturnsInHanded {} Tryd.checked os 4 .any ((OpenSpec.ofChange Rows.journalReadsSpec).preRow enc Tryd.prog Tryd.f4 Rows.journalReadsRow.domain false Rows.journalReadsRow.laid) (((OpenSpec.ofChange Rows.journalReadsSpec).at F).post enc Tryd.prog Tryd.f4 false true false false) := by
  obtain ⟨places, hx⟩ := reads os enc
  refine returnsInHanded_of_row (C := Tryd.checked) (s := OpenSpec.ofChange Rows.journalReadsSpec) own started (by kernel_rfl) Tryd.func4
    (witness_row_at (enc := enc) (C := Tryd.checked) false (laidWorld os) #[.slice none 0 0, .bool false] rfl (by kernel_rfl) (by kernel_rfl) (by kernel_rfl)
      (OpenSpec.preRow_of_cond 8 hx (by kernel_rfl) (fun k hk => by cases hk) (by kernel_rfl) (laid_met os))) ?_
  intro W base args ds gs before hval hW _ hcond hsz hL _ _
  exact contract H enc W base args ds gs before hval hW hsz hL
set_option maxRecDepth 100000 in
theorem said : Rows.JournalReadsSaid :=
  OpenClaim.holds_of_cond 4 Tryd.f4 rfl rfl rfl rfl rfl rfl rfl ⟨rfl, rfl, rfl, rfl, rfl⟩ rfl rfl rfl rfl rfl (by kernel_rfl) Tryd.func4 (by kernel_rfl)
    (of_decide_eq_true (by kernel_rfl)) (by unfold Func.isWrapper; first | (rw [if_pos (by decide +kernel)]; kernel_rfl) | (rw [if_neg (by decide +kernel)]; exact ⟨rfl, rfl⟩))
    (fun os started H enc _ F => by rw [OpenClaim.pre_eq_preRow]; exact lifted os started H enc F)
theorem plain (f : FuncId) (fn : Func) (hf : Tryd.pinned.checked.prog.funcNamed "kiln/kilnlaw17.JournalReads" = some f) (hfn : Tryd.pinned.checked.prog.funcs[f]? = some fn) :
    false = Tryd.pinned.checked.prog.looks [] ∧ ∀ (j : Nat) t, fn.params[j]? = some t → Tryd.pinned.checked.prog.wantsStandIn t = false := by
  obtain rfl : f = 4 := Option.some.inj ((show Tryd.prog.funcNamed "kiln/kilnlaw17.JournalReads" = some 4 by kernel_rfl).symm.trans hf) |>.symm
  obtain rfl : fn = Tryd.f4 := (Option.some.inj (Tryd.func4.symm.trans hfn)).symm
  refine ⟨by kernel_rfl, fun j t ht => ?_⟩
  rw [Tryd.params4] at ht
  have hm : t ∈ [29, 4] := by simpa using Array.mem_of_getElem? ht
  have hall : ([29, 4].all fun u => !Tryd.prog.wantsStandIn u) = true := by kernel_rfl
  exact (show Tryd.prog.wantsStandIn t = false by simpa using List.all_eq_true.1 hall t hm)
set_option maxRecDepth 100000 in
theorem card : Rows.JournalReadsCardSaid :=
  Claim7.holds_tied_plain_at .later [] _ _ _ _ said (fun _ h => by cases h) (by kernel_rfl) (fun _ h => by cases h) journalReads_row_tie rfl ⟨rfl, rfl⟩ (by kernel_rfl) rfl plain (by kernel_rfl)
#print axioms card
end Go.Proofs.YtagodmmpkapgnaaDoor.journalReads
namespace Go.Proofs.YtagodmmpkapgnaaDoor
theorem journalReads_card_holds : Rows.JournalReadsCardSaid := journalReads.card
end Go.Proofs.YtagodmmpkapgnaaDoor
