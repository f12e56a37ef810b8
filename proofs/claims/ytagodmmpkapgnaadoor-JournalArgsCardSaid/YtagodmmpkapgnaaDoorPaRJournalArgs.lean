/- what Replay and Open refuse, they refuse alike in the code and in the document; Replay on a disk writes nothing, and reads at most n sectors when it is let. No condition beyond the statement's own. -/
import Derived.Test.YtagodmmpkapgnaaDoorPaZ2
import Derived.Test.YtagodmmpkapgnaaDoorCards
import Derived.Test.YtagodmmpkapgnaaDoorTie
import Derived.WalkKit
import Derived.ProofKit
import Derived.OpenShut
import Derived.ShutString
import Derived.ChangeOld
import Derived.Below
import Derived.SizedLaws
import Derived.Deep.DeepHandedRow
import Derived.Lib.LaidTab
namespace Go.Proofs.YtagodmmpkapgnaaDoor.M
open Go.RowKit Go.Maps Go.Proofs.YtagodmmpkapgnaaDoorW.PrintWords Go.Proofs.YtagodmmpkapgnaaDoorW.PrintLast Go.Proofs.YtagodmmpkapgnaaDoorW.PrintMore Go.Proofs.YtagodmmpkapgnaaDoor.Wr Go.Proofs.YtagodmmpkapgnaaDoor.Pl Go.Proofs.YtagodmmpkapgnaaDoor.P Go.Proofs.YtagodmmpkapgnaaDoor.A
set_option linter.unusedVariables false
set_option linter.unusedSimpArgs false
def to5_T : Bool × List (List Nat × List Nat) := (true, [([], []), ([0], [0]), ([1], [1]), ([2], [2]), ([3, 2], [2, 3]), ([2, 4], [2, 4]), ([5, 2], [5]), ([6], [6]), ([7, 6], [6, 7]), ([6, 8], [6, 8]), ([9, 6], [9]), ([10], [10]), ([10], [10]), ([11, 12, 10, 10], [10, 11, 12]), ([13, 10], [10, 13]), ([10, 14], [10, 14]), ([15, 13], [15]), ([16], [16]), ([16, 16], [16]), ([17, 18, 18, 16], [16, 17, 18]), ([19, 16], [16, 19]), ([16, 20], [16, 20])])
def to5_B : List Nat := [0, 1, 3, 7, 15, 31, 63, 127, 255, 511, 1023, 2047, 2047, 8191, 16383, 32767, 65535, 131071, 131071, 524287, 1048575, 2097151]
theorem to5_tab : rtab .any (opsOf Tryd.f14 5) = to5_T := by kernel_rfl
theorem to5_bits : waitsOk to5_T.2 to5_B = true := by kernel_rfl
def toD1 : DS := DS.fresh 24 (List.replicate 24 zeros)
def toD2 : DS := (toD1.rdN 1).put 2 (encJ (oneR 0))
theorem toD1_cur {j : Nat} (h : j < 24) : toD1.cur j = zeros := fresh_cur h
theorem toD1_rep : repJ toD1.cur 2 8 8 0 = [] := repJ_none (by rw [show (2 + 0 % 8 : Nat) = 2 from rfl, toD1_cur (by decide)]; exact decJ_zeros)
theorem toD2_cur2 : toD2.flush.cur 2 = encJ (oneR 0) := by rw [flush_cur _ (show 2 < 24 by decide)]; exact put_cur _ _ _
theorem toD2_cur {j : Nat} (h : j < 24) (h2 : j ≠ 2) : toD2.flush.cur j = zeros := by
  rw [flush_cur _ (show j < 24 from h)]
  unfold toD2
  rw [put_cur_ne _ _ h2, DS.rdN_cur]
  exact toD1_cur h
theorem toD2_bytes (j : Nat) (h : j < 24) : bytes_ (toD2.flush.cur j) := by
  by_cases h2 : j = 2
  · subst h2; rw [toD2_cur2]; exact bytes_encJ (one_ok 0) (show 1 ≤ 8 by decide)
  · rw [toD2_cur h h2]; exact zeros_bytes
theorem toD2_rep : repJ toD2.flush.cur 2 8 8 0 = [oneR 0] := by
  rw [repJ_some (r := oneR 0) (by rw [show (2 + 0 % 8 : Nat) = 2 from rfl, toD2_cur2]; exact decJ_enc (one_ok 0) (one_may 0 (by decide) (by decide))) rfl]
  rw [repJ_none (by rw [show (2 + (0 + 1) % 8 : Nat) = 3 from rfl, toD2_cur (by decide) (by decide)]; exact decJ_zeros)]
theorem told_open {w0 w : World} {L : List Th} {g : Nat} (h : Sep w0 w (dkT g toD1 :: L)) (hH : Wr.Half w0) : Calls Tryd.prog 30 #[.pointer (some ⟨g, 0, none⟩), .int .i64 2, .int .i64 8, .int .i64 0] w fun e w' => ∃ gj A c, e = .returned (.tuple #[.pointer (some ⟨gj, 0, none⟩), .slice A 0 c, .int .i64 0]) ∧ Sep w0 w' (cellsT gj (jC g 2 8 0 0) 134 :: dkT g (toD1.rdN 1) :: L) := by
  refine (h.opens hH (fun i hi => by rw [toD1_cur hi]; exact zeros_bytes) 2 8 0 (by decide) (by decide) (show 2 + 8 ≤ 24 by decide) (by decide)).mono ?_
  rintro e w' ⟨gj, A, c, l, k, hl, hk, he, hS⟩
  rw [toD1_rep] at hl
  subst hl
  subst hk
  exact ⟨gj, A, c, he, hS.up1.drop⟩
theorem told_add {w0 w : World} {L : List Th} {gj g : Nat} {A : Option Addr} {c : Nat} (h : Sep w0 w (ownT kRF 69 (.slice A 1 c) (oneR 0).r :: cellsT gj (jC g 2 8 0 0) 134 :: L)) : Calls Tryd.prog 32 #[.pointer (some ⟨gj, 0, none⟩), .agg (nums .u8 (oneR 0).p).toArray, .slice A 1 c] w fun e w' => ∃ gw, e = .returned (.tuple #[.pointer (some ⟨gw, 0, none⟩), .int .i64 0]) ∧ Sep w0 w' (wT gw (newW gj (oneR 0).p (oneR 0).r) :: cellsT gj (jC g 2 8 0 0) 134 :: L) := by
  refine (h.up1.add (by decide) (by decide) (by decide) (by decide) (oneR 0).p rfl (oneR 0).r 1 rfl A c h.own_C.1).mono ?_
  rintro e w' ⟨h1, _⟩
  obtain ⟨gw, he, hS⟩ := h1 ⟨(refsM_iff _).2 ⟨Nat.le_refl _, (show 1 ≤ 8 by decide), (one_may 0 (by decide) (by decide)).r⟩, rfl⟩
  exact ⟨gw, he, hS.up2.drop⟩
theorem told_step1 {w0 w : World} {L : List Th} {gj gw g : Nat} (h : Sep w0 w (wT gw (newW gj (oneR 0).p (oneR 0).r) :: cellsT gj (jC g 2 8 0 0) 134 :: dkT g (toD1.rdN 1) :: L)) (hH : Wr.Half w0) : Calls Tryd.prog 33 #[.pointer (some ⟨gw, 0, none⟩)] w fun e w' => e = .returned (.tuple #[.bool false, .int .i64 0]) ∧ Sep w0 w' (wT gw { newW gj (oneR 0).p (oneR 0).r with nm := 0, wt := true } :: cellsT gj (jC g 2 8 0 1) 134 :: dkT g toD2 :: L) :=
  Sep.step_yes (x := newW gj (oneR 0).p (oneR 0).r) (fr := 2) (n := 8) (st := 0) (nx := 0) h hH rfl rfl (one_ok 0) ((refsM_iff _).2 ⟨Nat.le_refl _, (show 1 ≤ 8 by decide), (one_may 0 (by decide) (by decide)).r⟩) (by decide) (by decide) rfl (by decide) (show 2 + 8 ≤ 24 by decide) (by decide)
theorem told_replay {w0 w : World} {L : List Th} {g : Nat} (h : Sep w0 w (dkT g toD2.flush :: L)) (hH : Wr.Half w0) : Calls Tryd.prog 37 #[.pointer (some ⟨g, 0, none⟩), .int .i64 2, .int .i64 8, .int .i64 0] w fun e w' => ∃ A c, e = .returned (.tuple #[.slice A 1 c, .int .i64 0]) ∧ Sep w0 w' (ownT kRC 26 (.slice A 1 c) [oneR 0] :: L) := by
  refine (h.replay hH toD2_bytes 2 8 0 (by decide) (by decide) (show 2 + 8 ≤ 24 by decide) (by decide)).mono ?_
  rintro e w' ⟨A, c, l, k, hl, hk, he, hS⟩
  rw [toD2_rep] at hl
  subst hl
  subst hk
  exact ⟨A, c, he, hS.up1.drop⟩
set_option maxHeartbeats 16000000 in
set_option maxRecDepth 100000 in
theorem told_calls (w : World) (hH : Wr.Half w) : Calls Tryd.prog 14 #[] w fun e w' => e = .returned (.bool true) ∧ Below w.heap.size w w' := by
  have HH := Aside0.mk hH
  have HS0 := Aside0.mk (Sep.refl w)
  have HONE := Aside0.mk (fun (n : Int) (W : World) => one_calls n W)
  have HOK := Aside0.mk (one_ok 3)
  have HMAY := Aside0.mk (one_may 3 (by decide) (by decide))
  have HBB := Aside0.mk (And.intro (bytes_encJ HOK.out HMAY.out.r8) (encJ_len HOK.out HMAY.out.r8))
  have HE17 := Aside0.mk (fun (W : World) (A : Option Addr) (c : Nat) (M : List Th) (h : Sep w W (ownT kRF 69 (.slice A 1 c) (oneR 3).r :: M)) => encode17_yes (oneR 3) HOK.out HMAY.out A c W h.own_C.1)
  have HE := Aside0.mk (fun (W : World) (A : Option Addr) (c : Nat) (M : List Th) (h : Sep w W (ownT kRF 69 (.slice A 1 c) (oneR 3).r :: M)) => encode_yes (oneR 3) HOK.out HMAY.out A c W (hH.below h.below) h.own_C.1)
  have HDE := Aside0.mk (decJ_enc HOK.out HMAY.out)
  generalize encJ (oneR 3) = b at HBB HE17 HE HDE
  have hz := (zero_of_info (P := Tryd.prog) (t := 26) (v := .agg zRC) (n := 34) (by unfold zRC; kernel_rfl)).1
  have HSZ := Aside0.mk (show (Tryd.prog.info? 26).map (·.size) = some zRC.size from size26 zRC_size)
  have HZs := Aside0.mk zRC_size
  have HZA := Aside0.mk zRC_all
  generalize hZE : zRC = Z at hz HSZ HZs HZA
  have HZE := Aside0.mk hZE
  clear hZE
  have HZC := Aside0.mk (fun (W : World) (A : Option Addr) (c : Nat) (M : List Th) (h : Sep w W (ownT (Kd.int .u8) 5 (.slice A 512 c) zeros :: M)) => (show Calls Tryd.prog 24 #[.slice A 512 c] W (fun e w' => e = .returned (.tuple #[.agg Z, .int .i64 61]) ∧ Below W.heap.size W w') from by
    have h2 := h.own_C
    rw [zeros_len] at h2
    rw [← HZE.out]
    exact decode_none zeros zeros_bytes A 512 c zeros_len h2.2 W (hH.below h.below) h2.1 decJ_zeros))
  clear hH
  go_enter Tryd.func14, Tryd.ntmps14
  go_upto_region 2 with (first
    | (go_at_call 36; (with_reducible refine (HONE.out 3 _).mono ?_); rintro e w1 ⟨A1, c1, rfl, h1⟩; have HS1 := Aside0.mk h1; clear h1)
    | (go_at_call 18; (with_reducible refine (HE17.out _ _ _ _ HS1.out).mono ?_); rintro e w2 ⟨A2, c2, rfl, h2⟩; have HS2 := Aside0.mk ((HS1.out.then_ h2).up1.drop); clear h2))
  go_upto_region 3 with (first
    | (go_at_call 36; (with_reducible refine (HONE.out 3 _).mono ?_); rintro e w3 ⟨A3, c3, rfl, h3⟩; have HS3 := Aside0.mk (HS2.out.then_ h3); clear h3)
    | (go_at_call 17; (with_reducible refine (HE.out _ _ _ _ HS3.out).mono ?_); rintro e w4 ⟨A4, c4, rfl, h4⟩; have HS4 := Aside0.mk ((HS3.out.then_ h4).up1.drop); clear h4))
  clear HS1 HS2 HS3 HS0 HE HE17
  have HC4 := Aside0.mk (show (Kd.int .u8).C w4 A4 512 b ∧ 512 ≤ c4 from by have h := HS4.out.own_C; rwa [HBB.out.2] at h)
  have HC2 := Aside0.mk (show (Kd.int .u8).C w4 A2 512 b ∧ 512 ≤ c2 from by have h := HS4.out.up1.own_C; rwa [HBB.out.2] at h)
  have HDC := Aside0.mk (decode_some b HBB.out.1 A2 512 c2 HBB.out.2 HC2.out.2 w4 (HH.out.below HS4.out.below) HC2.out.1 (oneR 3) HDE.out)
  have HSV := Aside0.mk (fun A c => RC.size HOK.out A c)
  have HAV := Aside0.mk (fun A c => RC.V_all (oneR 3) A c)
  have HVS := Aside0.mk (fun A c => (show ((oneR 3).V A c).toArray.size = 34 from by simpa using RC.V_len HOK.out A c))
  have HSM := Aside0.mk (fun (W : World) (t u : Th) (h : Sep w W (t :: u :: ownT (Kd.int .u8) 5 (.slice A4 512 c4) b :: ownT (Kd.int .u8) 5 (.slice A2 512 c2) b :: [])) => (show Calls Tryd.prog 19 #[.slice A4 512 c4, .slice A2 512 c2] W (fun e w' => e = .returned (.bool true) ∧ Below W.heap.size W w') from by
    have h4 := h.up2.own_C; have h2 := h.up3.own_C
    rw [HBB.out.2] at h4 h2
    have h5 := same19 h4.1 h2.1 HBB.out.2 HBB.out.2 h4.2 h2.2 (by decide)
    rwa [decide_eq_true (rfl : b = b)] at h5))
  go_upto_region 4 with (first
    | (go_at_call 24; (with_reducible refine HDC.out.mono ?_); rintro e w5 ⟨A5, c5, rfl, h5⟩; have HS5 := Aside0.mk (HS4.out.then_ h5); clear h5; generalize hV : ((oneR 3).V A5 c5).toArray = V3; have HV := Aside0.mk hV; have HSV3 := Aside0.mk (HSV.out A5 c5); have HAV3 := Aside0.mk (HAV.out A5 c5); have HVS3 := Aside0.mk (HVS.out A5 c5); rw [hV] at HSV3 HAV3 HVS3; clear hV)
    | ((with_reducible refine gate_store (ty := 26) rfl ?_); refine Sep.store_own rfl 26 _ _ rfl rfl rfl (HS5.out.push_alloc Z 26) HSV3.out (HZs.out.trans HVS3.out.symm) HAV3.out ?_; intro w6 h6; have HS6 := Aside0.mk h6; clear h6))
  generalize w5.heap.size = g5 at HS6 ⊢
  clear HS5 HS4 HC4 HC2 HDC HDE
  go_upto_region 5 with (first
    | (at_make; refine Kd.R_make (Kd.int .u8) (w0 := w6) w6.heap.size 5 rfl (N := 33) rfl 29 (.const (.int .i64 512)) (.const (.int .i64 512)) rfl (512 : Int) rfl rfl Tryd.underlying29 (.int .u8 0) 1 info_u8 rfl (by decide) (by decide) 0 (ok := fun _ => True) (okp := fun _ => True) rfl (fun _ h => h) trivial (by decide) (by decide) (Below.refl _ _) (Nat.le_refl _) ?_; intro v7 w7 hr hb hg hat; have hS7 := HS6.out.push_own (xs := zeros) hr hb; have HS7 := Aside0.mk hS7; clear hr hb hg hat hS7; obtain ⟨A7, c7, rfl⟩ := HS7.out.own_slice; rw [zeros_len] at HS7 ⊢)
    | (go_at_call 24; (with_reducible refine (HZC.out _ _ _ _ HS7.out).mono ?_); rintro e w8 ⟨rfl, hb⟩; have HS8 := Aside0.mk (HS7.out.drop.step hb); clear hb)
    | ((with_reducible refine gate_store (ty := 26) rfl ?_); refine Sep.store_own rfl 26 _ _ rfl rfl rfl (HS8.out.push_alloc Z 26) HSZ.out rfl HZA.out ?_; intro w9 h9; have HS9 := Aside0.mk h9.drop; clear h9))
  clear HS6 HS7 HS8 hz HZC
  have HHS := Aside0.mk (fun (W : World) (M : List Th) (h : Sep w W (cellsT g5 V3 26 :: M)) => (show ∀ j v, V3.toList[j]? = some v → W.cell? ((⟨g5, 0, none⟩ : Addr).add j) = some v from fun j v hv => seg_at (cs := V3.toList) h.cells.1 0 V3.toList (by rw [List.drop_zero]; exact List.take_of_length_le (Nat.le_refl _)) j v hv))
  have HSR := Aside0.mk (fun (W : World) (A8 : Option Addr) (c8 : Nat) (M : List Th) (h : Sep w W (ownT kRF 69 (.slice A8 1 c8) (oneR 3).r :: cellsT g5 V3 26 :: ownT kRF 69 (.slice A5 1 c5) (oneR 3).r :: M)) => (show Calls Tryd.prog 27 #[.agg V3, .agg ((oneR 3).V A8 c8).toArray] W (fun e w' => e = .returned (.bool true) ∧ Below W.heap.size W w') from by
    have h2 := sameRecord (oneR 3) HOK.out 1 rfl A5 A8 c5 c8 W h.up2.own_C.1 h.own_C.1
    rw [HV.out] at h2
    exact h2))
  have HSx := Aside0.mk (HS9.out.step (below_drew1 (Below.refl w9.heap.size w9)))
  clear HS9
  refine start_ (n := 22) (S := fun W => ∀ j v, V3.toList[j]? = some v → W.cell? ((⟨g5, 0, none⟩ : Addr).add j) = some v) (ds := []) (bb 22 0) (by kernel_rfl) rfl rfl (HHS.out _ _ HSx.out) (fun hHeld => ?_); refine with_tabW to5_tab to5_bits (fun HT_ HW_ => ?_)
  generalize w9.drew = wd at hHeld HSx ⊢
  refine pure_ (i := 0) (N := (some 37)) (v := ?_) (a' := ?_) (bb 22 1) rfl rfl (any_of HT_.out (by kernel_rfl)) (fun _ _ _ h => h) (Or.inl ⟨by rfl, ?_⟩) ?_ ?_
  rotate_left
  · intro w'
    go_simp
    with_reducible rfl
  rotate_left
  · simp only [Act.put, List.setIfInBounds_toArray, List.set_cons_zero, List.set_cons_succ, i64_w, i32_w]
    rfl
  refine pure_ (i := 1) (N := (some 38)) (v := ?_) (a' := ?_) (bb 22 3) rfl rfl (any_of HT_.out (by kernel_rfl)) (fun _ _ _ h => h) (Or.inl ⟨by rfl, ?_⟩) ?_ ?_
  rotate_left
  · intro w'
    go_simp
    with_reducible rfl
  rotate_left
  · simp only [Act.put, List.setIfInBounds_toArray, List.set_cons_zero, List.set_cons_succ, i64_w, i32_w]
    rfl
  refine pure_ (i := 2) (N := (some 39)) (v := ?_) (a' := ?_) (bb 22 7) rfl rfl (any_of HT_.out (by kernel_rfl)) (fun _ _ _ h => h) (Or.inl ⟨by rfl, ?_⟩) ?_ ?_
  rotate_left
  · intro w'
    go_simp
    with_reducible rfl
  rotate_left
  · simp only [Act.put, List.setIfInBounds_toArray, List.set_cons_zero, List.set_cons_succ, i64_w, i32_w]
    rfl
  refine pure_ (i := 3) (N := (some 40)) (v := ?_) (a' := ?_) (bb 22 15) rfl rfl (any_of HT_.out (by kernel_rfl)) (fun _ _ _ h => h) (Or.inl ⟨by rfl, ?_⟩) ?_ ?_
  rotate_left
  · intro w'
    go_simp
    with_reducible rfl
  rotate_left
  · simp only [Act.put, List.setIfInBounds_toArray, List.set_cons_zero, List.set_cons_succ, i64_w, i32_w]
    rfl
  refine pure_ (i := 4) (N := (some 41)) (v := ?_) (a' := ?_) (bb 22 31) rfl rfl (any_of HT_.out (by kernel_rfl)) (fun _ _ _ h => h) (Or.inl ⟨by rfl, ?_⟩) ?_ ?_
  rotate_left
  · intro w'
    go_simp
    with_reducible rfl
  rotate_left
  · simp only [Act.put, List.setIfInBounds_toArray, List.set_cons_zero, List.set_cons_succ, i64_w, i32_w]
    rfl
  refine pure_ (i := 5) (N := (some 42)) (v := ?_) (a' := ?_) (bb 22 63) rfl rfl (any_of HT_.out (by kernel_rfl)) (fun _ _ _ h => h) (Or.inl ⟨by rfl, ?_⟩) ?_ ?_
  rotate_left
  · intro w'
    go_simp
    with_reducible rfl
  rotate_left
  · simp only [Act.put, List.setIfInBounds_toArray, List.set_cons_zero, List.set_cons_succ, i64_w, i32_w]
    rfl
  refine pure_ (i := 6) (N := (some 43)) (v := ?_) (a' := ?_) (bb 22 127) rfl rfl (any_of HT_.out (by kernel_rfl)) (fun _ _ _ h => h) (Or.inl ⟨by rfl, ?_⟩) ?_ ?_
  rotate_left
  · intro w'
    go_simp
    with_reducible rfl
  rotate_left
  · simp only [Act.put, List.setIfInBounds_toArray, List.set_cons_zero, List.set_cons_succ, i64_w, i32_w]
    rfl
  refine pure_ (i := 7) (N := (some 44)) (v := ?_) (a' := ?_) (bb 22 255) rfl rfl (any_of HT_.out (by kernel_rfl)) (fun _ _ _ h => h) (Or.inl ⟨by rfl, ?_⟩) ?_ ?_
  rotate_left
  · intro w'
    go_simp
    with_reducible rfl
  rotate_left
  · simp only [Act.put, List.setIfInBounds_toArray, List.set_cons_zero, List.set_cons_succ, i64_w, i32_w]
    rfl
  refine pure_ (i := 8) (N := (some 45)) (v := ?_) (a' := ?_) (bb 22 511) rfl rfl (any_of HT_.out (by kernel_rfl)) (fun _ _ _ h => h) (Or.inl ⟨by rfl, ?_⟩) ?_ ?_
  rotate_left
  · intro w'
    go_simp
    with_reducible rfl
  rotate_left
  · simp only [Act.put, List.setIfInBounds_toArray, List.set_cons_zero, List.set_cons_succ, i64_w, i32_w]
    rfl
  refine pure_ (i := 9) (N := (some 46)) (v := ?_) (a' := ?_) (bb 22 1023) rfl rfl (any_of HT_.out (by kernel_rfl)) (fun _ _ _ h => h) (Or.inl ⟨by rfl, ?_⟩) ?_ ?_
  rotate_left
  · intro w'
    go_simp
    with_reducible rfl
  rotate_left
  · simp only [Act.put, List.setIfInBounds_toArray, List.set_cons_zero, List.set_cons_succ, i64_w, i32_w]
    rfl
  refine pure_ (i := 10) (N := (some 47)) (v := ?_) (a' := ?_) (bb 22 2047) rfl rfl (any_of HT_.out (by kernel_rfl)) (fun _ _ _ h => h) (Or.inl ⟨by rfl, ?_⟩) ?_ ?_
  rotate_left
  · intro w'
    go_simp
    with_reducible rfl
  rotate_left
  · simp only [Act.put, List.setIfInBounds_toArray, List.set_cons_zero, List.set_cons_succ, i64_w, i32_w]
    rfl
  refine pure_ (i := 11) (N := (some 48)) (v := ?_) (a' := ?_) (bb 22 4095) rfl rfl (any_of HT_.out (by kernel_rfl)) (fun _ _ _ h => h) (Or.inl ⟨by rfl, ?_⟩) ?_ ?_
  rotate_left
  · intro w'
    go_simp
    with_reducible rfl
  rotate_left
  · simp only [Act.put, List.setIfInBounds_toArray, List.set_cons_zero, List.set_cons_succ, i64_w, i32_w]
    rfl
  refine pure_ (i := 12) (N := (some 49)) (v := ?_) (a' := ?_) (bb 22 8191) rfl rfl (any_of HT_.out (by kernel_rfl)) (fun _ _ _ h => h) (Or.inl ⟨by rfl, ?_⟩) ?_ ?_
  rotate_left
  · intro w'
    go_simp
    with_reducible rfl
  rotate_left
  · simp only [Act.put, List.setIfInBounds_toArray, List.set_cons_zero, List.set_cons_succ, i64_w, i32_w]
    rfl
  refine one_ (i := 13) (N := (some 50)) (bb 22 16383) rfl rfl (one_of HT_.out (by kernel_rfl)) (by decide) (fun K hK => ?_)
  refine goes_ Tryd.func19 (by kernel_rfl) rfl #[.slice A4 512 c4, .slice A2 512 c2] (by rfl) rfl rfl (by (try simp only [List.map_toArray, List.map_cons, List.map_nil]); first | done | rfl) ?_
  with_reducible refine (HSM.out _ _ _ HSx.out).mono ?_
  rintro e wa ⟨rfl, hb⟩
  have HSa := Aside0.mk (HSx.out.step hb)
  clear hb
  refine ⟨_, rfl, ?_⟩
  refine hK.out _ _ (HHS.out _ _ HSa.out) (fun hHeld => ?_)
  clear hK K
  refine norm_ (a' := ?_) ?_ ?_
  rotate_left
  · show Act.put _ (some 50) _ = _
    simp only [Act.put, List.setIfInBounds_toArray, List.set_cons_zero, List.set_cons_succ, i64_w, i32_w]
    rfl
  refine pure_ (i := 14) (N := (some 51)) (v := ?_) (a' := ?_) (bb 22 32767) rfl rfl (any_of HT_.out (by kernel_rfl)) (fun _ _ _ h => h) (Or.inl ⟨by rfl, ?_⟩) ?_ ?_
  rotate_left
  · intro w'
    go_simp
    with_reducible rfl
  rotate_left
  · simp only [Act.put, List.setIfInBounds_toArray, List.set_cons_zero, List.set_cons_succ, i64_w, i32_w]
    rfl
  refine pure_ (i := 15) (N := (some 52)) (v := ?_) (a' := ?_) (bb 22 65535) rfl rfl (any_of HT_.out (by kernel_rfl)) (fun _ _ _ h => h) (Or.inl ⟨by rfl, ?_⟩) ?_ ?_
  rotate_left
  · intro w'
    go_simp
    with_reducible rfl
  rotate_left
  · simp only [Act.put, List.setIfInBounds_toArray, List.set_cons_zero, List.set_cons_succ, i64_w, i32_w]
    rfl
  refine pure_ (i := 16) (N := (some 53)) (v := ?_) (a' := ?_) (bb 22 131071) rfl rfl (any_of HT_.out (by kernel_rfl)) (fun _ _ _ h => h) (Or.inl ⟨by rfl, ?_⟩) ?_ ?_
  rotate_left
  · intro w'
    go_simp
    with_reducible rfl
  rotate_left
  · simp only [Act.put, List.setIfInBounds_toArray, List.set_cons_zero, List.set_cons_succ, i64_w, i32_w]
    rfl
  refine take_ (i := 17) (N := (some 54)) (v := .agg V3) (a' := ?_) (bb 22 262143) rfl rfl (take_ofW HT_.out HW_.out (by kernel_rfl)) (fun _ _ _ h => h) (Or.inl ⟨by rfl, fun w' s0 => yields_ld 26 _ rfl ⟨g5, 0, none⟩ rfl V3 _ s0 Tryd.underlying26 rfl HSV3.out⟩) hHeld ?_ ?_
  rotate_left
  · simp only [Act.put, List.setIfInBounds_toArray, List.set_cons_zero, List.set_cons_succ, i64_w, i32_w]
    rfl
  refine one_ (i := 18) (N := (some 55)) (bb 22 524287) rfl rfl (one_of HT_.out (by kernel_rfl)) (by decide) (fun K hK => ?_)
  refine goes_ Tryd.func36 (by kernel_rfl) rfl #[.int .i64 3] (by rfl) rfl rfl (by (try simp only [List.map_toArray, List.map_cons, List.map_nil]); first | done | rfl) ?_
  with_reducible refine (HONE.out 3 _).mono ?_
  rintro e wb ⟨Ab, cb, rfl, hb⟩
  have HSb := Aside0.mk (HSa.out.then_ hb)
  clear hb
  refine ⟨_, rfl, ?_⟩
  refine hK.out _ _ (HHS.out _ _ HSb.out.up1) (fun hHeld => ?_)
  clear hK K
  refine norm_ (a' := ?_) ?_ ?_
  rotate_left
  · show Act.put _ (some 55) _ = _
    simp only [Act.put, List.setIfInBounds_toArray, List.set_cons_zero, List.set_cons_succ, i64_w, i32_w]
    rfl
  refine one_ (i := 19) (N := (some 56)) (bb 22 1048575) rfl rfl (one_of HT_.out (by kernel_rfl)) (by decide) (fun K hK => ?_)
  refine goes_ Tryd.func27 (by kernel_rfl) rfl #[.agg V3, .agg ((oneR 3).V Ab cb).toArray] (by rfl) rfl rfl (by (try simp only [List.map_toArray, List.map_cons, List.map_nil]); first | done | rfl) ?_
  with_reducible refine (HSR.out _ _ _ _ HSb.out).mono ?_
  rintro e wc ⟨rfl, hb⟩
  have HSc := Aside0.mk (HSb.out.step hb)
  clear hb
  refine ⟨_, rfl, ?_⟩
  refine hK.out _ _ (HHS.out _ _ HSc.out.up1) (fun hHeld => ?_)
  clear hK K
  refine norm_ (a' := ?_) ?_ ?_
  rotate_left
  · show Act.put _ (some 56) _ = _
    simp only [Act.put, List.setIfInBounds_toArray, List.set_cons_zero, List.set_cons_succ, i64_w, i32_w]
    rfl
  refine pure_ (i := 20) (N := (some 57)) (v := ?_) (a' := ?_) (bb 22 2097151) rfl rfl (any_of HT_.out (by kernel_rfl)) (fun _ _ _ h => h) (Or.inl ⟨by rfl, ?_⟩) ?_ ?_
  rotate_left
  · intro w'
    go_simp
    with_reducible rfl
  rotate_left
  · simp only [Act.put, List.setIfInBounds_toArray, List.set_cons_zero, List.set_cons_succ, i64_w, i32_w]
    rfl
  refine pure_ (i := 21) (N := (some 58)) (v := ?_) (a' := ?_) (bb 22 4194303) rfl rfl (any_of HT_.out (by kernel_rfl)) (fun _ _ _ h => h) (Or.inl ⟨by rfl, ?_⟩) ?_ ?_
  rotate_left
  · intro w'
    go_simp
    with_reducible rfl
  rotate_left
  · simp only [Act.put, List.setIfInBounds_toArray, List.set_cons_zero, List.set_cons_succ, i64_w, i32_w]
    rfl
  refine done_ (done_of HT_.out (by kernel_rfl)) ?_
  clear hHeld HT_ HW_ HSx HSa HSb HSM HSR HHS HSV3 HAV3 HVS3 HV HSV HAV HVS HBB HOK HMAY
  have HSn := Aside0.mk (Sep.start HSc.out.below)
  clear HSc
  have HNW := Aside0.mk (fun (W : World) (h : Sep w W []) => (show Calls Tryd.prog 29 #[.int .i64 24] W (fun e w' => ∃ g, e = .returned (.tuple #[.pointer (some ⟨g, 0, none⟩), .int .i64 0]) ∧ Sep w w' [dkT g toD1]) from h.new 24 (by decide) (by decide)))
  have HOK := Aside0.mk (one_ok 0)
  have HFP := Aside0.mk (fun A c W => field26_1 (oneR 0) rfl A c W)
  have HFR := Aside0.mk (fun (A : Option Addr) (c : Nat) (W : World) => (show (Instr.field 26 (.agg ((oneR 0).V A c).toArray) 2).run Tryd.prog W = .ok (.slice A 1 c) W from field26_2 (oneR 0) rfl A c W))
  go_upto_region 13 with (first
    | (go_at_call 29; (with_reducible refine (HNW.out _ HSn.out).mono ?_); rintro e w10 ⟨g, rfl, h1⟩; have HSd := Aside0.mk h1; clear h1)
    | (go_at_call 30; (with_reducible refine (told_open HSd.out HH.out).mono ?_); rintro e w11 ⟨gj, A11, c11, rfl, h1⟩; have HSe := Aside0.mk h1; clear h1))
  clear HSn HSd HNW
  go_upto_region 14 with (first
    | (go_at_call 36; (with_reducible refine (HONE.out 0 _).mono ?_); rintro e w13 ⟨An, cn, rfl, h1⟩; have HSg := Aside0.mk ((HSf.out.then_ h1).up1.drop); clear h1)
    | (go_at_call 32; (with_reducible refine (told_add HSg.out).mono ?_); rintro e w14 ⟨gw, rfl, h1⟩; have HSh := Aside0.mk h1; clear h1)
    | (go_at_call 36; (with_reducible refine (HONE.out 0 _).mono ?_); rintro e w12 ⟨Am, cm, rfl, h1⟩; have HSf := Aside0.mk (HSe.out.then_ h1); clear h1)
    | ((with_reducible refine gate_field (ty := 26) (f := 1) rfl ?_); refine wpList_fieldw rfl 26 _ 1 rfl _ _ rfl (HFP.out _ _ _) ?_)
    | ((with_reducible refine gate_field (ty := 26) (f := 2) rfl ?_); refine wpList_fieldw rfl 26 _ 2 rfl _ _ rfl (HFR.out _ _ _) ?_))
  clear HSe HSf HSg HFP HFR
  go_upto_region 18 with (first
    | (go_at_call 33; (with_reducible refine (told_step1 HSh.out HH.out).mono ?_); rintro e w15 ⟨rfl, h1⟩; have HSi := Aside0.mk h1; clear h1 HSh)
    | (go_at_call 33; (with_reducible refine (HSi.out.step_flush rfl rfl).mono ?_); rintro e w16 ⟨rfl, h1⟩; have HSj := Aside0.mk h1; clear h1 HSi))
  have HSk := Aside0.mk (show Sep w w16 (dkT g toD2.flush :: cellsT gj (jC g 2 8 0 1) 134 :: []) from HSj.out.drop.up1)
  clear HSj
  go_upto_region 19 with (go_at_call 37; (with_reducible refine (told_replay HSk.out HH.out).mono ?_); rintro e w17 ⟨Ar, cr, rfl, h1⟩; have HSl := Aside0.mk h1; clear h1)
  clear HSk
  have HSA := Aside0.mk (fun (W : World) (A1 A2 : Option Addr) (c1 c2 : Nat) (M : List Th) (h : Sep w W (ownT kRC 26 (.slice A2 1 c2) [oneR 0] :: ownT kRC 26 (.slice A1 1 c1) [oneR 0] :: M)) => sameAll [oneR 0] 1 rfl A1 A2 c1 c2 W h.up1.own_C.1 h.own_C.1)
  have HVS := Aside0.mk (fun A c => (show ((oneR 0).V A c).toArray.size = 34 from by simpa using RC.V_len HOK.out A c))
  go_wp2_with (first
    | (go_at_call 34; (with_reducible refine (next_calls HSl.out.up1.cells.1).mono ?_); rintro e w18 ⟨rfl, hb⟩; have HSm := Aside0.mk (HSl.out.step hb); clear hb)
    | (go_at_call 36; (with_reducible refine (HONE.out 0 _).mono ?_); rintro e w19 ⟨Ao, co, rfl, h1⟩; have HSo := Aside0.mk (HSm.out.then_ h1); clear h1)
    | ((with_reducible refine gate_bs (ty := 53) rfl ?_); refine gate_guard (by rfl) ?_; dsimp only; refine wpList_bs26 rfl _ rfl _ rfl (HVS.out Ao co) ?_; have HSp := Aside0.mk (HSo.out.push_rec (oneR 0) HOK.out))
    | (go_at_call 39; (with_reducible refine (HSA.out _ _ _ _ _ _ HSp.out).mono ?_); rintro e w20 ⟨rfl, hb⟩; have HSq := Aside0.mk (HSp.out.step hb); clear hb))
  go_ret
  exact ⟨rfl, HSq.out.below⟩
end Go.Proofs.YtagodmmpkapgnaaDoor.M

namespace Go.Proofs.YtagodmmpkapgnaaDoor.M
open Go.RowKit Go.Maps Go.Proofs.YtagodmmpkapgnaaDoorW.PrintWords Go.Proofs.YtagodmmpkapgnaaDoorW.PrintLast Go.Proofs.YtagodmmpkapgnaaDoorW.PrintMore Go.Proofs.YtagodmmpkapgnaaDoor.Wr Go.Proofs.YtagodmmpkapgnaaDoor.Pl Go.Proofs.YtagodmmpkapgnaaDoor.P Go.Proofs.YtagodmmpkapgnaaDoor.A
set_option linter.unusedVariables false
set_option linter.unusedSimpArgs false
theorem outj_true (n a b : Int) (w : World) (h : ¬ (a ≤ n ∧ n ≤ b)) : Calls Tryd.prog 62 #[.int .i64 n, .int .i64 a, .int .i64 b] w fun e w' => e = .returned (.bool true) ∧ Below w.heap.size w w' := by
  refine (outj_calls n a b w).mono ?_
  rintro e w' ⟨rfl, hb⟩
  refine ⟨?_, hb⟩
  by_cases hx : n < a
  · rw [decide_eq_true hx]; rfl
  · rw [decide_eq_false hx, decide_eq_true (show b < n by omega)]; rfl
set_option maxHeartbeats 8000000 in
set_option maxRecDepth 100000 in
theorem replay_nil (fr n st : Int) (w : World) : Calls Tryd.prog 37 #[.pointer none, .int .i64 fr, .int .i64 n, .int .i64 st] w fun e w' => e = .returned (.tuple #[.slice none 0 0, .int .i64 1]) ∧ Below w.heap.size w w' := by
  have HB0 := Aside0.mk (Below.refl w.heap.size w)
  go_enter Tryd.func37, Tryd.ntmps37
  go_wp2
  go_ret2
  exact ⟨rfl, HB0.out⟩
def badJ (sn fr n st : Int) : Prop := ¬ (0 ≤ fr ∧ 1 ≤ n ∧ n ≤ 1024 ∧ fr ≤ sn - n ∧ 0 ≤ st ∧ st ≤ 1099511627777)
set_option maxHeartbeats 8000000 in
set_option maxRecDepth 100000 in
theorem Sep.replay_no {w0 w : World} {L : List Th} {g : Nat} {s : DS} (h : Sep w0 w (dkT g s :: L)) (fr n st : Int) (hbad : badJ (s.n : Int) fr n st) :
    Calls Tryd.prog 37 #[.pointer (some ⟨g, 0, none⟩), .int .i64 fr, .int .i64 n, .int .i64 st] w fun e w' => e = .returned (.tuple #[.slice none 0 0, .int .i64 1]) ∧ Below w.heap.size w w' := by
  have HB0 := Aside0.mk (Below.refl w.heap.size w)
  have HS0 := Aside0.mk h
  have hs1 : (s.n : Int) ≤ 65536 := by have := h.dk_n; omega
  have hs0 : (0 : Int) ≤ (s.n : Int) := by omega
  clear h
  by_cases c1 : fr < 0
  · have t1 : decide (fr < 0) = true := decide_eq_true c1
    clear hbad
    go_enter Tryd.func37, Tryd.ntmps37
    go_wp2
    go_ret2
    exact ⟨rfl, HB0.out⟩
  · have t1 : decide (fr < 0) = false := decide_eq_false c1
    by_cases c2 : 1 ≤ n ∧ n ≤ 1024
    · have HF1 := Aside0.mk (fun W => outj_false n 1 1024 W c2)
      by_cases c3 : (s.n : Int) - n < fr
      · have t3 : decide ((s.n : Int) - n < fr) = true := decide_eq_true c3
        have hn1 := c2.1
        have hn2 := c2.2
        clear hbad c2 c1
        go_enter Tryd.func37, Tryd.ntmps37
        go_wp2_with (first
          | (go_at_call 62; (with_reducible refine (HF1.out _).mono ?_); rintro e w2 ⟨rfl, hb⟩; have HS1 := Aside0.mk (HS0.out.step hb); have HB1 := Aside0.mk hb; clear hb)
          | (go_at_call 79; (with_reducible refine (HS1.out.sectors).mono ?_); rintro e w3 ⟨rfl, rfl⟩))
        go_ret2
        exact ⟨rfl, HB1.out⟩
      · have t3 : decide ((s.n : Int) - n < fr) = false := decide_eq_false c3
        have HF2 := Aside0.mk (fun W => outj_true st 0 1099511627777 W (fun hx => hbad ⟨by omega, c2.1, c2.2, by omega, hx.1, hx.2⟩))
        have hn1 := c2.1
        have hn2 := c2.2
        clear hbad c2 c1
        go_enter Tryd.func37, Tryd.ntmps37
        go_wp2_with (first
          | (go_at_call 62; (with_reducible refine (HF1.out _).mono ?_); rintro e w2 ⟨rfl, hb⟩; have HS1 := Aside0.mk (HS0.out.step hb); have HB1 := Aside0.mk hb; clear hb)
          | (go_at_call 79; (with_reducible refine (HS1.out.sectors).mono ?_); rintro e w3 ⟨rfl, rfl⟩)
          | (go_at_call 62; (with_reducible refine (HF2.out _).mono ?_); rintro e w4 ⟨rfl, hb⟩; have HB2 := Aside0.mk (below_step HB1.out hb); clear hb))
        go_ret2
        exact ⟨rfl, HB2.out⟩
    · have HF1 := Aside0.mk (fun W => outj_true n 1 1024 W c2)
      clear hbad c2 c1
      go_enter Tryd.func37, Tryd.ntmps37
      go_wp2_with (go_at_call 62; (with_reducible refine (HF1.out _).mono ?_); rintro e w2 ⟨rfl, hb⟩; have HB1 := Aside0.mk hb; clear hb)
      go_ret2
      exact ⟨rfl, HB1.out⟩
set_option maxHeartbeats 8000000 in
set_option maxRecDepth 100000 in
theorem opens_of (p : Value) (fr n st : Int) (w : World) (h : Calls Tryd.prog 37 #[p, .int .i64 fr, .int .i64 n, .int .i64 st] w fun e w' => e = .returned (.tuple #[.slice none 0 0, .int .i64 1]) ∧ Below w.heap.size w w') :
    Calls Tryd.prog 30 #[p, .int .i64 fr, .int .i64 n, .int .i64 st] w fun e w' => e = .returned (.tuple #[.pointer none, .slice none 0 0, .int .i64 1]) ∧ Below w.heap.size w w' := by
  have HR := Aside0.mk h
  clear h
  go_enter Tryd.func30, Tryd.ntmps30
  go_wp2_with (go_at_call 37; (with_reducible refine HR.out.mono ?_); rintro e w2 ⟨rfl, hb⟩; have HB1 := Aside0.mk hb; clear hb)
  go_ret3
  exact ⟨rfl, HB1.out⟩
end Go.Proofs.YtagodmmpkapgnaaDoor.M

namespace Go.Proofs.YtagodmmpkapgnaaDoor.M
open Go.RowKit Go.Maps Go.Proofs.YtagodmmpkapgnaaDoorW.PrintWords Go.Proofs.YtagodmmpkapgnaaDoorW.PrintLast Go.Proofs.YtagodmmpkapgnaaDoorW.PrintMore Go.Proofs.YtagodmmpkapgnaaDoor.Wr Go.Proofs.YtagodmmpkapgnaaDoor.Pl Go.Proofs.YtagodmmpkapgnaaDoor.P Go.Proofs.YtagodmmpkapgnaaDoor.A
set_option linter.unusedVariables false
set_option linter.unusedSimpArgs false
structure JAt (s : DS) (fr n : Nat) (R : Nat → RC) (lo hi : Nat) : Prop where
  n1 : 1 ≤ n
  fit : fr + n ≤ s.n
  bytes : ∀ i, i < s.n → bytes_ (s.cur i)
  ok : ∀ x, lo ≤ x → x < hi → (R x).Ok ∧ (R x).May ∧ (R x).n = (x : Int)
  recs : ∀ x, lo ≤ x → x < hi → hi ≤ x + n → s.cur (fr + x % n) = encJ (R x)
  old : ∀ i, i < n → ∀ r, decJ (s.cur (fr + i)) = some r → r.n < (hi : Int)
theorem JAt.fresh (N fr n : Nat) (R : Nat → RC) (lo : Nat) (h1 : 1 ≤ n) (hf : fr + n ≤ N) : JAt (DS.fresh N (List.replicate N zeros)) fr n R lo lo :=
  ⟨h1, hf, fun i hi => by rw [fresh_cur (n := N) hi]; exact zeros_bytes, fun x h1 h2 => by omega, fun x h1 h2 => by omega, fun i hi r hr => by
    rw [fresh_cur (n := N) (show fr + i < N by omega), decJ_zeros] at hr
    cases hr⟩
theorem JAt.congr {s s' : DS} {fr n lo hi : Nat} {R : Nat → RC} (h : JAt s fr n R lo hi) (hn : s'.n = s.n) (hc : ∀ i, i < s.n → s'.cur i = s.cur i) : JAt s' fr n R lo hi :=
  ⟨h.n1, by rw [hn]; exact h.fit, fun i hi => by rw [hn] at hi; rw [hc i hi]; exact h.bytes i hi, h.ok, fun x h1 h2 h3 => by rw [hc _ (by have := Nat.mod_lt x h.n1; have := h.fit; omega)]; exact h.recs x h1 h2 h3, fun i hi r hr => by rw [hc _ (by have := h.fit; omega)] at hr; exact h.old i hi r hr⟩
theorem JAt.rd {s : DS} {fr n lo hi : Nat} {R : Nat → RC} (h : JAt s fr n R lo hi) (k : Nat) : JAt (s.rdN k) fr n R lo hi := h.congr (DS.rdN_n s k) (fun i _ => by rw [DS.rdN_cur])
theorem mod_ne {x y n : Nat} (h1 : x < y) (h2 : y < x + n) : x % n ≠ y % n := by
  intro h
  have hn : 0 < n := by omega
  have e : y = x + (y - x) := by omega
  have h3 : (y - x) % n = y - x := Nat.mod_eq_of_lt (by omega)
  have h4 : (y - x) % n = 0 := by
    have h5 := Nat.sub_mod_eq_zero_of_mod_eq h.symm
    exact h5
  omega
theorem JAt.put {s : DS} {fr n lo hi : Nat} {R : Nat → RC} (h : JAt s fr n R lo hi) (hl : lo ≤ hi) (ho : (R hi).Ok) (hm : (R hi).May) (hn : (R hi).n = (hi : Int)) : JAt (s.put (fr + hi % n) (encJ (R hi))) fr n R lo (hi + 1) := by
  have hq := Nat.mod_lt hi h.n1
  refine ⟨h.n1, h.fit, fun i hi' => ?_, fun x h1 h2 => ?_, fun x h1 h2 h3 => ?_, fun i hi' r hr => ?_⟩
  · by_cases e : i = fr + hi % n
    · subst e; rw [put_cur]; exact bytes_encJ ho hm.r8
    · rw [put_cur_ne _ _ e]; exact h.bytes i hi'
  · by_cases e : x = hi
    · subst e; exact ⟨ho, hm, hn⟩
    · exact h.ok x h1 (by omega)
  · by_cases e : x = hi
    · subst e; exact put_cur _ _ _
    · have := mod_ne (x := x) (y := hi) (n := n) (by omega) (by omega)
      rw [put_cur_ne _ _ (by omega)]
      exact h.recs x h1 (by omega) (by omega)
  · by_cases e : i = hi % n
    · subst e
      rw [put_cur, decJ_enc ho hm] at hr
      cases hr
      rw [hn]; omega
    · rw [put_cur_ne _ _ (by omega)] at hr
      have := h.old i hi' r hr
      omega
theorem JAt.flush {s : DS} {fr n lo hi : Nat} {R : Nat → RC} (h : JAt s fr n R lo hi) : JAt s.flush fr n R lo hi := h.congr rfl (fun i hi => flush_cur s hi)
end Go.Proofs.YtagodmmpkapgnaaDoor.M

namespace Go.Proofs.YtagodmmpkapgnaaDoor.M
open Go.RowKit Go.Maps Go.Proofs.YtagodmmpkapgnaaDoorW.PrintWords Go.Proofs.YtagodmmpkapgnaaDoorW.PrintLast Go.Proofs.YtagodmmpkapgnaaDoorW.PrintMore Go.Proofs.YtagodmmpkapgnaaDoor.Wr Go.Proofs.YtagodmmpkapgnaaDoor.Pl Go.Proofs.YtagodmmpkapgnaaDoor.P Go.Proofs.YtagodmmpkapgnaaDoor.A Go.Proofs.YtagodmmpkapgnaaDoor.Crc
set_option linter.unusedVariables false
set_option linter.unusedSimpArgs false
section
variable {ops : Array Oper} {rest : List Oper} {o : Oper} {a : Act} {Q : Exit → Act → World → Prop} {w0 W : World} {L : List Th}
end
def k3 : Kd (Int × Int × Int) where
  sz := 3
  E := []
  K := fun _ x cs => cs = [.int .i64 x.1, .int .i64 x.2.1, .int .i64 x.2.2]
  M := fun _ _ _ x cs => cs = [.int .i64 x.1, .int .i64 x.2.1, .int .i64 x.2.2]
  K_len := by rintro w x cs rfl; rfl
  K_one := by
    rintro w x cs rfl u hu
    simp only [List.mem_cons, List.not_mem_nil, or_false] at hu
    rcases hu with rfl | rfl | rfl <;> rfl
  K_below := fun _ h => h
  K_of_M := fun h => h
  M_mono := fun _ h => h
  M_bound := fun h => h
  M_move := fun _ h => h
  M_lower := fun _ h => h
end Go.Proofs.YtagodmmpkapgnaaDoor.M

namespace Go.Proofs.YtagodmmpkapgnaaDoor.M
open Go.RowKit Go.Maps Go.Proofs.YtagodmmpkapgnaaDoorW.PrintWords Go.Proofs.YtagodmmpkapgnaaDoorW.PrintLast Go.Proofs.YtagodmmpkapgnaaDoorW.PrintMore Go.Proofs.YtagodmmpkapgnaaDoor.Wr Go.Proofs.YtagodmmpkapgnaaDoor.Pl Go.Proofs.YtagodmmpkapgnaaDoor.P Go.Proofs.YtagodmmpkapgnaaDoor.A
set_option linter.unusedVariables false
set_option linter.unusedSimpArgs false
def mv1_T : Bool × List (List Nat × List Nat) := (true, [([], []), ([], []), ([1], [1]), ([2], [2]), ([3], [3]), ([], []), ([5], [5]), ([6], [6]), ([7], [7]), ([0, 4, 8], [0, 4, 8])])
def mv1_B : List Nat := [0, 0, 2, 6, 14, 0, 32, 96, 224, 511]
theorem mv1_tab : rtab .any (opsOf Tryd.f48 1) = mv1_T := by kernel_rfl
theorem mv1_bits : waitsOk mv1_T.2 mv1_B = true := by kernel_rfl
set_option maxHeartbeats 8000000 in
set_option maxRecDepth 100000 in
theorem Sep.move {w0 w : World} {L : List Th} {gj gd : Nat} {fr n st nx : Int} (h : Sep w0 w (cellsT gj (jC gd fr n st nx) 134 :: L)) (to9 : Int) (h1 : st ≤ to9) (h2 : to9 ≤ nx) :
    Calls Tryd.prog 48 #[.pointer (some ⟨gj, 0, none⟩), .int .i64 to9] w fun e w' => e = .returned (.int .i64 0) ∧ Sep w0 w' (cellsT gj (jC gd fr n to9 nx) 134 :: L) := by
  have HX := Aside0.mk (show w.cell? ⟨gj, 3, none⟩ = some (.int .i64 st) ∧ w.cell? ⟨gj, 4, none⟩ = some (.int .i64 nx) from ⟨blk_cell h.cells.1 3, blk_cell h.cells.1 4⟩)
  have HS := Aside0.mk h
  have HO := Aside0.mk (fun (W : World) => outj_false to9 st nx W ⟨h1, h2⟩)
  clear h h1 h2
  go_enter Tryd.func48, Tryd.ntmps48
  go_upto_region 1 with (fail)
  have HBx := Aside0.mk (below_drew1 (Below.refl w.heap.size w))
  refine start_ (n := 10) (S := fun W => W.cell? ⟨gj, 3, none⟩ = some (.int .i64 st) ∧ W.cell? ⟨gj, 4, none⟩ = some (.int .i64 nx)) (ds := []) (bb 10 0) (by kernel_rfl) rfl rfl (⟨pw_cell_below HBx.out HX.out.1, pw_cell_below HBx.out HX.out.2⟩) (fun hHeld => ?_); refine with_tabW mv1_tab mv1_bits (fun HT_ HW_ => ?_)
  generalize w.drew = wd at hHeld HBx ⊢
  refine pure_ (i := 0) (N := (some 5)) (v := ?_) (a' := ?_) (bb 10 1) rfl rfl (any_of HT_.out (by kernel_rfl)) (fun _ _ _ h => h) (Or.inl ⟨by rfl, ?_⟩) ?_ ?_
  rotate_left
  · intro w'
    go_simp
    with_reducible rfl
  rotate_left
  · simp only [Act.put, List.setIfInBounds_toArray, List.set_cons_zero, List.set_cons_succ, i64_w, i32_w]
    rfl
  refine pure_ (i := 1) (N := (some 6)) (v := ?_) (a' := ?_) (bb 10 3) rfl rfl (any_of HT_.out (by kernel_rfl)) (fun _ _ _ h => h) (Or.inl ⟨by rfl, ?_⟩) ?_ ?_
  rotate_left
  · intro w'
    go_simp
    with_reducible rfl
  rotate_left
  · simp only [Act.put, List.setIfInBounds_toArray, List.set_cons_zero, List.set_cons_succ, i64_w, i32_w]
    rfl
  refine pure_ (i := 2) (N := (some 7)) (v := ?_) (a' := ?_) (bb 10 7) rfl rfl (any_of HT_.out (by kernel_rfl)) (fun _ _ _ h => h) (Or.inl ⟨by rfl, ?_⟩) ?_ ?_
  rotate_left
  · intro w'
    go_simp
    with_reducible rfl
  rotate_left
  · simp only [Act.put, List.setIfInBounds_toArray, List.set_cons_zero, List.set_cons_succ, i64_w, i32_w]
    rfl
  refine pure_ (i := 3) (N := (some 8)) (v := ?_) (a' := ?_) (bb 10 15) rfl rfl (any_of HT_.out (by kernel_rfl)) (fun _ _ _ h => h) (Or.inl ⟨by rfl, ?_⟩) ?_ ?_
  rotate_left
  · intro w'
    go_simp
    with_reducible rfl
  rotate_left
  · simp only [Act.put, List.setIfInBounds_toArray, List.set_cons_zero, List.set_cons_succ, i64_w, i32_w]
    rfl
  refine take_ (i := 4) (N := (some 9)) (v := ?_) (a' := ?_) (bb 10 31) rfl rfl (take_ofW HT_.out HW_.out (by kernel_rfl)) (fun _ _ _ h => h) (Or.inl ⟨by rfl, ?_⟩) hHeld ?_ ?_
  rotate_left
  · intro w' s0
    (try dsimp only at s0)
    go_simp
    with_reducible rfl
  rotate_left
  · simp only [Act.put, List.setIfInBounds_toArray, List.set_cons_zero, List.set_cons_succ, i64_w, i32_w]
    rfl
  refine pure_ (i := 5) (N := (some 10)) (v := ?_) (a' := ?_) (bb 10 63) rfl rfl (any_of HT_.out (by kernel_rfl)) (fun _ _ _ h => h) (Or.inl ⟨by rfl, ?_⟩) ?_ ?_
  rotate_left
  · intro w'
    go_simp
    with_reducible rfl
  rotate_left
  · simp only [Act.put, List.setIfInBounds_toArray, List.set_cons_zero, List.set_cons_succ, i64_w, i32_w]
    rfl
  refine pure_ (i := 6) (N := (some 11)) (v := ?_) (a' := ?_) (bb 10 127) rfl rfl (any_of HT_.out (by kernel_rfl)) (fun _ _ _ h => h) (Or.inl ⟨by rfl, ?_⟩) ?_ ?_
  rotate_left
  · intro w'
    go_simp
    with_reducible rfl
  rotate_left
  · simp only [Act.put, List.setIfInBounds_toArray, List.set_cons_zero, List.set_cons_succ, i64_w, i32_w]
    rfl
  refine pure_ (i := 7) (N := (some 12)) (v := ?_) (a' := ?_) (bb 10 255) rfl rfl (any_of HT_.out (by kernel_rfl)) (fun _ _ _ h => h) (Or.inl ⟨by rfl, ?_⟩) ?_ ?_
  rotate_left
  · intro w'
    go_simp
    with_reducible rfl
  rotate_left
  · simp only [Act.put, List.setIfInBounds_toArray, List.set_cons_zero, List.set_cons_succ, i64_w, i32_w]
    rfl
  refine take_ (i := 8) (N := (some 13)) (v := ?_) (a' := ?_) (bb 10 511) rfl rfl (take_ofW HT_.out HW_.out (by kernel_rfl)) (fun _ _ _ h => h) (Or.inl ⟨by rfl, ?_⟩) hHeld ?_ ?_
  rotate_left
  · intro w' s0
    (try dsimp only at s0)
    go_simp
    with_reducible rfl
  rotate_left
  · simp only [Act.put, List.setIfInBounds_toArray, List.set_cons_zero, List.set_cons_succ, i64_w, i32_w]
    rfl
  refine one_ (i := 9) (N := (some 14)) (bb 10 1023) rfl rfl (one_of HT_.out (by kernel_rfl)) (by decide) (fun K hK => ?_)
  refine goes_ Tryd.func62 (by kernel_rfl) rfl #[.int .i64 to9, .int .i64 st, .int .i64 nx] (by rfl) rfl rfl (by (try simp only [List.map_toArray, List.map_cons, List.map_nil]); first | done | rfl) ?_
  with_reducible refine (HO.out _).mono ?_
  rintro e w2 ⟨rfl, hb⟩
  have HB2 := Aside0.mk (below_step HBx.out hb)
  clear hb
  refine ⟨_, rfl, ?_⟩
  refine hK.out _ _ (⟨pw_cell_below HB2.out HX.out.1, pw_cell_below HB2.out HX.out.2⟩) (fun hHeld => ?_)
  clear hK K
  refine norm_ (a' := ?_) ?_ ?_
  rotate_left
  · show Act.put _ (some 14) _ = _
    simp only [Act.put, List.setIfInBounds_toArray, List.set_cons_zero, List.set_cons_succ, i64_w, i32_w]
    rfl
  refine done_ (done_of HT_.out (by kernel_rfl)) ?_
  clear hHeld HT_ HW_
  have HS2 := Aside0.mk (HS.out.step HB2.out)
  clear HX HBx HB2
  have y3 : w2.cell? ⟨gj, 3, none⟩ = some (.int .i64 st) := blk_cell HS2.out.cells.1 3
  have f3 := frozen_of HS2.out 3
  go_wp2
  go_ret
  exact ⟨rfl, HS2.out.cset 3 (.int .i64 to9)⟩
end Go.Proofs.YtagodmmpkapgnaaDoor.M

namespace Go.Proofs.YtagodmmpkapgnaaDoor.M
open Go.RowKit Go.Maps Go.Proofs.YtagodmmpkapgnaaDoorW.PrintWords Go.Proofs.YtagodmmpkapgnaaDoorW.PrintLast Go.Proofs.YtagodmmpkapgnaaDoorW.PrintMore Go.Proofs.YtagodmmpkapgnaaDoor.Wr Go.Proofs.YtagodmmpkapgnaaDoor.Pl Go.Proofs.YtagodmmpkapgnaaDoor.P Go.Proofs.YtagodmmpkapgnaaDoor.A
set_option linter.unusedVariables false
set_option linter.unusedSimpArgs false
abbrev KW : Kd (List (List Int)) := Kd.slice 29 KB
def rwT (vL : Value) (l : List (List Int)) (vW : Value) (u : List (List (List Int))) : Th where
  P := fun w F => (KB.R 29 w 0 F vL l ∧ KW.R 75 w 0 (fun k => F k ∧ some k ≠ vL.ownBlock) vW u) ∧ ∀ b, F b → b < w.heap.size
  foot := fun h => h.2
  step := by
    rintro w w' F ⟨⟨h1, h3⟩, h2⟩ h
    exact ⟨⟨Kd.R_step h1 (fun k hk _ => h k hk), Kd.R_step h3 (fun k hk _ => h k hk.1)⟩, fun b hb => same_lt (h b hb) (h2 b hb)⟩
theorem info29 : (Tryd.prog.info? 29).map (fun i => (i.zero, i.size, i.bytes)) = some (some (.slice none 0 0), 1, 24) := by kernel_rfl
theorem info75 : (Tryd.prog.info? 75).map (fun i => (i.zero, i.size, i.bytes)) = some (some (.slice none 0 0), 1, 24) := by kernel_rfl
section
variable {ops : Array Oper} {rest : List Oper} {o : Oper} {a : Act} {Q : Exit → Act → World → Prop} {Kc : Act → World → Prop} {w0 W : World} {M : List Th}
theorem Sep.push_rw {w : World} (h : Sep w0 w M) : Sep w0 w (rwT (.slice none 0 0) [] (.slice none 0 0) [] :: M) :=
  h.push (t := rwT _ _ _ _) (Below.refl _ _) (F := fun _ => False) ⟨⟨Kd.R_nil _ _ _ _ _, Kd.R_nil _ _ _ _ _⟩, fun _ h => h.elim⟩ (fun _ h => h.elim)
theorem Sep.app_last_step (hw : Region.wanted o (yielded ops a.tmps) = true) (s x : Operand) (ho : o.op = .call { callee := .builtin .append, args := #[s, x], argTypes := #[75, 75] })
    {vL vW v : Value} {l : List (List Int)} {u : List (List (List Int))} (y : List Int) (hs : a.eval s = vL) (hx : a.eval x = .slice (some ⟨W.heap.size, 0, none⟩) 1 1) (h : Sep w0 W (ownT (Kd.int .u8) 5 v y :: rwT vL l vW u :: M)) (hl : l.length + 1 ≤ 1000000)
    (hk : ∀ v1 w1, Sep w0 w1 (rwT v1 (l ++ [y]) vW u :: M) → Kc (a.put o.dst v1) w1) : if Region.wanted o (yielded ops a.tmps) = true then Oper.wp Tryd.prog o a (W.alloc (.cells #[v] 29)) Kc Q else Kc (a.put o.dst undef) (W.alloc (.cells #[v] 29)) := by
  obtain ⟨U, ⟨F1, ⟨⟨b1, h1⟩, hlt1⟩, h2, F2, ⟨⟨h4, h6⟩, hlt2⟩, h5, _⟩, h7, h8⟩ := Sep.split (M := [ownT (Kd.int .u8) 5 v y, rwT vL l vW u]) h
  refine Kd.R_append_step KB (w0 := W) 0 hw s x 75 29 (.slice none 0 0) 24 ho Tryd.underlying75 info29 rfl (by decide) (by decide) vL l y [v] (fun k => F1 k ∨ F2 k ∨ W.heap.size ≤ k) F1 hs hx ⟨v, rfl, Kd.R_lower h1 (Nat.zero_le _)⟩ (fun k hk => ⟨.inl hk, fun e => (h5 k (h4.1 k e.symm)).2 hk⟩) (fun k hk => .inr (.inr hk)) (Kd.R_mono (Kd.R_lower h4 (Nat.zero_le _)) (fun _ hk => .inr (.inl hk))) (Below.refl _ _) (Nat.zero_le _) (by omega) ?_
  intro v1 w1 hown _ hg hat
  have hW := Kd.R_grown (Kd.R_bound h6) hg (fun k hk => hk.1.2)
  refine hk v1 w1 (h8 [rwT v1 (l ++ [y]) vW u] w1 ⟨fun k => (F1 k ∨ F2 k ∨ W.heap.size ≤ k) ∧ k < w1.heap.size, ⟨⟨Kd.R_mono (Kd.R_bound hown) (fun k hk => ⟨hk.1, hk.2.2.1⟩), Kd.R_mono hW (fun k hk => ⟨⟨.inr (.inl hk.1.1), Nat.lt_of_lt_of_le hk.2.2.1 hg.size⟩, fun e => ?_⟩)⟩, fun b hb => hb.2⟩, fun b hb => ?_, trivial⟩ (Chg.of_grown hg (fun k hk => (h5 k (h4.1 k hk)).1)))
  · rcases hat with hat | ⟨b, hb, hle⟩
    · exact hk.1.2 (by rw [e, hat])
    · rw [hb] at e
      injection e with e
      have := hk.2.2.1
      omega
  · rcases hb.1 with hb | hb | hb
    · exact .inl (h2 b hb)
    · exact .inl (h5 b hb).1
    · exact .inr hb
theorem Sep.app_write (hgd : o.guard = none) (s x : Operand) (ho : o.op = .call { callee := .builtin .append, args := #[s, x], argTypes := #[142, 142] })
    {vL vW : Value} {l : List (List Int)} {u : List (List (List Int))} (hs : a.eval s = vW) (hx : a.eval x = .slice (some ⟨W.heap.size, 0, none⟩) 1 1) (h : Sep w0 W (rwT vL l vW u :: M)) (hl : u.length + 1 ≤ 1000000)
    (hk : ∀ v1 w1, Sep w0 w1 (rwT vL l v1 (u ++ [[]]) :: M) → wpList Tryd.prog ops Q rest (a.put o.dst v1) w1) : wpList Tryd.prog ops Q (o :: rest) a (W.alloc (.cells #[.slice none 0 0] 75)) := by
  obtain ⟨F, ⟨⟨h4, h6⟩, hlt⟩, h2, h8⟩ := h.open1
  refine Kd.R_append KW (w0 := W) 0 hgd s x 142 75 (.slice none 0 0) 24 ho Tryd.underlying142 info75 rfl (by decide) (by decide) vW u [] [.slice none 0 0] (fun k => (F k ∧ some k ≠ vL.ownBlock) ∨ W.heap.size ≤ k) (fun _ => False) hs hx ⟨_, rfl, Kd.R_nil _ _ _ _ _⟩ (fun k hk => hk.elim) (fun k hk => .inr hk) (Kd.R_mono h6 (fun _ hk => .inl hk)) (Below.refl _ _) (Nat.zero_le _) (by omega) ?_
  intro v1 w1 hown _ hg hat
  have hL : KB.R 29 w1 0 F vL l := Kd.R_over' h4 (Kd.R_typed h6) (fun q hq => by
    simp only [List.mem_cons] at hq
    rcases hq with rfl | hq
    · decide
    · have hq : q ∈ [5] := hq
      have : q = 5 := by simpa using hq
      subst this
      decide) hg
  exact hk v1 w1 (h8 (rwT vL l v1 (u ++ [[]])) w1 (fun k => (F k ∨ W.heap.size ≤ k) ∧ k < w1.heap.size) ⟨⟨Kd.R_mono (Kd.R_bound hL) (fun k hk => ⟨.inl hk.1, hk.2.2.1⟩), Kd.R_mono (Kd.R_bound hown) (fun k hk => ⟨⟨hk.1.imp (fun h => h.1) id, hk.2.2.1⟩, fun e => by
    rcases hk.1 with h | h
    · exact h.2 e
    · have := Kd.R_lt h4 k e.symm
      omega⟩)⟩, fun b hb => hb.2⟩ (fun b hb => hb.1.imp id id) (Chg.of_grown hg (fun k hk => (h6.1 k hk).1)))
end
end Go.Proofs.YtagodmmpkapgnaaDoor.M

namespace Go.Proofs.YtagodmmpkapgnaaDoor.M
open Go.RowKit Go.Maps Go.Proofs.YtagodmmpkapgnaaDoorW.PrintWords Go.Proofs.YtagodmmpkapgnaaDoorW.PrintLast Go.Proofs.YtagodmmpkapgnaaDoorW.PrintMore Go.Proofs.YtagodmmpkapgnaaDoor.Wr Go.Proofs.YtagodmmpkapgnaaDoor.Pl Go.Proofs.YtagodmmpkapgnaaDoor.P Go.Proofs.YtagodmmpkapgnaaDoor.A
set_option linter.unusedVariables false
set_option linter.unusedSimpArgs false
def nd5_T : Bool × List (List Nat × List Nat) := (true, [([], []), ([], []), ([1], [1]), ([2], [2]), ([3], [3]), ([], []), ([5], [5]), ([4, 6], [4, 6]), ([0, 0, 1, 2, 3, 4, 5, 6, 7], [0]), ([8, 0, 1, 2, 3, 4, 5, 6, 7], [8]), ([9, 7, 7, 0, 1, 2, 3, 4, 5, 6, 7], [7, 9])])
def nd5_B : List Nat := [0, 0, 2, 6, 14, 0, 32, 126, 255, 511, 1023]
theorem nd5_tab : rtab .any (opsOf Tryd.f43 5) = nd5_T := by kernel_rfl
theorem nd5_bits : waitsOk nd5_T.2 nd5_B = true := by kernel_rfl
structure RS where
  L : List (List Int)
  W : List (List (List Int))
  wr : Int
  fl : Int
def refT (g : Nat) (s : RS) : Th := exT (fun q : Value × Value => [cellsT g #[q.1, q.2, .int .i64 s.wr, .int .i64 s.fl] 144, rwT q.1 s.L q.2 s.W])
def freshR (n : Nat) : RS := ⟨List.replicate n zeros, List.replicate n [], 0, 0⟩
section
variable {w0 w : World} {M : List Th} {vL vW : Value} {l : List (List Int)} {u : List (List (List Int))} {g : Nat} {s : RS}
theorem Sep.rw_slice (h : Sep w0 w (rwT vL l vW u :: M)) : ∃ A n c, vL = .slice A n c := by
  obtain ⟨F, ⟨⟨h1, h2⟩, _⟩, _⟩ := h.get
  obtain ⟨A, c, e⟩ := Kd.R_slice h1
  exact ⟨A, _, c, e⟩
theorem Sep.rw_slice2 (h : Sep w0 w (rwT vL l vW u :: M)) : ∃ A n c, vW = .slice A n c := by
  obtain ⟨F, ⟨⟨h1, h2⟩, _⟩, _⟩ := h.get
  obtain ⟨A, c, e⟩ := Kd.R_slice h2
  exact ⟨A, _, c, e⟩
theorem Sep.ref_open (h : Sep w0 w (refT g s :: M)) : ∃ vL vW, Sep w0 w (cellsT g #[vL, vW, .int .i64 s.wr, .int .i64 s.fl] 144 :: rwT vL s.L vW s.W :: M) := by
  obtain ⟨⟨vL, vW⟩, h2⟩ := Sep.exO (f := fun q : Value × Value => [cellsT g #[q.1, q.2, .int .i64 s.wr, .int .i64 s.fl] 144, rwT q.1 s.L q.2 s.W]) h
  exact ⟨vL, vW, h2⟩
theorem Sep.ref_close (h : Sep w0 w (cellsT g #[vL, vW, .int .i64 s.wr, .int .i64 s.fl] 144 :: rwT vL s.L vW s.W :: M)) : Sep w0 w (refT g s :: M) :=
  Sep.exI (f := fun q : Value × Value => [cellsT g #[q.1, q.2, .int .i64 s.wr, .int .i64 s.fl] 144, rwT q.1 s.L q.2 s.W]) (vL, vW) h
theorem Sep.down2' {a b c : Th} (h : Sep w0 w (b :: a :: c :: M)) : Sep w0 w (a :: c :: b :: M) := h.perm ((List.Perm.swap a b (c :: M)).trans (List.Perm.cons a (List.Perm.swap c b M)))
end
set_option maxHeartbeats 16000000 in
set_option maxRecDepth 100000 in
theorem newR43 (n : Nat) (hn : n ≤ 1000) (w : World) : Calls Tryd.prog 43 #[.int .i64 (n : Int)] w fun e w' => ∃ g, e = .returned (.pointer (some ⟨g, 0, none⟩)) ∧ Sep w w' [refT g (freshR n)] := by
  have HS0 := Aside0.mk (Sep.refl w)
  have HN := Aside0.mk hn
  clear hn
  go_enter Tryd.func43, Tryd.ntmps43
  go_upto_region 2 with (fail)
  have HS1 := Aside0.mk ((HS0.out.push_alloc #[.slice none 0 0, .slice none 0 0, .int .i64 0, .int .i64 0] 144).push_rw)
  generalize w.alloc (.cells #[.slice none 0 0, .slice none 0 0, .int .i64 0, .int .i64 0] 144) = w1 at HS1 ⊢
  generalize w.heap.size = g at HS1 ⊢
  clear HS0
  go_upto_region 3 with (fail)
  go_loopg [4] n (fun kq v4 wr => ∃ i : Nat, v4 = .int .i64 i ∧ Aside0 (i + kq = n) ∧ Aside0 (∃ vL vW, Sep w wr (cellsT g #[vL, vW, .int .i64 0, .int .i64 0] 144 :: rwT vL (List.replicate i zeros) vW (List.replicate i []) :: [])))
  case atStart => exact ⟨0, rfl, ⟨by omega⟩, ⟨_, _, HS1.out.up1⟩⟩
  case round =>
    obtain ⟨i, rfl, HJ, hS⟩ := hrel
    obtain ⟨vL, vW, hS⟩ := hS.out
    obtain ⟨AL, nL, cL, rfl⟩ := hS.up1.rw_slice
    obtain ⟨AW, nW, cW, rfl⟩ := hS.up1.rw_slice2
    have HS := Aside0.mk hS
    clear hS HS1
    by_cases hi : i < n
    · have t0 : decide (i < n) = true := decide_eq_true hi
      have HI := Aside0.mk (show i < n ∧ n ≤ 1000 from ⟨hi, HN.out⟩)
      go_upto_region 5 with (fail)
      have HSx := Aside0.mk (HS.out.step (below_drew1 (Below.refl wr.heap.size wr)))
      clear HS
      refine start_ (n := 11) (S := fun W => W.cell? ⟨g, 0, none⟩ = some (.slice AL nL cL)) (ds := [10]) (bb 11 0) (by kernel_rfl) rfl rfl (blk_cell HSx.out.cells.1 0) (fun hHeld => ?_); refine with_tabW nd5_tab nd5_bits (fun HT_ HW_ => ?_)
      generalize wr.drew = wd at hHeld HSx ⊢
      refine pure_ (i := 0) (N := (some 12)) (v := ?_) (a' := ?_) (bb 11 1) rfl rfl (any_of HT_.out (by kernel_rfl)) (fun _ _ _ h => h) (Or.inl ⟨by rfl, ?_⟩) ?_ ?_
      rotate_left
      · intro w'
        go_simp
        with_reducible rfl
      rotate_left
      · simp only [Act.put, List.setIfInBounds_toArray, List.set_cons_zero, List.set_cons_succ, i64_w, i32_w]
        rfl
      refine pure_ (i := 1) (N := (some 13)) (v := ?_) (a' := ?_) (bb 11 3) rfl rfl (any_of HT_.out (by kernel_rfl)) (fun _ _ _ h => h) (Or.inl ⟨by rfl, ?_⟩) ?_ ?_
      rotate_left
      · intro w'
        go_simp
        with_reducible rfl
      rotate_left
      · simp only [Act.put, List.setIfInBounds_toArray, List.set_cons_zero, List.set_cons_succ, i64_w, i32_w]
        rfl
      refine pure_ (i := 2) (N := (some 14)) (v := ?_) (a' := ?_) (bb 11 7) rfl rfl (any_of HT_.out (by kernel_rfl)) (fun _ _ _ h => h) (Or.inl ⟨by rfl, ?_⟩) ?_ ?_
      rotate_left
      · intro w'
        go_simp
        with_reducible rfl
      rotate_left
      · simp only [Act.put, List.setIfInBounds_toArray, List.set_cons_zero, List.set_cons_succ, i64_w, i32_w]
        rfl
      refine pure_ (i := 3) (N := (some 15)) (v := ?_) (a' := ?_) (bb 11 15) rfl rfl (any_of HT_.out (by kernel_rfl)) (fun _ _ _ h => h) (Or.inl ⟨by rfl, ?_⟩) ?_ ?_
      rotate_left
      · intro w'
        go_simp
        with_reducible rfl
      rotate_left
      · simp only [Act.put, List.setIfInBounds_toArray, List.set_cons_zero, List.set_cons_succ, i64_w, i32_w]
        rfl
      refine take_ (i := 4) (N := (some 16)) (v := ?_) (a' := ?_) (bb 11 31) rfl rfl (take_ofW HT_.out HW_.out (by kernel_rfl)) (fun _ _ _ h => h) (Or.inl ⟨by rfl, ?_⟩) hHeld ?_ ?_
      rotate_left
      · intro w' s0
        (try dsimp only at s0)
        go_simp
        with_reducible rfl
      rotate_left
      · simp only [Act.put, List.setIfInBounds_toArray, List.set_cons_zero, List.set_cons_succ, i64_w, i32_w]
        rfl
      refine one_ (i := 5) (N := (some 17)) (bb 11 63) rfl rfl (one_of HT_.out (by kernel_rfl)) (by decide) (fun K hK => ?_)
      refine Kd.R_make_step (Kd.int .u8) (w0 := wd) wd.heap.size 5 (by rfl) (N := 17) rfl 29 (.const (.int .i64 512)) (.const (.int .i64 512)) rfl (512 : Int) rfl rfl Tryd.underlying29 (.int .u8 0) 1 info_u8 rfl (by decide) (by decide) 0 (ok := fun _ => True) (okp := fun _ => True) rfl (fun _ h => h) trivial (by decide) (by decide) (Below.refl _ _) (Nat.le_refl _) ?_
      intro v7 w7 hr hb hg hat
      have hS7 := HSx.out.push_own (xs := zeros) hr hb
      have HS7 := Aside0.mk hS7
      clear hr hb hg hat hS7
      obtain ⟨A7, c7, rfl⟩ := HS7.out.own_slice
      rw [zeros_len] at HS7 ⊢
      refine hK.out _ _ (blk_cell HS7.out.up1.cells.1 0) (fun hHeld => ?_)
      clear hK K
      refine norm_ (a' := ?_) ?_ ?_
      rotate_left
      · show Act.put _ (some 17) _ = _
        simp only [Act.put, List.setIfInBounds_toArray, List.set_cons_zero, List.set_cons_succ, i64_w, i32_w]
        rfl
      refine one_ (i := 6) (N := (some 18)) (bb 11 127) rfl rfl (one_of HT_.out (by kernel_rfl)) (by decide) (fun K hK => ?_)
      refine value_ (w1 := ?_) (v := ?_) (by rfl) rfl ?_ ?_
      rotate_left 2
      · go_simp
        constructor
        · rfl
        · rfl
      have HS8 := Aside0.mk (HS7.out.step (below_alloc (Below.refl w7.heap.size w7) (.cells #[.slice A7 512 c7] 29)))
      refine hK.out _ _ (blk_cell HS8.out.up1.cells.1 0) (fun hHeld => ?_)
      clear hK K
      refine norm_ (a' := ?_) ?_ ?_
      rotate_left
      · show Act.put _ (some 18) _ = _
        simp only [Act.put, List.setIfInBounds_toArray, List.set_cons_zero, List.set_cons_succ, i64_w, i32_w]
        rfl
      refine one_ (i := 7) (N := (some 19)) (bb 11 255) rfl rfl (one_of HT_.out (by kernel_rfl)) (by decide) (fun K hK => ?_)
      refine Sep.app_last_step (by rfl) _ _ rfl zeros rfl rfl HS7.out.up1.down2' (by rw [List.length_replicate]; have := HI.out; omega) ?_
      intro v1 wa ha
      obtain ⟨A1, n1, c1, rfl⟩ := ha.rw_slice
      have HS9 := Aside0.mk ha.up1
      have z1 := blk_cell HS9.out.cells.1 0
      have z2 := frozen_of HS9.out 0
      clear ha
      refine hK.out _ _ (blk_cell HS9.out.cells.1 0) (fun hHeld => ?_)
      clear hK K
      refine norm_ (a' := ?_) ?_ ?_
      rotate_left
      · show Act.put _ (some 19) _ = _
        simp only [Act.put, List.setIfInBounds_toArray, List.set_cons_zero, List.set_cons_succ, i64_w, i32_w]
        rfl
      refine pure_ (i := 8) (N := (some 20)) (v := ?_) (a' := ?_) (bb 11 511) rfl rfl (any_of HT_.out (by kernel_rfl)) (fun _ _ _ h => h) (Or.inl ⟨by rfl, ?_⟩) ?_ ?_
      rotate_left
      · intro w'
        go_simp
        with_reducible rfl
      rotate_left
      · simp only [Act.put, List.setIfInBounds_toArray, List.set_cons_zero, List.set_cons_succ, i64_w, i32_w]
        rfl
      refine pure_ (i := 9) (N := (some 21)) (v := ?_) (a' := ?_) (bb 11 1023) rfl rfl (any_of HT_.out (by kernel_rfl)) (fun _ _ _ h => h) (Or.inl ⟨by rfl, ?_⟩) ?_ ?_
      rotate_left
      · intro w'
        go_simp
        with_reducible rfl
      rotate_left
      · simp only [Act.put, List.setIfInBounds_toArray, List.set_cons_zero, List.set_cons_succ, i64_w, i32_w]
        rfl
      refine last_ (i := 10) (N := none) (bb 11 2047) rfl rfl (one_of HT_.out (by kernel_rfl)) (by decide) (fun K hK => ?_)
      refine skip_ (w1 := ?_) (by rfl) rfl ?_ ?_
      rotate_left
      · go_simp
        first | rfl | (constructor <;> rfl)
      refine hK.out _ _ ?_
      clear hK K
      refine done_ (done_of HT_.out (by kernel_rfl)) ?_
      clear HT_ HW_
      have HSA := Aside0.mk (show Sep w (wa.setCell ⟨g, 0, none⟩ (.slice A1 n1 c1)) (cellsT g #[.slice A1 n1 c1, .slice AW nW cW, .int .i64 0, .int .i64 0] 144 :: rwT (.slice A1 n1 c1) (List.replicate (i + 1) zeros) (.slice AW nW cW) (List.replicate i []) :: []) from by
        have h := HS9.out.cset 0 (.slice A1 n1 c1)
        rw [show List.replicate (i + 1) zeros = List.replicate i zeros ++ [zeros] from List.replicate_succ']
        exact h)
      clear HS9 z1 z2 HSx HS7 HS8
      generalize wa.setCell ⟨g, 0, none⟩ (.slice A1 n1 c1) = wb at HSA ⊢
      have y1 : wb.cell? ⟨g, 1, none⟩ = some (.slice AW nW cW) := blk_cell HSA.out.cells.1 1
      go_upto_region 4 with ((with_reducible refine gate_builtin (b := .append) (xs := #[.tmp 26, .tmp 27]) rfl ?_); refine Sep.app_write rfl _ _ rfl rfl rfl HSA.out.up1 (by rw [List.length_replicate]; have := HI.out; omega) ?_; intro v8 w8 h8; obtain ⟨A8, n8, c8, rfl⟩ := h8.rw_slice2; have HSB := Aside0.mk h8.up1; clear h8; have z1 := blk_cell HSB.out.cells.1 1; have z2 := frozen_of HSB.out 1)
      go_wp2
      go_roundg (n - (i + 1))
      case measure => have := HJ.out; have := HI.out; omega
      case rel => exact ⟨i + 1, by rw [show wrap64 ((i : Int) + 1) = (i : Int) + 1 from w64 (by omega) (by have := HI.out; omega)]; rfl, ⟨by have := HJ.out; have := HI.out; omega⟩, ⟨.slice A1 n1 c1, .slice A8 n8 c8, by
        have h := HSB.out.cset 1 (.slice A8 n8 c8)
        rw [show List.replicate (i + 1) ([] : List (List Int)) = List.replicate i [] ++ [[]] from List.replicate_succ']
        exact h⟩⟩
    · obtain rfl : i = n := by have := HJ.out; omega
      have t0 : decide (i < i) = false := decide_eq_false (Nat.lt_irrefl i)
      go_wp2
      go_ret
      exact ⟨g, rfl, Sep.ref_close (s := freshR i) HS.out⟩
end Go.Proofs.YtagodmmpkapgnaaDoor.M

namespace Go.Proofs.YtagodmmpkapgnaaDoor.M
open Go.RowKit Go.Maps Go.Proofs.YtagodmmpkapgnaaDoorW.PrintWords Go.Proofs.YtagodmmpkapgnaaDoorW.PrintLast Go.Proofs.YtagodmmpkapgnaaDoorW.PrintMore Go.Proofs.YtagodmmpkapgnaaDoor.Wr Go.Proofs.YtagodmmpkapgnaaDoor.Pl Go.Proofs.YtagodmmpkapgnaaDoor.P Go.Proofs.YtagodmmpkapgnaaDoor.A
set_option linter.unusedVariables false
set_option linter.unusedSimpArgs false
def RS.cur (s : RS) (i : Nat) : List Int := if (s.W.getD i []).length = 0 then s.L.getD i [] else (s.W.getD i []).getD ((s.W.getD i []).length - 1) []
theorem at_KW {w : World} {A : Option Addr} {n : Nat} {xs : List (List (List Int))} (h : Kd.C KW w A n xs) (i : Int) (h0 : 0 ≤ i) (h1 : i < n) : ∃ ad A0 c0, A = some ad ∧ w.cell? (ad.add i.toNat) = some (.slice A0 (xs.getD i.toNat []).length c0) ∧ (xs.getD i.toNat []).length ≤ c0 ∧ KB.C w A0 (xs.getD i.toNat []).length (xs.getD i.toNat []) := by
  obtain ⟨ad, c, e, _, hK, hc0⟩ := Kd.C_get h ([] : List (List Int)) i h0 h1
  have hc : ∀ j u, c[j]? = some u → w.cell? (ad.add (i.toNat * 1 + j)) = some u := hc0
  obtain ⟨A0, c0, rfl, l0, g0⟩ := hK
  exact ⟨ad, A0, c0, e, by have hq := hc 0 _ rfl; rwa [Nat.mul_one, Nat.add_zero] at hq, l0, g0⟩
section
variable {w0 w : World} {M : List Th} {vL vW : Value} {l : List (List Int)} {u : List (List (List Int))} {g : Nat} {s : RS}
theorem Sep.rw_C {AL AW : Option Addr} {nL cL nW cW : Nat} (h : Sep w0 w (rwT (.slice AL nL cL) l (.slice AW nW cW) u :: M)) : nL = l.length ∧ nW = u.length ∧ KB.C w AL l.length l ∧ KW.C w AW u.length u := by
  obtain ⟨F, ⟨⟨h1, h2⟩, _⟩, _⟩ := h.get
  obtain ⟨a1, _, a3⟩ := Kd.R_reads' h1
  obtain ⟨b1, _, b3⟩ := Kd.R_reads' h2
  exact ⟨a1, b1, a3, b3⟩
end
set_option maxHeartbeats 16000000 in
set_option maxRecDepth 100000 in
theorem Sep.ref_read {w0 w : World} {M : List Th} {g : Nat} {s : RS} (h : Sep w0 w (refT g s :: M)) (hW : s.W.length = s.L.length) (hB : ∀ i, (s.W.getD i []).length ≤ 1000000) (i : Nat) (hi : i < s.L.length) :
    Calls Tryd.prog 80 #[.pointer (some ⟨g, 0, none⟩), .int .i64 (i : Int)] w fun e w' => ∃ A c, e = .returned (.slice A (s.cur i).length c) ∧ (s.cur i).length ≤ c ∧ (Kd.int .u8).C w A (s.cur i).length (s.cur i) ∧ w' = w := by
  obtain ⟨vL, vW, h⟩ := h.ref_open
  obtain ⟨AL, nL, cL, rfl⟩ := h.up1.rw_slice
  obtain ⟨AW, nW, cW, rfl⟩ := h.up1.rw_slice2
  obtain ⟨rfl, rfl, cl, cw⟩ := h.up1.rw_C
  have x0 : w.cell? ⟨g, 0, none⟩ = some (.slice AL s.L.length cL) := blk_cell h.cells.1 0
  have x1 : w.cell? ⟨g, 1, none⟩ = some (.slice AW s.W.length cW) := blk_cell h.cells.1 1
  obtain ⟨ad, A1, c1, rfl, x2, l1, g1⟩ := at_KW cw (i : Int) (by omega) (by omega)
  obtain ⟨ad2, A2, c2, rfl, x3, l2, g2⟩ := Wr.at_L1 cl (i : Int) (by omega) (by omega)
  rw [Int.toNat_natCast] at x2 x3 l1 l2 g1 g2
  have e2 : s.cur i = if (s.W.getD i []).length = 0 then s.L.getD i [] else (s.W.getD i []).getD ((s.W.getD i []).length - 1) [] := rfl
  have hB := hB i
  generalize s.W.getD i [] = u at x2 l1 g1 e2 hB
  generalize s.L.getD i [] = b at x3 l2 g2 e2
  rw [e2]
  clear h cl cw e2
  have hi1 : (i : Int) < (s.W.length : Int) := by omega
  have hi2 : (i : Int) < (s.L.length : Int) := by omega
  have hi0 : (0 : Int) ≤ (i : Int) := by omega
  by_cases hu : u.length = 0
  · have t0 : decide ((0 : Int) < (u.length : Int)) = false := decide_eq_false (by omega)
    rw [if_pos hu]
    have HR := Aside0.mk (And.intro l2 g2)
    clear l2 g2 l1 g1
    go_enter Tryd.func80, Tryd.ntmps80
    go_wp2
    go_ret
    exact ⟨A2, c2, rfl, HR.out.1, HR.out.2, rfl⟩
  · have t0 : decide ((0 : Int) < (u.length : Int)) = true := decide_eq_true (by omega)
    rw [if_neg hu]
    obtain ⟨ad3, A3, c3, rfl, x4, l3, g3⟩ := Wr.at_L1 g1 ((u.length - 1 : Nat) : Int) (by omega) (by omega)
    rw [Int.toNat_natCast] at x4 l3 g3
    have HR := Aside0.mk (And.intro l3 g3)
    clear l2 g2 l1 g1 l3 g3
    generalize hn : u.length = n at *
    generalize hm : n - 1 = m at *
    have hn1 : (m : Int) < (n : Int) := by omega
    have hn2 : (n : Int) - 1 = (m : Int) := by omega
    have hn3 : (n : Int) ≤ 1000000 := by omega
    go_enter Tryd.func80, Tryd.ntmps80
    go_wp2
    go_ret
    exact ⟨A3, c3, rfl, HR.out.1, HR.out.2, rfl⟩
end Go.Proofs.YtagodmmpkapgnaaDoor.M

namespace Go.Proofs.YtagodmmpkapgnaaDoor.M
open Go.RowKit Go.Maps Go.Proofs.YtagodmmpkapgnaaDoorW.PrintWords Go.Proofs.YtagodmmpkapgnaaDoorW.PrintLast Go.Proofs.YtagodmmpkapgnaaDoorW.PrintMore Go.Proofs.YtagodmmpkapgnaaDoor.Wr Go.Proofs.YtagodmmpkapgnaaDoor.Pl Go.Proofs.YtagodmmpkapgnaaDoor.P Go.Proofs.YtagodmmpkapgnaaDoor.A
set_option linter.unusedVariables false
set_option linter.unusedSimpArgs false
structure RS.Ok (s : RS) : Prop where
  n : s.L.length ≤ 1000
  e : s.W.length = s.L.length
  b : ∀ i, (s.W.getD i []).length ≤ 1000000
theorem Sep.ref_size {w0 w : World} {M : List Th} {g : Nat} {s : RS} (h : Sep w0 w (refT g s :: M)) : ∃ A c, w.cell? ⟨g, 0, none⟩ = some (.slice A s.L.length c) := by
  obtain ⟨vL, vW, h⟩ := h.ref_open
  obtain ⟨AL, nL, cL, rfl⟩ := h.up1.rw_slice
  obtain ⟨AW, nW, cW, rfl⟩ := h.up1.rw_slice2
  obtain ⟨rfl, rfl, cl, cw⟩ := h.up1.rw_C
  exact ⟨AL, cL, blk_cell h.cells.1 0⟩
set_option maxHeartbeats 16000000 in
set_option maxRecDepth 100000 in
theorem Sep.ref_replay_no {w0 w : World} {M : List Th} {g : Nat} {s : RS} (h : Sep w0 w (refT g s :: M)) (hO : s.Ok) (fr n st : Int) (hbad : badJ (s.L.length : Int) fr n st) :
    Calls Tryd.prog 42 #[.pointer (some ⟨g, 0, none⟩), .int .i64 fr, .int .i64 n, .int .i64 st] w fun e w' => e = .returned (.tuple #[.slice none 0 0, .int .i64 1]) ∧ w' = w := by
  obtain ⟨A, c, x0⟩ := h.ref_size
  have hs1 : (s.L.length : Int) ≤ 1000 := by have := hO.n; omega
  have hs0 : (0 : Int) ≤ (s.L.length : Int) := by omega
  clear h hO
  generalize s.L.length = N at *
  by_cases c1 : fr < 0
  · have t1 : decide (fr < 0) = true := decide_eq_true c1
    clear hbad
    go_enter Tryd.func42, Tryd.ntmps42
    go_wp2
    go_ret2
    exact ⟨rfl, rfl⟩
  have t1 : decide (fr < 0) = false := decide_eq_false c1
  by_cases c2 : n < 1
  · have t2 : decide (n < 1) = true := decide_eq_true c2
    clear hbad
    go_enter Tryd.func42, Tryd.ntmps42
    go_wp2
    go_ret2
    exact ⟨rfl, rfl⟩
  have t2 : decide (n < 1) = false := decide_eq_false c2
  by_cases c3 : 1024 < n
  · have t3 : decide (1024 < n) = true := decide_eq_true c3
    clear hbad
    go_enter Tryd.func42, Tryd.ntmps42
    go_wp2
    go_ret2
    exact ⟨rfl, rfl⟩
  have t3 : decide (1024 < n) = false := decide_eq_false c3
  have hn1 : 1 ≤ n := by omega
  have hn2 : n ≤ 1024 := by omega
  by_cases c4 : (N : Int) - n < fr
  · have t4 : decide ((N : Int) - n < fr) = true := decide_eq_true c4
    clear hbad c1 c2 c3
    go_enter Tryd.func42, Tryd.ntmps42
    go_wp2
    go_ret2
    exact ⟨rfl, rfl⟩
  have t4 : decide ((N : Int) - n < fr) = false := decide_eq_false c4
  by_cases c5 : st < 0
  · have t5 : decide (st < 0) = true := decide_eq_true c5
    clear hbad c1 c2 c3 c4
    go_enter Tryd.func42, Tryd.ntmps42
    go_wp2
    go_ret2
    exact ⟨rfl, rfl⟩
  have t5 : decide (st < 0) = false := decide_eq_false c5
  have t6 : decide (1099511627777 < st) = true := decide_eq_true (Classical.byContradiction fun c6 => hbad ⟨by omega, hn1, hn2, by omega, by omega, by omega⟩)
  clear hbad c1 c2 c3 c4 c5
  go_enter Tryd.func42, Tryd.ntmps42
  go_wp2
  go_ret2
  exact ⟨rfl, rfl⟩
set_option maxHeartbeats 32000000 in
set_option maxRecDepth 100000 in
theorem Sep.ref_replay {w0 w : World} {M : List Th} {g : Nat} {s : RS} (h : Sep w0 w (refT g s :: M)) (hO : s.Ok) (hb : ∀ i, i < s.L.length → bytes_ (s.cur i)) (fr n st : Nat) (h1 : 1 ≤ n) (h2 : n ≤ 1024) (h3 : fr + n ≤ s.L.length) (h4 : st ≤ 1099511627777) :
    Calls Tryd.prog 42 #[.pointer (some ⟨g, 0, none⟩), .int .i64 (fr : Int), .int .i64 (n : Int), .int .i64 (st : Int)] w fun e w' => ∃ A c l, l = repJ s.cur fr n n st ∧ e = .returned (.tuple #[.slice A l.length c, .int .i64 0]) ∧ Sep w0 w' (ownT kRC 26 (.slice A l.length c) l :: refT g s :: M) := by
  obtain ⟨AL, cL, x0⟩ := h.ref_size
  have HB := Aside0.mk hb
  have HO := Aside0.mk hO
  have HS0 := Aside0.mk h
  have hz := (zero_of_info (P := Tryd.prog) (t := 26) (v := .agg zRC) (n := 34) (by unfold zRC; kernel_rfl)).1
  have HSZ := Aside0.mk (show (Tryd.prog.info? 26).map (·.size) = some zRC.size from size26 zRC_size)
  have HZs := Aside0.mk zRC_size
  have HZA := Aside0.mk zRC_all
  have HFR := Aside0.mk h3
  have HN1 := Aside0.mk h1
  have f1 : decide ((fr : Int) < 0) = false := decide_eq_false (by omega)
  have f2 : decide ((n : Int) < 1) = false := decide_eq_false (by omega)
  have f3 : decide (1024 < (n : Int)) = false := decide_eq_false (by omega)
  have f4 : decide ((s.L.length : Int) - (n : Int) < (fr : Int)) = false := decide_eq_false (by omega)
  have f5 : decide ((st : Int) < 0) = false := decide_eq_false (by omega)
  have f6 : decide (1099511627777 < (st : Int)) = false := decide_eq_false (by omega)
  have hn1 : (n : Int) ≤ 1024 := by omega
  have hs1 : (s.L.length : Int) ≤ 1000 := by have := hO.n; omega
  have hs0 : (0 : Int) ≤ (s.L.length : Int) := by omega
  have hfr : (fr : Int) ≤ 65536 := by have := hO.n; omega
  have hst : (st : Int) ≤ 1099511627777 := by omega
  have hnz : ¬ (n : Int) = 0 := by omega
  have HST := Aside0.mk (show ∀ l : List RC, (l = repJ s.cur fr n n st) → ∀ (A : Option Addr) (c : Nat) (e : Ending) (w' : World), e = .returned (.tuple #[.slice A l.length c, .int .i64 0]) → Sep w0 w' (ownT kRC 26 (.slice A l.length c) l :: refT g s :: M) → ∃ A c l, l = repJ s.cur fr n n st ∧ e = .returned (.tuple #[.slice A l.length c, .int .i64 0]) ∧ Sep w0 w' (ownT kRC 26 (.slice A l.length c) l :: refT g s :: M) from fun l hl A c e w' he hS => ⟨A, c, l, hl, he, hS⟩)
  generalize hZE : zRC = Z at hz HSZ HZs HZA
  have HZE := Aside0.mk hZE
  clear hZE
  clear h hb h1 h2 h3 h4 hO
  go_enter Tryd.func42, Tryd.ntmps42
  go_upto_region 3 with (fail)
  clear f1 f2 f3 f4 f5 f6 x0
  go_upto_region 4 with (fail)
  go_loopg [10] n (fun kq v10 wr => ∃ (i : Nat) (A : Option Addr) (c : Nat) (xs : List RC), v10 = .slice A i c ∧ Aside0 (xs.length = i ∧ i + kq = n ∧ repJ s.cur fr n n st = xs ++ repJ s.cur fr n (n - i) (st + i)) ∧ Aside0 (Sep w0 wr (ownT kRC 26 (.slice A i c) xs :: refT g s :: M)))
  case atStart => exact ⟨0, none, 0, [], rfl, ⟨rfl, by omega, rfl⟩, ⟨HS0.out.push_nil kRC 26⟩⟩
  case round =>
    obtain ⟨i, A, c, xs, rfl, HJ, HS⟩ := hrel
    clear HS0
    by_cases hi : i < n
    · have t0 : decide ((i : Int) < (n : Int)) = true := decide_eq_true (by omega)
      have hi1 : (i : Int) < (n : Int) := by omega
      have HI := Aside0.mk hi
      have HM := Aside0.mk (show (st + i) % n < n from Nat.mod_lt _ HN1.out)
      have hmod : ((st : Int) + (i : Int)).tmod (n : Int) = (((st + i) % n : Nat) : Int) := by rw [← Int.natCast_add]; exact tmod_nat _ _
      have HRE := Aside0.mk (show repJ s.cur fr n n st = xs ++ repJ s.cur fr n ((n - (i + 1)) + 1) (st + i) from by rw [show (n - (i + 1)) + 1 = n - i by omega]; exact HJ.out.2.2)
      have HDN := Aside0.mk (fun x => repJ_none (S := s.cur) (fr := fr) (n := n) (k := n - (i + 1)) (s := st + i) x)
      have HDO := Aside0.mk (fun r x y => repJ_other (S := s.cur) (fr := fr) (n := n) (k := n - (i + 1)) (s := st + i) (r := r) x y)
      have HDS := Aside0.mk (fun r x y => repJ_some (S := s.cur) (fr := fr) (n := n) (k := n - (i + 1)) (s := st + i) (r := r) x y)
      generalize (st + i) % n = q at HM hmod HDN HDO HDS
      have hq : (q : Int) < (n : Int) := by have := HM.out; omega
      have HQ := Aside0.mk (show fr + q < s.L.length from by have := HM.out; have := HFR.out; omega)
      have HRD := Aside0.mk (show Calls Tryd.prog 80 #[.pointer (some ⟨g, 0, none⟩), .int .i64 ((fr : Int) + (q : Int))] wr (fun e w' => ∃ A c, e = .returned (.slice A (s.cur (fr + q)).length c) ∧ (s.cur (fr + q)).length ≤ c ∧ (Kd.int .u8).C wr A (s.cur (fr + q)).length (s.cur (fr + q)) ∧ w' = wr) from by
        have h := HS.out.up1.ref_read HO.out.e HO.out.b (fr + q) HQ.out
        rw [Int.natCast_add] at h
        exact h)
      have HBB := Aside0.mk (HB.out _ HQ.out)
      generalize s.cur (fr + q) = b at HRD HBB HDN HDO HDS
      cases hd : decJ b with
      | none =>
        have HRX := Aside0.mk (HDN.out hd)
        have HD := Aside0.mk hd
        clear hd HDN HDO HDS
        go_upto_region 7 with (first
          | (go_at_call 80; (with_reducible refine HRD.out.mono ?_); rintro e w5 ⟨A2, c2, rfl, q1, q2, q3⟩; subst q3; have HDC := Aside0.mk (decode17_none b HBB.out A2 _ c2 rfl q1 _ q2 HD.out); rw [HZE.out] at HDC; clear q1 q2)
          | (go_at_call 25; (with_reducible refine HDC.out.mono ?_); rintro e w6 ⟨rfl, hb⟩; have HS6 := Aside0.mk (HS.out.step hb); clear hb)
          | ((with_reducible refine gate_store (ty := 26) rfl ?_); refine Sep.store_own rfl 26 _ _ rfl rfl rfl (HS6.out.push_alloc Z 26) HSZ.out rfl HZA.out ?_; intro w7 h7; have HS7 := Aside0.mk h7; clear h7))
        clear HS HS6 HDC
        go_wp2
        go_ret2
        exact HST.out xs (by rw [HRE.out, HRX.out, List.append_nil]) A c _ _ (by rw [HJ.out.1]; rfl) (by rw [HJ.out.1]; exact HS7.out.drop)
      | some r =>
        have HRO := Aside0.mk ((decJ_some HBB.out hd).1)
        have HD := Aside0.mk hd
        have HDO := Aside0.mk (HDO.out r hd)
        have HDS := Aside0.mk (HDS.out r hd)
        clear hd HDN
        have HSV := Aside0.mk (fun A c => RC.size HRO.out A c)
        have HAV := Aside0.mk (fun A c => RC.V_all r A c)
        have HVS := Aside0.mk (fun A c => (show (r.V A c).toArray.size = 34 from by simpa using RC.V_len HRO.out A c))
        go_upto_region 7 with (first
          | (go_at_call 80; (with_reducible refine HRD.out.mono ?_); rintro e w5 ⟨A2, c2, rfl, q1, q2, q3⟩; subst q3; have HDC := Aside0.mk (decode17_some b HBB.out A2 _ c2 rfl q1 _ q2 r HD.out); clear q1 q2)
          | (go_at_call 25; (with_reducible refine HDC.out.mono ?_); rintro e w6 ⟨A3, c3, rfl, h6⟩; have HS6 := Aside0.mk (HS.out.then_ h6); clear h6; generalize hV : (r.V A3 c3).toArray = V; have HV := Aside0.mk hV; have HSV := Aside0.mk (HSV.out A3 c3); have HAV := Aside0.mk (HAV.out A3 c3); have HVS := Aside0.mk (HVS.out A3 c3); rw [hV] at HSV HAV HVS; clear hV)
          | ((with_reducible refine gate_store (ty := 26) rfl ?_); refine Sep.store_own rfl 26 _ _ rfl rfl rfl (HS6.out.push_alloc Z 26) HSV.out (HZs.out.trans HVS.out.symm) HAV.out ?_; intro w7 h7; have HS7 := Aside0.mk h7; clear h7))
        clear HS HS6 HDC
        generalize w6.heap.size = g7 at HS7 ⊢
        have x0 : w7.cell? ⟨g7, 0, none⟩ = some (.int .i64 r.n) := by
          have h := HS7.out.cells.1
          rw [← HV.out] at h
          exact cell_at h 0 rfl
        by_cases hr : r.n = (st : Int) + (i : Int)
        · have HRN := Aside0.mk (show r.n = ((st + i : Nat) : Int) from by rw [hr]; omega)
          have HRE2 := Aside0.mk (HDS.out HRN.out)
          go_upto_region 8 with (fail)
          have HS8 := Aside0.mk (HS7.out)
          clear x0 hr HS7
          have HLD := Aside0.mk (show ∀ j v, V.toList[j]? = some v → w7.cell? ((⟨g7, 0, none⟩ : Addr).add j) = some v from fun j v hv => seg_at (cs := V.toList) HS8.out.cells.1 0 V.toList (by rw [List.drop_zero]; exact List.take_of_length_le (Nat.le_refl _)) j v hv)
          have HS9 := Aside0.mk (show Sep w0 w7 (ownT kRC 26 (.slice A i c) xs :: ownT kRF 69 (.slice A3 r.r.length c3) r.r :: refT g s :: M) from HS8.out.drop.up1)
          go_wp2_with (first
            | ((with_reducible refine gate_load (ty := 26) rfl ?_); refine wpList_ldw ?_ 26 _ rfl ⟨g7, 0, none⟩ ?_ V _ HLD.out Tryd.underlying26 rfl HSV.out ?_; exact rfl; exact rfl; skip)
            | ((with_reducible refine gate_bs (ty := 53) rfl ?_); refine wpList_bs26 rfl _ rfl V rfl HVS.out ?_; rw [← HV.out])
            | ((with_reducible refine gate_builtin (b := .append) (xs := #[.tmp 74, .tmp 76]) rfl ?_); refine Sep.app_rec rfl _ _ rfl r HRO.out A3 c3 rfl rfl HS9.out ?aL ?_; (case aL => have := HJ.out.1; have := HI.out; omega); intro v1 wa ha; obtain ⟨A4, c4, rfl⟩ := ha.own_slice; have HSa := Aside0.mk ha; clear ha))
          go_roundg (n - (i + 1))
          case measure => have := HJ.out; have := HI.out; omega
          case rel => exact ⟨i + 1, A4, c4, xs ++ [r], by rw [HJ.out.1], ⟨by rw [List.length_append, HJ.out.1]; rfl, by have := HI.out; omega, by rw [HRE.out, HRE2.out, List.append_assoc]; rfl⟩, ⟨by have h := HSa.out; rw [List.length_append, HJ.out.1] at h; exact h⟩⟩
        · have HRX := Aside0.mk (HDO.out (fun e => hr (by rw [e]; omega)))
          go_wp2
          go_ret2
          exact HST.out xs (by rw [HRE.out, HRX.out, List.append_nil]) A c _ _ (by rw [HJ.out.1]; rfl) (by rw [HJ.out.1]; exact HS7.out.drop.drop)
    · have t0 : decide ((i : Int) < (n : Int)) = false := decide_eq_false (by omega)
      obtain rfl : i = n := by have := HJ.out.2.1; omega
      go_wp2
      go_ret2
      exact HST.out xs (by have h := HJ.out.2.2; rw [Nat.sub_self] at h; rw [h]; unfold repJ; rw [List.append_nil]) A c _ _ (by rw [HJ.out.1]; rfl) (by rw [HJ.out.1]; exact HS.out)
end Go.Proofs.YtagodmmpkapgnaaDoor.M

namespace Go.Proofs.YtagodmmpkapgnaaDoor.M
open Go.RowKit Go.Maps Go.Proofs.YtagodmmpkapgnaaDoorW.PrintWords Go.Proofs.YtagodmmpkapgnaaDoorW.PrintLast Go.Proofs.YtagodmmpkapgnaaDoorW.PrintMore Go.Proofs.YtagodmmpkapgnaaDoor.Wr Go.Proofs.YtagodmmpkapgnaaDoor.Pl Go.Proofs.YtagodmmpkapgnaaDoor.P Go.Proofs.YtagodmmpkapgnaaDoor.A
set_option linter.unusedVariables false
set_option linter.unusedSimpArgs false
theorem freshR_cur {n i : Nat} (h : i < n) : (freshR n).cur i = zeros := by
  have e1 : (freshR n).W.getD i [] = [] := by
    show (List.replicate n ([] : List (List Int))).getD i [] = []
    rw [List.getD_eq_getElem?_getD, List.getElem?_replicate]
    split <;> rfl
  have e2 : (freshR n).L.getD i [] = zeros := by
    show (List.replicate n zeros).getD i [] = zeros
    rw [List.getD_eq_getElem?_getD, List.getElem?_replicate, if_pos h]
    rfl
  unfold RS.cur
  rw [e1, e2]
  rfl
theorem freshR_ok (n : Nat) (h : n ≤ 1000) : (freshR n).Ok := by
  refine ⟨?_, ?_, fun i => ?_⟩
  · show (List.replicate n zeros).length ≤ 1000
    rw [List.length_replicate]; exact h
  · show (List.replicate n ([] : List (List Int))).length = (List.replicate n zeros).length
    rw [List.length_replicate, List.length_replicate]
  · have e1 : (freshR n).W.getD i [] = [] := by
      show (List.replicate n ([] : List (List Int))).getD i [] = []
      rw [List.getD_eq_getElem?_getD, List.getElem?_replicate]
      split <;> rfl
    rw [e1]; exact Nat.zero_le _
theorem freshR_n (n : Nat) : (freshR n).L.length = n := List.length_replicate
structure ArgsA (fr n st er : Int) (k : Nat) : Prop where
  j : ∀ {w0 w : World} {L : List Th} {g : Nat} (h : Sep w0 w (dkT g toD1 :: L)) (hH : Wr.Half w0), Calls Tryd.prog 37 #[.pointer (some ⟨g, 0, none⟩), .int .i64 fr, .int .i64 n, .int .i64 st] w fun e w' => ∃ A c, e = .returned (.tuple #[.slice A 0 c, .int .i64 er]) ∧ Sep w0 w' (dkT g (toD1.rdN k) :: L)
  r : ∀ {w0 w : World} {L : List Th} {g : Nat} (h : Sep w0 w (refT g (freshR 24) :: L)), Calls Tryd.prog 42 #[.pointer (some ⟨g, 0, none⟩), .int .i64 fr, .int .i64 n, .int .i64 st] w fun e w' => ∃ v, e = .returned (.tuple #[v, .int .i64 er]) ∧ Sep w0 w' (refT g (freshR 24) :: L)
  e : (er = 1 ∧ k = 0) ∨ (er = 0 ∧ k = 1 ∧ 1 ≤ n)
theorem argsA (fr n st : Int) : ∃ er k, ArgsA fr n st er k := by
  by_cases hb : badJ 24 fr n st
  · refine ⟨1, 0, ⟨?_, ?_, .inl ⟨rfl, rfl⟩⟩⟩
    · intro w0 w L g h hH
      refine (h.replay_no fr n st hb).mono ?_
      rintro e w' ⟨he, hb⟩
      exact ⟨none, 0, he, h.step hb⟩
    · intro w0 w L g h
      refine (h.ref_replay_no (freshR_ok 24 (by decide)) fr n st (by rw [freshR_n]; exact hb)).mono ?_
      rintro e w' ⟨he, rfl⟩
      exact ⟨_, he, h⟩
  · obtain ⟨a1, a2, a3, a4, a5, a6⟩ := Classical.byContradiction hb
    obtain ⟨fr, rfl⟩ := Int.eq_ofNat_of_zero_le a1
    obtain ⟨n, rfl⟩ := Int.eq_ofNat_of_zero_le (show 0 ≤ n by omega)
    obtain ⟨st, rfl⟩ := Int.eq_ofNat_of_zero_le a5
    have hq : fr + st % n < 24 := by
      have := Nat.mod_lt st (show 0 < n by omega)
      omega
    refine ⟨0, 1, ⟨?_, ?_, .inr ⟨rfl, rfl, a2⟩⟩⟩
    · intro w0 w L g h hH
      refine (h.replay hH (fun i hi => by rw [toD1_cur hi]; exact zeros_bytes) fr n st (by omega) (by omega) (show fr + n ≤ 24 by omega) (by omega)).mono ?_
      rintro e w' ⟨A, c, l, k, hl, hk, he, hS⟩
      obtain ⟨n, rfl⟩ : ∃ m, n = m + 1 := ⟨n - 1, by omega⟩
      rw [repJ_none (by rw [toD1_cur hq]; exact decJ_zeros)] at hl
      subst hl
      rw [if_pos (show ([] : List RC).length < n + 1 from Nat.succ_pos n)] at hk
      subst hk
      exact ⟨A, c, he, hS.drop⟩
    · intro w0 w L g h
      refine (h.ref_replay (freshR_ok 24 (by decide)) (fun i hi => by rw [freshR_n] at hi; rw [freshR_cur hi]; exact zeros_bytes) fr n st (by omega) (by omega) (by rw [freshR_n]; omega) (by omega)).mono ?_
      rintro e w' ⟨A, c, l, hl, he, hS⟩
      exact ⟨_, he, hS.drop⟩
set_option maxHeartbeats 16000000 in
set_option maxRecDepth 100000 in
theorem args9 (fr n st : Int) (w : World) (hH : Wr.Half w) : Calls Tryd.prog 9 #[.int .i64 fr, .int .i64 n, .int .i64 st] w fun e w' => e = .returned (.bool true) ∧ Below w.heap.size w w' := by
  obtain ⟨er, k, hA⟩ := argsA fr n st
  have HA := Aside0.mk hA
  have HH := Aside0.mk hH
  have HS0 := Aside0.mk (Sep.refl w)
  have HNR := Aside0.mk (fun W => replay_nil fr n st W)
  have HNO := Aside0.mk (fun W => opens_of (.pointer none) fr n st W (replay_nil fr n st W))
  have HTO := Aside0.mk (fun W (hb : Below w.heap.size w W) => told_calls W (hH.below hb))
  have HNW := Aside0.mk (fun (W : World) (h : Sep w W []) => (show Calls Tryd.prog 29 #[.int .i64 24] W (fun e w' => ∃ g, e = .returned (.tuple #[.pointer (some ⟨g, 0, none⟩), .int .i64 0]) ∧ Sep w w' [dkT g toD1]) from h.new 24 (by decide) (by decide)))
  have HNR2 := Aside0.mk (fun (W : World) => (show Calls Tryd.prog 43 #[.int .i64 24] W (fun e w' => ∃ g, e = .returned (.pointer (some ⟨g, 0, none⟩)) ∧ Sep W w' [refT g (freshR 24)]) from newR43 24 (by decide) W))
  have hz := (zero_of_info (P := Tryd.prog) (t := 88) (v := .agg #[.int .i64 0, .int .i64 0, .int .i64 0]) (n := 3) (by kernel_rfl)).1
  have HAC := Aside0.mk (show ∀ (w' : World) (L : List Th) (g : Nat) (h : Sep w w' (dkT g (toD1.rdN k) :: L)), Calls Tryd.prog 44 #[.pointer (some ⟨g, 0, none⟩)] w' (fun e w2 => e = .returned (.agg #[.int .i64 (k : Int), .int .i64 0, .int .i64 0]) ∧ Sep w w2 (dkT g (toD1.rdN k) :: L)) from fun w' L g h => by
    have := h.acts
    rcases hA.e with ⟨_, rfl⟩ | ⟨_, rfl, _⟩
    · exact this
    · have e1 : (toD1.rdN 1).r = 1 := (w64 (by decide) (by decide) : wrap64 ((0 : Int) + 1) = 0 + 1)
      rw [e1] at this
      exact this)
  have he := hA.e
  clear hA hH
  go_enter Tryd.func9, Tryd.ntmps9
  go_upto_region 5 with (first
    | (go_at_call 37; (with_reducible refine (HNR.out _).mono ?_); rintro e w1 ⟨rfl, hb⟩; have HS1 := Aside0.mk (HS0.out.step hb); clear hb)
    | (go_at_call 30; (with_reducible refine (HNO.out _).mono ?_); rintro e w2 ⟨rfl, hb⟩; have HS2 := Aside0.mk (HS1.out.step hb); clear hb)
    | (go_at_call 14; (with_reducible refine (HTO.out _ HS2.out.below).mono ?_); rintro e w3 ⟨rfl, hb⟩; have HS3 := Aside0.mk (HS2.out.step hb); clear hb))
  clear HS0 HS1 HS2 HNR HNO HTO
  go_upto_region 10 with (first
    | (go_at_call 29; (with_reducible refine (HNW.out _ HS3.out).mono ?_); rintro e w4 ⟨g, rfl, h4⟩; have HS4 := Aside0.mk h4; clear h4)
    | (go_at_call 37; (with_reducible refine (HA.out.j HS4.out HH.out).mono ?_); rintro e w5 ⟨A5, c5, rfl, h5⟩; have HS5 := Aside0.mk h5; clear h5)
    | (go_at_call 43; (with_reducible refine (HNR2.out _).mono ?_); rintro e w6 ⟨gr, rfl, h6⟩; have HS6 := Aside0.mk (HS5.out.then_ h6); clear h6)
    | (go_at_call 42; (with_reducible refine (HA.out.r HS6.out).mono ?_); rintro e w7 ⟨v7, rfl, h7⟩; have HS7 := Aside0.mk h7.drop; clear h7))
  go_upto_region 11 with (first
    | (go_at_call 44; (with_reducible refine (HAC.out _ _ _ HS7.out).mono ?_); rintro e w8 ⟨rfl, h8⟩; have HS8 := Aside0.mk h8; clear h8))
  have HS9 := Aside0.mk (HS8.out.push_alloc #[.int .i64 (k : Int), .int .i64 0, .int .i64 0] 88)
  generalize w8.alloc (.cells #[.int .i64 (k : Int), .int .i64 0, .int .i64 0] 88) = w9 at HS9 ⊢
  generalize w8.heap.size = g9 at HS9 ⊢
  have x0 := cell_at (cs := [.int .i64 (k : Int), .int .i64 0, .int .i64 0]) HS9.out.cells.1 0 rfl
  have x1 := cell_at (cs := [.int .i64 (k : Int), .int .i64 0, .int .i64 0]) HS9.out.cells.1 1 rfl
  have x2 := cell_at (cs := [.int .i64 (k : Int), .int .i64 0, .int .i64 0]) HS9.out.cells.1 2 rfl
  rcases he with ⟨rfl, rfl⟩ | ⟨rfl, rfl, hn⟩
  · go_wp2
    go_ret
    exact ⟨rfl, HS9.out.below⟩
  · have t1 : decide ((1 : Int) ≤ n) = true := decide_eq_true hn
    go_wp2
    go_ret
    exact ⟨rfl, HS9.out.below⟩
theorem journalArgs_pure (a0 a1 a2 : Int) (h0 : (Lit.int .i64 a0).wf = true) (h1 : (Lit.int .i64 a1).wf = true) (h2 : (Lit.int .i64 a2).wf = true) : ∃ k : Nat, true = true := ⟨0, rfl⟩
theorem journalArgs_row (k : Nat) (a0 a1 a2 : Int) (r : Bool) (w : World) (hG : Wr.Half w) (h : r = true) :
    Calls Tryd.prog 9 #[.int .i64 a0, .int .i64 a1, .int .i64 a2] w fun e w' => e = .returned (.bool r) ∧ Below w.heap.size w w' := by
  subst h
  exact args9 a0 a1 a2 w hG
end Go.Proofs.YtagodmmpkapgnaaDoor.M

namespace Go.Proofs.YtagodmmpkapgnaaDoor.journalArgs
open Go.ChangeShapes Go.WideShapes Go.ChangeAt Go.RowKit Go.Proofs.YtagodmmpkapgnaaDoorW.PrintWords Go.Proofs.YtagodmmpkapgnaaDoorW.PrintLast Go.Proofs.YtagodmmpkapgnaaDoorW.PrintMore Go.Proofs.YtagodmmpkapgnaaDoor.P Go.Proofs.YtagodmmpkapgnaaDoor.M Go.Proofs.YtagodmmpkapgnaaDoor.Wr Go.Proofs.YtagodmmpkapgnaaDoor.Pl Go.Proofs.YtagodmmpkapgnaaDoor.A
set_option linter.unusedVariables false
theorem own : ownKnob Tryd.prog.godebug = none := by kernel_rfl
theorem laidOut : laidOutB Tryd.prog = true := by kernel_rfl
theorem gTab : Tryd.prog.globalNamed "kiln/wire.half" = some 0 := by kernel_rfl
theorem gTabType : (Tryd.prog.globals[0]?).map (·.type) = some 165 := by kernel_rfl
theorem cellsTab : Tryd.prog.cellsOf 165 = 16 := by kernel_rfl
theorem cells124 : Tryd.prog.cellsOf 124 = 1 := by kernel_rfl
theorem half_of {W : World} (h : laidMetH Tryd.prog Rows.journalArgsRow.laid W) : Wr.Half W := by
  have t : Lib.TabIs Tryd.prog W "kiln/wire.half" .u32 [0, 498536548, 997073096, 651767980, 1994146192, 1802195444, 1303535960, 1342533948, 3988292384, 4027552580, 3604390888, 3412177804, 2607071920, 2262029012, 2685067896, 3183342108] := Lib.tabIs_of_head (rest := []) gTab gTabType Tryd.underlying165 Tryd.underlying124 cells124 cellsTab h
  intro i hi
  have hc := t.cell gTab i (by simpa using hi)
  have e : ∀ j : Fin 16, ([0, 498536548, 997073096, 651767980, 1994146192, 1802195444, 1303535960, 1342533948, 3988292384, 4027552580, 3604390888, 3412177804, 2607071920, 2262029012, 2685067896, 3183342108] : List Int)[j.1]? = some ((halfL.getD j.1 0 : Nat) : Int) := by decide
  have e2 := e ⟨i, hi⟩
  first
  | (rw [List.getD_eq_getElem?_getD, e2] at hc; exact hc)
  | (rw [List.getElem?_eq_some_iff] at e2; obtain ⟨_, e3⟩ := e2; rw [e3] at hc; exact hc)
def IsRow (k : IntKind) (w : World) (a : Option Addr) (len cap : Nat) (zs : List Int) : Prop :=
  (a = none ∧ len = 0 ∧ cap = 0 ∧ zs = []) ∨
  ∃ x, a = some x ∧ len ≤ cap ∧ cap ≤ maxLen ∧ zs.length = cap ∧ (∀ i, i < zs.length → w.cell? (x.add i) = some (.int k (zs.getD i 0))) ∧ ∀ n ∈ zs, (Lit.int k n).wf = true
set_option maxRecDepth 100000 in
theorem contract (H : Type) (enc : TypeId × Value → H) (W : World) (base : Nat) (args : Array Value) (ds gs : List (DataW H)) (before : List MemPlace)
    (hval : ∀ (j : Nat) t v, Tryd.f9.params[j]? = some t → args[j]? = some v → Value.okWide Tryd.prog W .any base t v)
    (hW : DataW.Whole enc Tryd.prog Tryd.f9.params.toList Rows.journalArgsSpec.vars false W args.toList ds gs before)
    (hsz0 : (DataW.weightsEach Tryd.prog (Tryd.f9.params.toList ++ Rows.journalArgsSpec.plain.varTypes Tryd.prog) (ds ++ gs)).all (· ≤ reachBytes) = true)
    (hL : laidMetH Tryd.prog Rows.journalArgsRow.laid W) :
    Calls Tryd.prog 9 args W fun e W' => ∃ v, e = .returned v ∧ Rows.journalArgsSpec.post enc Tryd.prog Tryd.f9 false true false false W args v W' := by
  have hG := half_of hL
  have hW' := hW
  have hsz : (DataW.weightsEach Tryd.prog (Tryd.f9.params.toList ++ Rows.journalArgsSpec.plain.varTypes Tryd.prog) (ds ++ gs)).all (· ≤ reachBytes) = true := hsz0
  obtain ⟨p, q, hA0, hV, rfl, hfz, hnd⟩ := hW
  have hA : DataW.TrodAll enc Tryd.prog W 0 (fun _ => true) true Tryd.f9.params.toList args.toList ds p := hA0
  rw [Tryd.params9] at hA hval hsz
  obtain ⟨v0, vs0, d0, ds0, p0, q0, hargs, rfl, rfl, h0, r0⟩ := trodAll_cons hA
  obtain ⟨v1, vs1, d1, ds1, p1, q1, rfl, rfl, rfl, h1, r1⟩ := trodAll_cons r0
  obtain ⟨v2, vs2, d2, ds2, p2, q2, rfl, rfl, rfl, h2, r2⟩ := trodAll_cons r1
  obtain ⟨rfl, rfl, rfl⟩ := trodAll_nil r2
  obtain rfl : args = #[v0, v1, v2] := by cases args; simp_all
  obtain ⟨rfl, rfl⟩ := trodVars_none hV
  obtain ⟨a0, rfl, rfl, rfl, w0⟩ := open_int Tryd.underlying3 (hval 0 3 v0 rfl rfl) h0
  obtain ⟨a1, rfl, rfl, rfl, w1⟩ := open_int Tryd.underlying3 (hval 1 3 v1 rfl rfl) h1
  obtain ⟨a2, rfl, rfl, rfl, w2⟩ := open_int Tryd.underlying3 (hval 2 3 v2 rfl rfl) h2
  clear hA0 hsz0 hsz
  obtain ⟨k, h⟩ := M.journalArgs_pure a0 a1 a2 w0 w1 w2
  refine (M.journalArgs_row k a0 a1 a2 true W  hG h).mono ?_
  rintro e W' ⟨rfl, bel⟩
  exact ⟨_, rfl, _, _, _, [], _, [], hW', trodAll_mk1 (shut_bool Tryd.underlying4 _), (trodAll_cons_mk (shut_int Tryd.underlying3 w0) (trodAll_cons_mk (shut_int Tryd.underlying3 w1) (trodAll_cons_mk (shut_int Tryd.underlying3 w2) trodAll_mk0))), rfl, bel.frame _, fun h => by cases h⟩
noncomputable def laidWorld (os : Os) : World :=
  { World.holding Tryd.prog os ⟨#[], #[], []⟩ with heap := (World.holding Tryd.prog os ⟨#[], #[], []⟩).heap.modify 0 fun
      | .cells _ t frozen => .cells #[.int .u32 0, .int .u32 498536548, .int .u32 997073096, .int .u32 651767980, .int .u32 1994146192, .int .u32 1802195444, .int .u32 1303535960, .int .u32 1342533948, .int .u32 3988292384, .int .u32 4027552580, .int .u32 3604390888, .int .u32 3412177804, .int .u32 2607071920, .int .u32 2262029012, .int .u32 2685067896, .int .u32 3183342108] t frozen
      | o => o }
set_option maxRecDepth 100000 in
theorem laid_met (os : Os) : laidMet Tryd.prog Rows.journalArgsRow.laid ((laidWorld os).forCall (fun _ _ => 0) ⟨#[], #[.int .i64 0, .int .i64 0, .int .i64 0], []⟩).memory :=
  laidMet_of_run' 8 (by kernel_rfl) (by kernel_rfl)
set_option maxRecDepth 100000 in
theorem reads (os : Os) {H : Type} (enc : TypeId × Value → H) : ∃ places, DataW.whole enc Tryd.prog ((laidWorld os).forCall (fun _ _ => 0) ⟨#[], #[.int .i64 0, .int .i64 0, .int .i64 0], []⟩).memory Tryd.f9.params.toList Rows.journalArgsSpec.vars false (#[.int .i64 0, .int .i64 0, .int .i64 0] : Array Value).toList 8 = some ([.lit (.int .i64 0), .lit (.int .i64 0), .lit (.int .i64 0)], [], places) :=
  ⟨[], by kernel_rfl⟩
set_option maxRecDepth 100000 in
theorem lifted (os : Os) (started : os.Started) (H : Type) (enc : TypeId × Value → H) (F : Stop.Interp) :
    ReturnsInHanded {} Tryd.checked os 9 .any ((OpenSpec.ofChange Rows.journalArgsSpec).preRow enc Tryd.prog Tryd.f9 Rows.journalArgsRow.domain false Rows.journalArgsRow.laid) (((OpenSpec.ofChange Rows.journalArgsSpec).at F).post enc Tryd.prog Tryd.f9 false true false false) := by
  obtain ⟨places, hx⟩ := reads os enc
  refine returnsInHanded_of_row (C := Tryd.checked) (s := OpenSpec.ofChange Rows.journalArgsSpec) own started (by kernel_rfl) Tryd.func9
    (witness_row_at (enc := enc) (C := Tryd.checked) false (laidWorld os) #[.int .i64 0, .int .i64 0, .int .i64 0] rfl (by kernel_rfl) (by kernel_rfl) (by kernel_rfl)
      (OpenSpec.preRow_of_cond 8 hx (by kernel_rfl) (fun k hk => by cases hk) (by kernel_rfl) (laid_met os))) ?_
  intro W base args ds gs before hval hW _ hcond hsz hL _ _
  exact contract H enc W base args ds gs before hval hW hsz hL
set_option maxRecDepth 100000 in
theorem said : Rows.JournalArgsSaid :=
  OpenClaim.holds_of_cond 9 Tryd.f9 rfl rfl rfl rfl rfl rfl rfl ⟨rfl, rfl, rfl, rfl, rfl⟩ rfl rfl rfl rfl rfl (by kernel_rfl) Tryd.func9 (by kernel_rfl)
    (of_decide_eq_true (by kernel_rfl)) (by unfold Func.isWrapper; first | (rw [if_pos (by decide +kernel)]; kernel_rfl) | (rw [if_neg (by decide +kernel)]; exact ⟨rfl, rfl⟩))
    (fun os started H enc _ F => by rw [OpenClaim.pre_eq_preRow]; exact lifted os started H enc F)
theorem plain (f : FuncId) (fn : Func) (hf : Tryd.pinned.checked.prog.funcNamed "kiln/kilnlaw17.JournalArgs" = some f) (hfn : Tryd.pinned.checked.prog.funcs[f]? = some fn) :
    false = Tryd.pinned.checked.prog.looks [] ∧ ∀ (j : Nat) t, fn.params[j]? = some t → Tryd.pinned.checked.prog.wantsStandIn t = false := by
  obtain rfl : f = 9 := Option.some.inj ((show Tryd.prog.funcNamed "kiln/kilnlaw17.JournalArgs" = some 9 by kernel_rfl).symm.trans hf) |>.symm
  obtain rfl : fn = Tryd.f9 := (Option.some.inj (Tryd.func9.symm.trans hfn)).symm
  refine ⟨by kernel_rfl, fun j t ht => ?_⟩
  rw [Tryd.params9] at ht
  have hm : t ∈ [3, 3, 3] := by simpa using Array.mem_of_getElem? ht
  have hall : ([3, 3, 3].all fun u => !Tryd.prog.wantsStandIn u) = true := by kernel_rfl
  exact (show Tryd.prog.wantsStandIn t = false by simpa using List.all_eq_true.1 hall t hm)
set_option maxRecDepth 100000 in
theorem card : Rows.JournalArgsCardSaid :=
  Claim7.holds_tied_plain_at .later [] _ _ _ _ said (fun _ h => by cases h) (by kernel_rfl) (fun _ h => by cases h) journalArgs_row_tie rfl ⟨rfl, rfl⟩ (by kernel_rfl) rfl plain (by kernel_rfl)
#print axioms card
end Go.Proofs.YtagodmmpkapgnaaDoor.journalArgs
namespace Go.Proofs.YtagodmmpkapgnaaDoor
theorem journalArgs_card_holds : Rows.JournalArgsCardSaid := journalArgs.card
end Go.Proofs.YtagodmmpkapgnaaDoor
