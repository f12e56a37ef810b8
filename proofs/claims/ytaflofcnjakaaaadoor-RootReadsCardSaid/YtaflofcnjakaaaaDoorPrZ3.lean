-- written by programs of this session; what nothing here names is left out
import Derived.Test.YtaflofcnjakaaaaDoorPrZ2
import Derived.ChangeKeysEq
import Derived.Laws.ResultCell
namespace Go.Proofs.YtaflofcnjakaaaaDoor.M
open Go.RowKit Go.Maps Go.Proofs.YtaflofcnjakaaaaDoorW.PrintWords Go.Proofs.YtaflofcnjakaaaaDoorW.PrintLast Go.Proofs.YtaflofcnjakaaaaDoorW.PrintMore Go.Proofs.YtaflofcnjakaaaaDoor.Wr Go.Proofs.YtaflofcnjakaaaaDoor.Pl Go.Proofs.YtaflofcnjakaaaaDoor.P Go.Proofs.YtaflofcnjakaaaaDoor.A
set_option linter.unusedVariables false
set_option linter.unusedSimpArgs false
def nwb_T : Bool × List (List Nat × List Nat) := (true, [([], []), ([0], [0]), ([1], [1]), ([2], [2]), ([3, 2], [2, 3]), ([2], [2]), ([5, 2, 2], [2, 5]), ([4, 6, 2], [2, 4, 6]), ([2, 7], [2, 7])])
def nwb_B : List Nat := [0, 1, 3, 7, 15, 7, 39, 127, 255]
theorem nwb_tab : rtab .any (opsOf Tryd.f17 4) = nwb_T := by kernel_rfl
theorem nwb_bits : waitsOk nwb_T.2 nwb_B = true := by kernel_rfl
def st19_T : Bool × List (List Nat × List Nat) := (true, [([], []), ([0], [0]), ([1], [1]), ([2], [2]), ([], []), ([4], [4]), ([5], [5]), ([6], [6]), ([], []), ([8], [8]), ([9], [9]), ([10], [10]), ([3, 7, 11], [3, 7, 11])])
def st19_B : List Nat := [0, 1, 3, 7, 0, 16, 48, 112, 0, 256, 768, 1792, 4095]
theorem st19_tab : rtab .any (opsOf Tryd.f19 3) = st19_T := by kernel_rfl
theorem st19_bits : waitsOk st19_T.2 st19_B = true := by kernel_rfl
def wrT (gx ge gd : Nat) (n : Int) (b : List Int) (st : Int) : List Th := [cellsT gx #[.pointer (some ⟨gd, 0, none⟩), .int .i64 n, .slice (some ⟨ge, 0, none⟩) 512 512, .int .i64 st] 104, cellsT ge (nums .u8 b).toArray 89]
set_option maxHeartbeats 8000000 in
set_option maxRecDepth 100000 in
theorem Sep.writer {w0 w : World} {L : List Th} {gd : Nat} {D : DS} (h : Sep w0 w (dkT gd D :: L)) (hH : Wr.Half w0) (s : SL) (hs : s.Ok) (hm : mayM s = true) (hsec : s.a = (D.n : Int)) :
    Calls Tryd.prog 17 #[.pointer (some ⟨gd, 0, none⟩), .agg s.V.toArray] w fun e w' => ∃ gx ge, e = .returned (.tuple #[.pointer (some ⟨gx, 0, none⟩), .int .i64 0]) ∧ Sep w0 w' (wrT gx ge gd (s.c.tmod 2) (encB s) 0 ++ dkT gd D :: L) := by
  have HSA := Aside0.mk (show (Tryd.prog.info? 27).map (·.size) = some s.V.toArray.size from size27 (by simpa using SL.V_len hs))
  have HEN := Aside0.mk (fun W (M : List Th) (h : Sep w0 W M) => Sep.encode h hH s hs hm)
  have HSA0 := Aside0.mk (show s.V.toArray[0]? = some (.int .i64 s.a) from by simpa using s.V0)
  have HSA2 := Aside0.mk (show s.V.toArray[2]? = some (.int .i64 s.c) from by simpa using s.V2)
  have HS0 := Aside0.mk (h.push_alloc s.V.toArray 27)
  have HLV := Aside0.mk (fun W (M : List Th) g (h : Sep w0 W (cellsT g s.V.toArray 27 :: M)) => (show ∀ j v, s.V.toArray.toList[j]? = some v → W.cell? ((⟨g, 0, none⟩ : Addr).add j) = some v from fun j v hv => seg_at h.cells.1 0 s.V (by rw [List.drop_zero]; exact List.take_of_length_le (Nat.le_refl _)) j v (by simpa using hv)))
  have HSC := Aside0.mk (fun W (M : List Th) (h : Sep w0 W (dkT gd D :: M)) => (show Calls Tryd.prog 47 #[.pointer (some ⟨gd, 0, none⟩)] W (fun e w' => e = .returned (.int .i64 s.a) ∧ w' = W) from by rw [hsec]; exact Sep.sectors h))
  clear h hs hm hH hsec
  generalize s.V.toArray = V at HS0 HEN HSA HLV HSA0 HSA2 ⊢
  generalize encB s = eb at HEN ⊢
  generalize s.a = sa at *
  generalize s.c = sc at *
  go_enter Tryd.func17, Tryd.ntmps17
  go_upto_region 1 with (fail)
  generalize w.alloc (.cells V 27) = w1 at HS0 ⊢
  generalize w.heap.size = g0 at HS0 ⊢
  go_upto_region 4 with (first
    | ((with_reducible refine gate_load (ty := 27) rfl ?_); refine wpList_ldw ?_ 27 _ rfl ⟨g0, 0, none⟩ ?_ V _ (HLV.out _ _ _ HS0.out) Tryd.underlying27 rfl HSA.out ?_; exact rfl; exact rfl; skip)
    | (go_at_call 12; (with_reducible refine (HEN.out _ _ HS0.out).mono ?_); rintro e w2 ⟨ge, rfl, h2⟩; have HSx := Aside0.mk h2; clear h2))
  have HSy := Aside0.mk (HSx.out.step (below_drew1 (Below.refl w2.heap.size w2)))
  clear HS0 HSx HEN HLV
  refine start_ (n := 9) (S := fun W => W.cell? ⟨g0, 0, none⟩ = some (.int .i64 sa)) (ds := []) (bb 9 0) (by kernel_rfl) rfl rfl (blk_cell HSy.out.up1.cells.1 0 |>.trans HSA0.out) (fun hHeld => ?_); refine with_tabW nwb_tab nwb_bits (fun HT_ HW_ => ?_)
  generalize w2.drew = wd at hHeld HSy ⊢
  refine pure_ (i := 0) (N := (some 15)) (v := ?_) (a' := ?_) (bb 9 1) rfl rfl (any_of HT_.out (by kernel_rfl)) (fun _ _ _ h => h) (Or.inl ⟨by rfl, ?_⟩) ?_ ?_
  rotate_left
  · intro w'
    go_simp
    with_reducible rfl
  rotate_left
  · simp only [Act.put, List.setIfInBounds_toArray, List.set_cons_zero, List.set_cons_succ, i64_w, i32_w]
    rfl
  refine pure_ (i := 1) (N := (some 16)) (v := ?_) (a' := ?_) (bb 9 3) rfl rfl (any_of HT_.out (by kernel_rfl)) (fun _ _ _ h => h) (Or.inl ⟨by rfl, ?_⟩) ?_ ?_
  rotate_left
  · intro w'
    go_simp
    with_reducible rfl
  rotate_left
  · simp only [Act.put, List.setIfInBounds_toArray, List.set_cons_zero, List.set_cons_succ, i64_w, i32_w]
    rfl
  refine pure_ (i := 2) (N := (some 17)) (v := ?_) (a' := ?_) (bb 9 7) rfl rfl (any_of HT_.out (by kernel_rfl)) (fun _ _ _ h => h) (Or.inl ⟨by rfl, ?_⟩) ?_ ?_
  rotate_left
  · intro w'
    go_simp
    with_reducible rfl
  rotate_left
  · simp only [Act.put, List.setIfInBounds_toArray, List.set_cons_zero, List.set_cons_succ, i64_w, i32_w]
    rfl
  refine pure_ (i := 3) (N := (some 18)) (v := ?_) (a' := ?_) (bb 9 15) rfl rfl (any_of HT_.out (by kernel_rfl)) (fun _ _ _ h => h) (Or.inl ⟨by rfl, ?_⟩) ?_ ?_
  rotate_left
  · intro w'
    go_simp
    with_reducible rfl
  rotate_left
  · simp only [Act.put, List.setIfInBounds_toArray, List.set_cons_zero, List.set_cons_succ, i64_w, i32_w]
    rfl
  refine take_ (i := 4) (N := (some 19)) (v := ?_) (a' := ?_) (bb 9 31) rfl rfl (take_ofW HT_.out HW_.out (by kernel_rfl)) (fun _ _ _ h => h) (Or.inl ⟨by rfl, ?_⟩) hHeld ?_ ?_
  rotate_left
  · intro w' s0
    (try dsimp only at s0)
    go_simp
    with_reducible rfl
  rotate_left
  · simp only [Act.put, List.setIfInBounds_toArray, List.set_cons_zero, List.set_cons_succ, i64_w, i32_w]
    rfl
  refine pure_ (i := 5) (N := (some 20)) (v := ?_) (a' := ?_) (bb 9 63) rfl rfl (any_of HT_.out (by kernel_rfl)) (fun _ _ _ h => h) (Or.inl ⟨by rfl, ?_⟩) ?_ ?_
  rotate_left
  · intro w'
    go_simp
    with_reducible rfl
  rotate_left
  · simp only [Act.put, List.setIfInBounds_toArray, List.set_cons_zero, List.set_cons_succ, i64_w, i32_w]
    rfl
  refine one_ (i := 6) (N := (some 21)) (bb 9 127) rfl rfl (one_of HT_.out (by kernel_rfl)) (by decide) (fun K hK => ?_)
  refine goes_ Tryd.func47 (by kernel_rfl) rfl #[.pointer (some ⟨gd, 0, none⟩)] (by rfl) rfl rfl (by (try simp only [List.map_toArray, List.map_cons, List.map_nil]); first | done | rfl) ?_
  refine (HSC.out _ _ HSy.out.up2).mono ?_
  rintro e w3 ⟨rfl, rfl⟩
  refine ⟨_, rfl, ?_⟩
  refine hK.out _ _ (blk_cell HSy.out.up1.cells.1 0 |>.trans HSA0.out) (fun hHeld => ?_)
  clear hK K
  refine norm_ (a' := ?_) ?_ ?_
  rotate_left
  · show Act.put _ (some 21) _ = _
    simp only [Act.put, List.setIfInBounds_toArray, List.set_cons_zero, List.set_cons_succ, i64_w, i32_w]
    rfl
  refine pure_ (i := 7) (N := (some 22)) (v := ?_) (a' := ?_) (bb 9 255) rfl rfl (any_of HT_.out (by kernel_rfl)) (fun _ _ _ h => h) (Or.inl ⟨by rfl, ?_⟩) ?_ ?_
  rotate_left
  · intro w'
    go_simp
    with_reducible rfl
  rotate_left
  · simp only [Act.put, List.setIfInBounds_toArray, List.set_cons_zero, List.set_cons_succ, i64_w, i32_w]
    rfl
  refine pure_ (i := 8) (N := (some 23)) (v := ?_) (a' := ?_) (bb 9 511) rfl rfl (any_of HT_.out (by kernel_rfl)) (fun _ _ _ h => h) (Or.inl ⟨by rfl, ?_⟩) ?_ ?_
  rotate_left
  · intro w'
    go_simp
    with_reducible rfl
  rotate_left
  · simp only [Act.put, List.setIfInBounds_toArray, List.set_cons_zero, List.set_cons_succ, i64_w, i32_w]
    rfl
  refine done_ (done_of HT_.out (by kernel_rfl)) ?_
  clear hHeld HT_ HW_
  go_upto_region 6 with (fail)
  have x2 : w3.cell? ⟨g0, 2, none⟩ = some (.int .i64 sc) := blk_cell HSy.out.up1.cells.1 2 |>.trans HSA2.out
  go_wp2
  go_ret2
  exact ⟨_, _, rfl, (HSy.out.up1.drop.push_alloc _ 104)⟩
theorem Sep.write_cells {w0 w : World} {L : List Th} {g ge ty : Nat} {s : DS} {b : List Int} (h : Sep w0 w (cellsT ge (nums .u8 b).toArray ty :: dkT g s :: L)) (i : Nat) (hi : i < s.n) (hc : s.c < 1073741824) (hb : b.length = 512) :
    Calls Tryd.prog 25 #[.pointer (some ⟨g, 0, none⟩), .int .i64 (i : Int), .slice (some ⟨ge, 0, none⟩) 512 512] w fun e w' => e = .returned (.int .i64 0) ∧ Sep w0 w' (cellsT ge (nums .u8 b).toArray ty :: dkT g (s.put i b) :: L) := by
  have hC : (Kd.int .u8).C w (some ⟨ge, 0, none⟩) 512 b := C_segn h.cells.1 0 b 512 hb (by rw [List.drop_zero]; exact List.take_of_length_le (by rw [nums_length, hb]; exact Nat.le_refl _)) (by decide)
  obtain ⟨G, ⟨hG1, hG2⟩, hG3, hG4⟩ := h.open_
  obtain ⟨U, ⟨F0, h1, h2, F, ⟨base, h4⟩, h5, _⟩, h6, h7⟩ := Sep.split (M := [cellsT ge (nums .u8 b).toArray ty, dkT g s]) h
  refine (write_at g i (some ⟨ge, 0, none⟩) 512 b w base F s h4 hi hC (fun ad e hF => ?_) hc).mono ?_
  · cases e
    exact (h5 _ hF).2 ((h1.2 ge).2 rfl)
  · rintro e w' ⟨he, F', hd, hF, hch⟩
    refine ⟨he, h7 [cellsT ge (nums .u8 b).toArray ty, dkT g (s.put i b)] w' ⟨F0, Th.step _ h1 (fun x hx => hch.block x (Th.foot _ h1 x hx) (fun hF => (h5 x hF).2 hx)), fun x hx => .inl (h2 x hx), F', ⟨base, hd⟩, fun x hx => ?_, trivial⟩ (hch.mono (fun x hx => (h5 x hx).1))⟩
    rcases hF x hx with hx1 | hx1
    · exact ⟨.inl (h5 x hx1).1, (h5 x hx1).2⟩
    · exact ⟨.inr hx1, fun hx2 => Nat.not_lt.2 hx1 (Th.foot _ h1 x hx2)⟩
set_option maxHeartbeats 8000000 in
set_option maxRecDepth 100000 in
theorem Sep.step0 {w0 w : World} {L : List Th} {gx ge gd i : Nat} {n : Int} {b : List Int} {D : DS} (h : Sep w0 w (wrT gx ge gd n b 0 ++ dkT gd D :: L)) (hn : n = (i : Int)) (hi : i < D.n) (hc : D.c < 1073741824) (hb : b.length = 512) :
    Calls Tryd.prog 19 #[.pointer (some ⟨gx, 0, none⟩)] w fun e w' => e = .returned (.tuple #[.bool false, .int .i64 0]) ∧ Sep w0 w' (wrT gx ge gd n b 1 ++ dkT gd (D.put i b) :: L) := by
  have HS0 := Aside0.mk (show Sep w0 w (cellsT gx #[.pointer (some ⟨gd, 0, none⟩), .int .i64 n, .slice (some ⟨ge, 0, none⟩) 512 512, .int .i64 0] 104 :: cellsT ge (nums .u8 b).toArray 89 :: dkT gd D :: L) from h)
  have HWR := Aside0.mk (fun W (M : List Th) (h : Sep w0 W (cellsT ge (nums .u8 b).toArray 89 :: dkT gd D :: M)) => (show Calls Tryd.prog 25 #[.pointer (some ⟨gd, 0, none⟩), .int .i64 n, .slice (some ⟨ge, 0, none⟩) 512 512] W _ from by rw [hn]; exact Sep.write_cells h i hi hc hb))
  have x0 : w.cell? ⟨gx, 3, none⟩ = some (.int .i64 0) := blk_cell HS0.out.cells.1 3
  clear h hn hi hc hb
  go_enter Tryd.func19, Tryd.ntmps19
  go_upto_region 3 with (fail)
  have HSy := Aside0.mk (HS0.out.step (below_drew1 (Below.refl w.heap.size w)))
  clear x0 HS0
  refine start_ (n := 13) (S := fun W => W.cell? ⟨gx, 0, none⟩ = some (.pointer (some ⟨gd, 0, none⟩)) ∧ W.cell? ⟨gx, 1, none⟩ = some (.int .i64 n) ∧ W.cell? ⟨gx, 2, none⟩ = some (.slice (some ⟨ge, 0, none⟩) 512 512)) (ds := [12]) (bb 13 0) (by kernel_rfl) rfl rfl (⟨blk_cell HSy.out.cells.1 0, blk_cell HSy.out.cells.1 1, blk_cell HSy.out.cells.1 2⟩) (fun hHeld => ?_); refine with_tabW st19_tab st19_bits (fun HT_ HW_ => ?_)
  generalize w.drew = wd at hHeld HSy ⊢
  refine pure_ (i := 0) (N := (some 10)) (v := ?_) (a' := ?_) (bb 13 1) rfl rfl (any_of HT_.out (by kernel_rfl)) (fun _ _ _ h => h) (Or.inl ⟨by rfl, ?_⟩) ?_ ?_
  rotate_left
  · intro w'
    go_simp
    with_reducible rfl
  rotate_left
  · simp only [Act.put, List.setIfInBounds_toArray, List.set_cons_zero, List.set_cons_succ, i64_w, i32_w]
    rfl
  refine pure_ (i := 1) (N := (some 11)) (v := ?_) (a' := ?_) (bb 13 3) rfl rfl (any_of HT_.out (by kernel_rfl)) (fun _ _ _ h => h) (Or.inl ⟨by rfl, ?_⟩) ?_ ?_
  rotate_left
  · intro w'
    go_simp
    with_reducible rfl
  rotate_left
  · simp only [Act.put, List.setIfInBounds_toArray, List.set_cons_zero, List.set_cons_succ, i64_w, i32_w]
    rfl
  refine pure_ (i := 2) (N := (some 12)) (v := ?_) (a' := ?_) (bb 13 7) rfl rfl (any_of HT_.out (by kernel_rfl)) (fun _ _ _ h => h) (Or.inl ⟨by rfl, ?_⟩) ?_ ?_
  rotate_left
  · intro w'
    go_simp
    with_reducible rfl
  rotate_left
  · simp only [Act.put, List.setIfInBounds_toArray, List.set_cons_zero, List.set_cons_succ, i64_w, i32_w]
    rfl
  refine take_ (i := 3) (N := (some 13)) (v := ?_) (a' := ?_) (bb 13 15) rfl rfl (take_ofW HT_.out HW_.out (by kernel_rfl)) (fun _ _ _ h => h) (Or.inl ⟨by rfl, ?_⟩) hHeld ?_ ?_
  rotate_left
  · intro w' s0
    (try dsimp only at s0)
    go_simp
    with_reducible rfl
  rotate_left
  · simp only [Act.put, List.setIfInBounds_toArray, List.set_cons_zero, List.set_cons_succ, i64_w, i32_w]
    rfl
  refine pure_ (i := 4) (N := (some 14)) (v := ?_) (a' := ?_) (bb 13 31) rfl rfl (any_of HT_.out (by kernel_rfl)) (fun _ _ _ h => h) (Or.inl ⟨by rfl, ?_⟩) ?_ ?_
  rotate_left
  · intro w'
    go_simp
    with_reducible rfl
  rotate_left
  · simp only [Act.put, List.setIfInBounds_toArray, List.set_cons_zero, List.set_cons_succ, i64_w, i32_w]
    rfl
  refine pure_ (i := 5) (N := (some 15)) (v := ?_) (a' := ?_) (bb 13 63) rfl rfl (any_of HT_.out (by kernel_rfl)) (fun _ _ _ h => h) (Or.inl ⟨by rfl, ?_⟩) ?_ ?_
  rotate_left
  · intro w'
    go_simp
    with_reducible rfl
  rotate_left
  · simp only [Act.put, List.setIfInBounds_toArray, List.set_cons_zero, List.set_cons_succ, i64_w, i32_w]
    rfl
  refine pure_ (i := 6) (N := (some 16)) (v := ?_) (a' := ?_) (bb 13 127) rfl rfl (any_of HT_.out (by kernel_rfl)) (fun _ _ _ h => h) (Or.inl ⟨by rfl, ?_⟩) ?_ ?_
  rotate_left
  · intro w'
    go_simp
    with_reducible rfl
  rotate_left
  · simp only [Act.put, List.setIfInBounds_toArray, List.set_cons_zero, List.set_cons_succ, i64_w, i32_w]
    rfl
  refine take_ (i := 7) (N := (some 17)) (v := ?_) (a' := ?_) (bb 13 255) rfl rfl (take_ofW HT_.out HW_.out (by kernel_rfl)) (fun _ _ _ h => h) (Or.inl ⟨by rfl, ?_⟩) hHeld ?_ ?_
  rotate_left
  · intro w' s0
    (try dsimp only at s0)
    go_simp
    with_reducible rfl
  rotate_left
  · simp only [Act.put, List.setIfInBounds_toArray, List.set_cons_zero, List.set_cons_succ, i64_w, i32_w]
    rfl
  refine pure_ (i := 8) (N := (some 18)) (v := ?_) (a' := ?_) (bb 13 511) rfl rfl (any_of HT_.out (by kernel_rfl)) (fun _ _ _ h => h) (Or.inl ⟨by rfl, ?_⟩) ?_ ?_
  rotate_left
  · intro w'
    go_simp
    with_reducible rfl
  rotate_left
  · simp only [Act.put, List.setIfInBounds_toArray, List.set_cons_zero, List.set_cons_succ, i64_w, i32_w]
    rfl
  refine pure_ (i := 9) (N := (some 19)) (v := ?_) (a' := ?_) (bb 13 1023) rfl rfl (any_of HT_.out (by kernel_rfl)) (fun _ _ _ h => h) (Or.inl ⟨by rfl, ?_⟩) ?_ ?_
  rotate_left
  · intro w'
    go_simp
    with_reducible rfl
  rotate_left
  · simp only [Act.put, List.setIfInBounds_toArray, List.set_cons_zero, List.set_cons_succ, i64_w, i32_w]
    rfl
  refine pure_ (i := 10) (N := (some 20)) (v := ?_) (a' := ?_) (bb 13 2047) rfl rfl (any_of HT_.out (by kernel_rfl)) (fun _ _ _ h => h) (Or.inl ⟨by rfl, ?_⟩) ?_ ?_
  rotate_left
  · intro w'
    go_simp
    with_reducible rfl
  rotate_left
  · simp only [Act.put, List.setIfInBounds_toArray, List.set_cons_zero, List.set_cons_succ, i64_w, i32_w]
    rfl
  refine take_ (i := 11) (N := (some 21)) (v := ?_) (a' := ?_) (bb 13 4095) rfl rfl (take_ofW HT_.out HW_.out (by kernel_rfl)) (fun _ _ _ h => h) (Or.inl ⟨by rfl, ?_⟩) hHeld ?_ ?_
  rotate_left
  · intro w' s0
    (try dsimp only at s0)
    go_simp
    with_reducible rfl
  rotate_left
  · simp only [Act.put, List.setIfInBounds_toArray, List.set_cons_zero, List.set_cons_succ, i64_w, i32_w]
    rfl
  refine last_ (i := 12) (N := (some 22)) (bb 13 8191) rfl rfl (one_of HT_.out (by kernel_rfl)) (by decide) (fun K hK => ?_)
  refine goes_ Tryd.func25 (by kernel_rfl) rfl #[.pointer (some ⟨gd, 0, none⟩), .int .i64 n, .slice (some ⟨ge, 0, none⟩) 512 512] (by rfl) rfl rfl (by (try simp only [List.map_toArray, List.map_cons, List.map_nil]); first | done | rfl) ?_
  refine (HWR.out _ _ HSy.out.up2.up2).mono ?_
  rintro e w3 ⟨rfl, h3⟩
  have HS3 := Aside0.mk h3
  clear h3
  refine ⟨_, rfl, ?_⟩
  refine hK.out _ _ ?_
  clear hK K
  refine norm_ (a' := ?_) ?_ ?_
  rotate_left
  · show Act.put _ (some 22) _ = _
    simp only [Act.put, List.setIfInBounds_toArray, List.set_cons_zero, List.set_cons_succ, i64_w, i32_w]
    rfl
  refine done_ (done_of HT_.out (by kernel_rfl)) ?_
  clear hHeld HT_ HW_ HSy
  have HS4 := Aside0.mk HS3.out.up2
  clear HS3
  have x3 : w3.cell? ⟨gx, 3, none⟩ = some (.int .i64 0) := blk_cell HS4.out.cells.1 3
  have f3 : w3.frozen? ⟨gx, 3, none⟩ = false := blk_frozen HS4.out.cells.1 3
  go_wp2
  go_ret2
  exact ⟨rfl, HS4.out.cset 3 (.int .i64 1)⟩
set_option maxHeartbeats 8000000 in
set_option maxRecDepth 100000 in
theorem Sep.step1 {w0 w : World} {L : List Th} {gx ge gd : Nat} {n : Int} {b : List Int} {D : DS} (h : Sep w0 w (wrT gx ge gd n b 1 ++ dkT gd D :: L)) :
    Calls Tryd.prog 19 #[.pointer (some ⟨gx, 0, none⟩)] w fun e w' => e = .returned (.tuple #[.bool true, .int .i64 0]) ∧ Sep w0 w' (wrT gx ge gd n b 2 ++ dkT gd D.flush :: L) := by
  have HS0 := Aside0.mk (show Sep w0 w (cellsT gx #[.pointer (some ⟨gd, 0, none⟩), .int .i64 n, .slice (some ⟨ge, 0, none⟩) 512 512, .int .i64 1] 104 :: cellsT ge (nums .u8 b).toArray 89 :: dkT gd D :: L) from h)
  have x0 : w.cell? ⟨gx, 3, none⟩ = some (.int .i64 1) := blk_cell HS0.out.cells.1 3
  have x1 : w.cell? ⟨gx, 0, none⟩ = some (.pointer (some ⟨gd, 0, none⟩)) := blk_cell HS0.out.cells.1 0
  clear h
  go_enter Tryd.func19, Tryd.ntmps19
  go_upto_region 8 with (go_at_call 27; (with_reducible refine (Sep.flush HS0.out.up2).mono ?_); rintro e w3 ⟨⟨v3, rfl⟩, h3⟩; have HS4 := Aside0.mk h3.up2.up2; clear h3)
  clear x0 x1 HS0
  have x3 : w3.cell? ⟨gx, 3, none⟩ = some (.int .i64 1) := blk_cell HS4.out.cells.1 3
  have f3 : w3.frozen? ⟨gx, 3, none⟩ = false := blk_frozen HS4.out.cells.1 3
  go_wp2
  go_ret2
  exact ⟨rfl, (HS4.out.cset 3 (.int .i64 2))⟩
end Go.Proofs.YtaflofcnjakaaaaDoor.M

namespace Go.Proofs.YtaflofcnjakaaaaDoor.M
open Go.RowKit Go.Maps Go.Proofs.YtaflofcnjakaaaaDoorW.PrintWords Go.Proofs.YtaflofcnjakaaaaDoorW.PrintLast Go.Proofs.YtaflofcnjakaaaaDoorW.PrintMore Go.Proofs.YtaflofcnjakaaaaDoor.Wr Go.Proofs.YtaflofcnjakaaaaDoor.Pl Go.Proofs.YtaflofcnjakaaaaDoor.P Go.Proofs.YtaflofcnjakaaaaDoor.A
set_option linter.unusedVariables false
set_option linter.unusedSimpArgs false
def startSL : SL := ⟨0, 0, -1, 0, 0, z32, z32, 0, 0, z32, 0, 0⟩
def rda_T : Bool × List (List Nat × List Nat) := (true, [([], []), ([0], [0]), ([1], [1]), ([2], [2]), ([3, 2], [2, 3]), ([2], [2]), ([5, 2, 2], [2, 5]), ([4, 6, 2], [2, 4, 6]), ([2, 7], [2, 7]), ([8, 6], [8]), ([9], [9]), ([10, 9], [9, 10]), ([11, 9], [9, 11]), ([9], [9]), ([12, 13, 9], [9, 12, 13]), ([9, 14], [9, 14]), ([15, 9], [15]), ([16], [16]), ([17, 16], [16, 17]), ([16], [16]), ([19, 16], [16, 19]), ([18, 20, 16], [16, 18, 20]), ([16, 21], [16, 21])])
def rda_B : List Nat := [0, 1, 3, 7, 15, 7, 39, 127, 255, 511, 1023, 2047, 4095, 1023, 16383, 32767, 65535, 131071, 262143, 131071, 655359, 2097151, 4194303]
theorem rda_tab : rtab .any (opsOf Tryd.f28 9) = rda_T := by kernel_rfl
theorem rda_bits : waitsOk rda_T.2 rda_B = true := by kernel_rfl
def rdb_T : Bool × List (List Nat × List Nat) := (true, [([], []), ([0], [0]), ([1], [1]), ([2], [2]), ([3, 2], [2, 3]), ([2], [2]), ([5, 2, 2], [2, 5]), ([4, 6, 2], [2, 4, 6]), ([2, 7], [2, 7]), ([8, 6], [8]), ([9], [9]), ([10, 9], [9, 10]), ([11, 9], [9, 11]), ([9], [9]), ([12, 13, 9], [9, 12, 13]), ([9, 14], [9, 14]), ([15, 9], [15]), ([16], [16]), ([17, 16], [16, 17]), ([16], [16]), ([19, 16], [16, 19]), ([18, 20, 16], [16, 18, 20]), ([16, 21], [16, 21])])
def rdb_B : List Nat := [0, 1, 3, 7, 15, 7, 39, 127, 255, 511, 1023, 2047, 4095, 1023, 16383, 32767, 65535, 131071, 262143, 131071, 655359, 2097151, 4194303]
theorem rdb_tab : rtab .any (opsOf Tryd.f28 9) = rdb_T := by kernel_rfl
theorem rdb_bits : waitsOk rdb_T.2 rdb_B = true := by kernel_rfl
def rdc_T : Bool × List (List Nat × List Nat) := (true, [([], []), ([0], [0]), ([1], [1]), ([2], [2]), ([3, 2], [2, 3]), ([2], [2]), ([5, 2, 2], [2, 5]), ([4, 6, 2], [2, 4, 6]), ([2, 7], [2, 7]), ([8, 6], [8]), ([9], [9]), ([10, 9], [9, 10]), ([11, 9], [9, 11]), ([9], [9]), ([12, 13, 9], [9, 12, 13]), ([9, 14], [9, 14]), ([15, 9], [15]), ([16], [16]), ([17, 16], [16, 17]), ([16], [16]), ([19, 16], [16, 19]), ([18, 20, 16], [16, 18, 20]), ([16, 21], [16, 21])])
def rdc_B : List Nat := [0, 1, 3, 7, 15, 7, 39, 127, 255, 511, 1023, 2047, 4095, 1023, 16383, 32767, 65535, 131071, 262143, 131071, 655359, 2097151, 4194303]
theorem rdc_tab : rtab .any (opsOf Tryd.f28 9) = rdc_T := by kernel_rfl
theorem rdc_bits : waitsOk rdc_T.2 rdc_B = true := by kernel_rfl
def rdd_T : Bool × List (List Nat × List Nat) := (true, [([], []), ([0], [0]), ([1], [1]), ([2], [2]), ([3, 2], [2, 3]), ([2], [2]), ([5, 2, 2], [2, 5]), ([4, 6, 2], [2, 4, 6]), ([2, 7], [2, 7]), ([8, 6], [8]), ([9], [9]), ([10, 9], [9, 10]), ([11, 9], [9, 11]), ([9], [9]), ([12, 13, 9], [9, 12, 13]), ([9, 14], [9, 14]), ([15, 9], [15]), ([16], [16]), ([17, 16], [16, 17]), ([16], [16]), ([19, 16], [16, 19]), ([18, 20, 16], [16, 18, 20]), ([16, 21], [16, 21])])
def rdd_B : List Nat := [0, 1, 3, 7, 15, 7, 39, 127, 255, 511, 1023, 2047, 4095, 1023, 16383, 32767, 65535, 131071, 262143, 131071, 655359, 2097151, 4194303]
theorem rdd_tab : rtab .any (opsOf Tryd.f28 9) = rdd_T := by kernel_rfl
theorem rdd_bits : waitsOk rdd_T.2 rdd_B = true := by kernel_rfl
theorem startSL_ok : startSL.Ok := ⟨z32_ok.1, z32_ok.1, z32_ok.1, z32_ok.2, z32_ok.2, z32_ok.2⟩
def pickS (N n : Int) (best s : SL) (e : Int) : SL := if e = 0 ∧ s.a = N ∧ s.c.tmod 2 = n ∧ best.c < s.c then s else best
def bestJ (N : Int) (cur : Nat → List Int) : Nat → SL
  | 0 => startSL
  | j + 1 => pickS N (j : Int) (bestJ N cur j) (decS (cur j)) (decE (cur j))
theorem bestJ_ok {N : Int} {cur : Nat → List Int} (h : ∀ j, bytes_ (cur j)) : ∀ j, (bestJ N cur j).Ok
  | 0 => startSL_ok
  | j + 1 => by
    unfold bestJ pickS
    split
    · exact decS_ok (h j)
    · exact bestJ_ok h j
def DS.readsJ (s : DS) : Nat → DS
  | 0 => s
  | j + 1 => (s.readsJ j).reads
theorem DS.readsJ_cur (s : DS) : ∀ j, (s.readsJ j).cur = s.cur ∧ (s.readsJ j).n = s.n
  | 0 => ⟨rfl, rfl⟩
  | j + 1 => ⟨(show (s.readsJ j).reads.cur = _ from (s.readsJ_cur j).1), (s.readsJ_cur j).2⟩
def readS (N : Int) (cur : Nat → List Int) : SL := if (bestJ N cur 2).c < 0 then noSL else bestJ N cur 2
def readE (N : Int) (cur : Nat → List Int) : Int := if (bestJ N cur 2).c < 0 then 180 else 0
set_option maxRecDepth 100000 in
theorem built27m : Tryd.prog.built 27 [(2, .int .i64 (-1))] = some startSL.V.toArray := by kernel_rfl
theorem ReadsB.own {w0 : World} {L : List Th} {A : Option Addr} {n c : Nat} {b : List Int} (hl : b.length = 512) : ReadsB w0 (ownT (Kd.int .u8) 5 (.slice A n c) b :: L) A b := fun W M hs h => by
  have := (hs.sep h).own_C.1
  rwa [hl] at this
theorem decE_or (b : List Int) : decE b = 0 ∨ decE b = 180 := by unfold decE; split <;> simp
set_option maxHeartbeats 8000000 in
set_option maxRecDepth 100000 in
theorem Sep.readSlot {w0 w : World} {L : List Th} {gd : Nat} {D : DS} (h : Sep w0 w (dkT gd D :: L)) (hH : Wr.Half w0) (h2 : 2 ≤ D.n) (hb : ∀ j, bytes_ (D.cur j)) (hl : ∀ j, j < 2 → (D.cur j).length = 512) :
    Calls Tryd.prog 28 #[.pointer (some ⟨gd, 0, none⟩)] w fun e w' => e = .returned (.tuple #[.agg (readS D.n D.cur).V.toArray, .int .i64 (readE D.n D.cur)]) ∧ Sep w0 w' (dkT gd (D.readsJ 2) :: L) := by
  have HS0 := Aside0.mk h
  have HRD := Aside0.mk (fun W (M : List Th) j (hj : j < 2) (h : Sep w0 W (dkT gd (D.readsJ j) :: M)) => (show Calls Tryd.prog 52 #[.pointer (some ⟨gd, 0, none⟩), .int .i64 (j : Int)] W (fun e w' => ∃ A c, e = .returned (.tuple #[.slice A 512 c, .int .i64 0]) ∧ 512 ≤ c ∧ Sep w0 w' (ownT (Kd.int .u8) 5 (.slice A 512 c) (D.cur j) :: dkT gd (D.readsJ (j + 1)) :: M)) from by
    refine (Sep.read h j (by rw [(D.readsJ_cur j).2]; omega)).mono ?_
    rintro e w' ⟨v, rfl, h3⟩
    rw [(D.readsJ_cur j).1] at h3
    obtain ⟨A, c, rfl⟩ := h3.own_slice
    rw [hl j hj] at h3 ⊢
    have h4 := h3.own_C
    rw [hl j hj] at h4
    exact ⟨A, c, rfl, h4.2, h3⟩))
  have HDC := Aside0.mk (fun W (M : List Th) A c j (hj : j < 2) (hc : 512 ≤ c) (h : Sep w0 W (ownT (Kd.int .u8) 5 (.slice A 512 c) (D.cur j) :: M)) => Sep.decode h hH (ReadsB.own (hl j hj)) (hb j) (hl j hj) hc)
  have HSC := Aside0.mk (fun W (M : List Th) j (h : Sep w0 W (dkT gd (D.readsJ j) :: M)) => (show Calls Tryd.prog 47 #[.pointer (some ⟨gd, 0, none⟩)] W (fun e w' => e = .returned (.int .i64 (D.n : Int)) ∧ w' = W) from by have h3 := Sep.sectors h; rwa [(D.readsJ_cur j).2] at h3))
  have HOK := Aside0.mk (bestJ_ok (N := (D.n : Int)) hb)
  have HDO := Aside0.mk (fun j => decS_ok (hb j))
  have hz := (zero_of_info (P := Tryd.prog) (t := 27) (v := .agg noSL.V.toArray) (n := 105) (by kernel_rfl)).1
  have HBZ := Aside0.mk (show Tryd.prog.built 27 [] = some noSL.V.toArray from built27z)
  have HBM := Aside0.mk built27m
  have HSZ := Aside0.mk (fun s (hs : SL.Ok s) => (show (Tryd.prog.info? 27).map (·.size) = some s.V.toArray.size from size27 (by simpa using SL.V_len hs)))
  have HSQ := Aside0.mk (fun s (hs : SL.Ok s) => (show s.V.toArray.size = 105 from by simpa using SL.V_len hs))
  clear h hH h2 hb hl
  generalize hZ : noSL.V.toArray = Z at hz HBZ
  have HZ := Aside0.mk hZ
  have HZS := Aside0.mk (show Z.size = 105 from by rw [← hZ]; exact HSQ.out _ noSL_ok)
  clear hZ
  generalize hM : startSL.V.toArray = Zm at HBM
  have HZM := Aside0.mk hM
  have HMS := Aside0.mk (show (Tryd.prog.info? 27).map (·.size) = some Zm.size from by rw [← hM]; exact HSZ.out _ startSL_ok)
  have HMQ := Aside0.mk (show Z.size = Zm.size from by rw [HZS.out, ← hM, HSQ.out _ startSL_ok])
  have HMA := Aside0.mk (show Zm.all (·.oneCell') = true from by rw [← hM]; exact SL.V_all _)
  clear hM
  generalize hN : (D.n : Int) = N at HSC HOK ⊢
  clear hN
  generalize hcu : D.cur = cur at HRD HDC HOK HDO ⊢
  clear hcu
  go_enter Tryd.func28, Tryd.ntmps28
  go_upto_region 1 with (fail)
  have HS1 := Aside0.mk (HS0.out.push_alloc Z 27)
  generalize w.alloc (.cells Z 27) = w1 at HS1 ⊢
  generalize w.heap.size = gr at HS1 ⊢
  clear HS0
  go_upto_region 4 with (first
    | ((with_reducible refine gate_build (ty := 27) rfl ?_); refine wpList_buildTo rfl 27 _ rfl (some 13) rfl Zm ?aB ?_; (case aB => (simp only [List.map_toArray, List.map_cons, List.map_nil]; exact HBM.out)))
    | ((with_reducible refine gate_store (ty := 27) rfl ?_); refine Sep.store_own rfl 27 _ _ rfl rfl rfl (HS1.out.push_alloc Z 27) HMS.out HMQ.out HMA.out ?_; intro w2 h2; have HS2 := Aside0.mk (show Sep w0 w2 (cellsT w1.heap.size (bestJ N cur 0).V.toArray 27 :: dkT gd (D.readsJ 0) :: cellsT gr Z 27 :: L) from by have h3 := h2.sw12; rw [← HZM.out] at h3; exact h3); clear h2))
  generalize w1.heap.size = gb at HS2 ⊢
  clear HS1
  go_wp2
  go_loopg [14] 2 (fun kq v14 wr => ∃ j : Nat, v14 = .int .i64 j ∧ Aside0 (j + kq = 2) ∧ Aside0 (Sep w0 wr (cellsT gb (bestJ N cur j).V.toArray 27 :: dkT gd (D.readsJ j) :: cellsT gr Z 27 :: L)))
  case atStart => exact ⟨0, rfl, ⟨rfl⟩, HS2⟩
  case round =>
    obtain ⟨j, rfl, HJ, hS⟩ := hrel
    clear HS2
    by_cases hj : j < 2
    · have HPK := Aside0.mk (show bestJ N cur (j + 1) = pickS N (j : Int) (bestJ N cur j) (decS (cur j)) (decE (cur j)) from rfl)
      have HO1 := Aside0.mk (HOK.out j)
      have HO2 := Aside0.mk (HDO.out j)
      have HDC1 := Aside0.mk (fun W M A c hc h => HDC.out W M A c j hj hc h)
      have HDE := Aside0.mk (decE_or (cur j))
      generalize hbj : bestJ N cur j = bj at HPK HO1 hS
      clear hbj
      generalize hsj : decS (cur j) = sj at HPK HO2 HDC1
      clear hsj
      generalize hej : decE (cur j) = ej at HPK HDC1 HDE
      clear hej
      have HE0 := Aside0.mk (show sj.V.toArray[0]? = some (.int .i64 sj.a) from by simpa using sj.V0)
      have HE2 := Aside0.mk (show sj.V.toArray[2]? = some (.int .i64 sj.c) from by simpa using sj.V2)
      have HB2 := Aside0.mk (show bj.V.toArray[2]? = some (.int .i64 bj.c) from by simpa using bj.V2)
      go_upto_region 9 with (first
        | (go_at_call 52; (with_reducible refine (HRD.out _ _ j hj hS.out.up1).mono ?_); rintro e w3 ⟨A, c, rfl, hc, h3⟩; have HS3 := Aside0.mk h3; clear h3)
        | (go_at_call 32; (with_reducible refine (HDC1.out _ _ _ _ hc HS3.out).mono ?_); rintro e w4 ⟨rfl, h4⟩; have HS4 := Aside0.mk h4.drop; clear h4 HS3)
        | ((with_reducible refine gate_store (ty := 27) rfl ?_); refine Sep.store_own rfl 27 _ _ rfl rfl rfl (HS4.out.push_alloc Z 27) (HSZ.out _ HO2.out) ?aS (SL.V_all _) ?_; (case aS => rw [HZS.out, HSQ.out _ HO2.out]); intro w5 h5; have HS5 := Aside0.mk h5; clear h5))
      generalize w4.heap.size = gs at HS5 ⊢
      clear HS4 hS
      have HSy := Aside0.mk (HS5.out.step (below_drew1 (Below.refl w5.heap.size w5)))
      clear HS5
      have HLD := Aside0.mk (fun W (M : List Th) (h : Sep w0 W (cellsT gs sj.V.toArray 27 :: M)) => (show ∀ j v, sj.V.toArray.toList[j]? = some v → W.cell? ((⟨gs, 0, none⟩ : Addr).add j) = some v from fun j v hv => seg_at h.cells.1 0 sj.V (by rw [List.drop_zero]; exact List.take_of_length_le (Nat.le_refl _)) j v (by simpa using hv)))
      rcases HDE.out with h0 | h0
      · have hz0 : ej = 0 := h0
        subst hz0
        by_cases ha : sj.a = N
        · by_cases hp : sj.c.tmod 2 = (j : Int)
          · have hpb : (sj.c.tmod 2 == (j : Int)) = true := by simpa using hp
            by_cases ht : bj.c < sj.c
            · refine start_ (n := 23) (S := fun W => W.cell? ⟨gs, 0, none⟩ = some (.int .i64 sj.a) ∧ W.cell? ⟨gs, 2, none⟩ = some (.int .i64 sj.c) ∧ W.cell? ⟨gb, 2, none⟩ = some (.int .i64 bj.c)) (ds := []) (bb 23 0) (by kernel_rfl) rfl rfl (⟨blk_cell HSy.out.cells.1 0 |>.trans HE0.out, blk_cell HSy.out.cells.1 2 |>.trans HE2.out, blk_cell HSy.out.up2.cells.1 2 |>.trans HB2.out⟩) (fun hHeld => ?_); refine with_tabW rdd_tab rdd_bits (fun HT_ HW_ => ?_)
              generalize w5.drew = wd at hHeld HSy ⊢
              refine pure_ (i := 0) (N := (some 28)) (v := ?_) (a' := ?_) (bb 23 1) rfl rfl (any_of HT_.out (by kernel_rfl)) (fun _ _ _ h => h) (Or.inl ⟨by rfl, ?_⟩) ?_ ?_
              rotate_left
              · intro w'
                go_simp
                with_reducible rfl
              rotate_left
              · simp only [Act.put, List.setIfInBounds_toArray, List.set_cons_zero, List.set_cons_succ, i64_w, i32_w]
                rfl
              refine pure_ (i := 1) (N := (some 29)) (v := ?_) (a' := ?_) (bb 23 3) rfl rfl (any_of HT_.out (by kernel_rfl)) (fun _ _ _ h => h) (Or.inl ⟨by rfl, ?_⟩) ?_ ?_
              rotate_left
              · intro w'
                go_simp
                with_reducible rfl
              rotate_left
              · simp only [Act.put, List.setIfInBounds_toArray, List.set_cons_zero, List.set_cons_succ, i64_w, i32_w]
                rfl
              refine pure_ (i := 2) (N := (some 30)) (v := ?_) (a' := ?_) (bb 23 7) rfl rfl (any_of HT_.out (by kernel_rfl)) (fun _ _ _ h => h) (Or.inl ⟨by rfl, ?_⟩) ?_ ?_
              rotate_left
              · intro w'
                go_simp
                with_reducible rfl
              rotate_left
              · simp only [Act.put, List.setIfInBounds_toArray, List.set_cons_zero, List.set_cons_succ, i64_w, i32_w]
                rfl
              refine pure_ (i := 3) (N := (some 31)) (v := ?_) (a' := ?_) (bb 23 15) rfl rfl (any_of HT_.out (by kernel_rfl)) (fun _ _ _ h => h) (Or.inl ⟨by rfl, ?_⟩) ?_ ?_
              rotate_left
              · intro w'
                go_simp
                with_reducible rfl
              rotate_left
              · simp only [Act.put, List.setIfInBounds_toArray, List.set_cons_zero, List.set_cons_succ, i64_w, i32_w]
                rfl
              refine take_ (i := 4) (N := (some 32)) (v := ?_) (a' := ?_) (bb 23 31) rfl rfl (take_ofW HT_.out HW_.out (by kernel_rfl)) (fun _ _ _ h => h) (Or.inl ⟨by rfl, ?_⟩) hHeld ?_ ?_
              rotate_left
              · intro w' s0
                (try dsimp only at s0)
                go_simp
                with_reducible rfl
              rotate_left
              · simp only [Act.put, List.setIfInBounds_toArray, List.set_cons_zero, List.set_cons_succ, i64_w, i32_w]
                rfl
              refine pure_ (i := 5) (N := (some 33)) (v := ?_) (a' := ?_) (bb 23 63) rfl rfl (any_of HT_.out (by kernel_rfl)) (fun _ _ _ h => h) (Or.inl ⟨by rfl, ?_⟩) ?_ ?_
              rotate_left
              · intro w'
                go_simp
                with_reducible rfl
              rotate_left
              · simp only [Act.put, List.setIfInBounds_toArray, List.set_cons_zero, List.set_cons_succ, i64_w, i32_w]
                rfl
              refine one_ (i := 6) (N := (some 34)) (bb 23 127) rfl rfl (one_of HT_.out (by kernel_rfl)) (by decide) (fun K hK => ?_)
              refine goes_ Tryd.func47 (by kernel_rfl) rfl #[.pointer (some ⟨gd, 0, none⟩)] (by rfl) rfl rfl (by (try simp only [List.map_toArray, List.map_cons, List.map_nil]); first | done | rfl) ?_
              refine (HSC.out _ _ _ HSy.out.up1).mono ?_
              rintro e w6 ⟨rfl, rfl⟩
              refine ⟨_, rfl, ?_⟩
              refine hK.out _ _ (⟨blk_cell HSy.out.cells.1 0 |>.trans HE0.out, blk_cell HSy.out.cells.1 2 |>.trans HE2.out, blk_cell HSy.out.up2.cells.1 2 |>.trans HB2.out⟩) (fun hHeld => ?_)
              clear hK K
              refine norm_ (a' := ?_) ?_ ?_
              rotate_left
              · show Act.put _ (some 34) _ = _
                simp only [Act.put, List.setIfInBounds_toArray, List.set_cons_zero, List.set_cons_succ, i64_w, i32_w]
                rfl
              refine pure_ (i := 7) (N := (some 35)) (v := ?_) (a' := ?_) (bb 23 255) rfl rfl (any_of HT_.out (by kernel_rfl)) (fun _ _ _ h => h) (Or.inl ⟨by rfl, ?_⟩) ?_ ?_
              rotate_left
              · intro w'
                go_simp
                with_reducible rfl
              rotate_left
              · simp only [Act.put, List.setIfInBounds_toArray, List.set_cons_zero, List.set_cons_succ, i64_w, i32_w]
                rfl
              refine pure_ (i := 8) (N := (some 36)) (v := ?_) (a' := ?_) (bb 23 511) rfl rfl (any_of HT_.out (by kernel_rfl)) (fun _ _ _ h => h) (Or.inl ⟨by rfl, ?_⟩) ?_ ?_
              rotate_left
              · intro w'
                go_simp
                with_reducible rfl
              rotate_left
              · simp only [Act.put, List.setIfInBounds_toArray, List.set_cons_zero, List.set_cons_succ, i64_w, i32_w]
                rfl
              refine pure_ (i := 9) (N := (some 37)) (v := ?_) (a' := ?_) (bb 23 1023) rfl rfl (any_of HT_.out (by kernel_rfl)) (fun _ _ _ h => h) (Or.inl ⟨by rfl, ?_⟩) ?_ ?_
              rotate_left
              · intro w'
                go_simp
                with_reducible rfl
              rotate_left
              · simp only [Act.put, List.setIfInBounds_toArray, List.set_cons_zero, List.set_cons_succ, i64_w, i32_w]
                rfl
              refine pure_ (i := 10) (N := (some 38)) (v := ?_) (a' := ?_) (bb 23 2047) rfl rfl (any_of HT_.out (by kernel_rfl)) (fun _ _ _ h => h) (Or.inl ⟨by rfl, ?_⟩) ?_ ?_
              rotate_left
              · intro w'
                go_simp
                with_reducible rfl
              rotate_left
              · simp only [Act.put, List.setIfInBounds_toArray, List.set_cons_zero, List.set_cons_succ, i64_w, i32_w]
                rfl
              refine take_ (i := 11) (N := (some 39)) (v := ?_) (a' := ?_) (bb 23 4095) rfl rfl (take_ofW HT_.out HW_.out (by kernel_rfl)) (fun _ _ _ h => h) (Or.inl ⟨by rfl, ?_⟩) hHeld ?_ ?_
              rotate_left
              · intro w' s0
                (try dsimp only at s0)
                go_simp
                with_reducible rfl
              rotate_left
              · simp only [Act.put, List.setIfInBounds_toArray, List.set_cons_zero, List.set_cons_succ, i64_w, i32_w]
                rfl
              refine pure_ (i := 12) (N := (some 40)) (v := ?_) (a' := ?_) (bb 23 8191) rfl rfl (any_of HT_.out (by kernel_rfl)) (fun _ _ _ h => h) (Or.inl ⟨by rfl, ?_⟩) ?_ ?_
              rotate_left
              · intro w'
                go_simp
                with_reducible rfl
              rotate_left
              · simp only [Act.put, List.setIfInBounds_toArray, List.set_cons_zero, List.set_cons_succ, i64_w, i32_w]
                rfl
              refine pure_ (i := 13) (N := (some 41)) (v := ?_) (a' := ?_) (bb 23 16383) rfl rfl (any_of HT_.out (by kernel_rfl)) (fun _ _ _ h => h) (Or.inl ⟨by rfl, ?_⟩) ?_ ?_
              rotate_left
              · intro w'
                go_simp
                with_reducible rfl
              rotate_left
              · simp only [Act.put, List.setIfInBounds_toArray, List.set_cons_zero, List.set_cons_succ, i64_w, i32_w]
                rfl
              refine pure_ (i := 14) (N := (some 42)) (v := ?_) (a' := ?_) (bb 23 32767) rfl rfl (any_of HT_.out (by kernel_rfl)) (fun _ _ _ h => h) (Or.inl ⟨by rfl, ?_⟩) ?_ ?_
              rotate_left
              · intro w'
                go_simp
                with_reducible rfl
              rotate_left
              · simp only [Act.put, List.setIfInBounds_toArray, List.set_cons_zero, List.set_cons_succ, i64_w, i32_w]
                rfl
              refine pure_ (i := 15) (N := (some 43)) (v := ?_) (a' := ?_) (bb 23 65535) rfl rfl (any_of HT_.out (by kernel_rfl)) (fun _ _ _ h => h) (Or.inl ⟨by rfl, ?_⟩) ?_ ?_
              rotate_left
              · intro w'
                go_simp
                with_reducible rfl
              rotate_left
              · simp only [Act.put, List.setIfInBounds_toArray, List.set_cons_zero, List.set_cons_succ, i64_w, i32_w]
                rfl
              refine pure_ (i := 16) (N := (some 44)) (v := ?_) (a' := ?_) (bb 23 131071) rfl rfl (any_of HT_.out (by kernel_rfl)) (fun _ _ _ h => h) (Or.inl ⟨by rfl, ?_⟩) ?_ ?_
              rotate_left
              · intro w'
                go_simp
                with_reducible rfl
              rotate_left
              · simp only [Act.put, List.setIfInBounds_toArray, List.set_cons_zero, List.set_cons_succ, i64_w, i32_w]
                rfl
              refine pure_ (i := 17) (N := (some 45)) (v := ?_) (a' := ?_) (bb 23 262143) rfl rfl (any_of HT_.out (by kernel_rfl)) (fun _ _ _ h => h) (Or.inl ⟨by rfl, ?_⟩) ?_ ?_
              rotate_left
              · intro w'
                go_simp
                with_reducible rfl
              rotate_left
              · simp only [Act.put, List.setIfInBounds_toArray, List.set_cons_zero, List.set_cons_succ, i64_w, i32_w]
                rfl
              refine take_ (i := 18) (N := (some 46)) (v := ?_) (a' := ?_) (bb 23 524287) rfl rfl (take_ofW HT_.out HW_.out (by kernel_rfl)) (fun _ _ _ h => h) (Or.inl ⟨by rfl, ?_⟩) hHeld ?_ ?_
              rotate_left
              · intro w' s0
                (try dsimp only at s0)
                go_simp
                with_reducible rfl
              rotate_left
              · simp only [Act.put, List.setIfInBounds_toArray, List.set_cons_zero, List.set_cons_succ, i64_w, i32_w]
                rfl
              refine pure_ (i := 19) (N := (some 47)) (v := ?_) (a' := ?_) (bb 23 1048575) rfl rfl (any_of HT_.out (by kernel_rfl)) (fun _ _ _ h => h) (Or.inl ⟨by rfl, ?_⟩) ?_ ?_
              rotate_left
              · intro w'
                go_simp
                with_reducible rfl
              rotate_left
              · simp only [Act.put, List.setIfInBounds_toArray, List.set_cons_zero, List.set_cons_succ, i64_w, i32_w]
                rfl
              refine take_ (i := 20) (N := (some 48)) (v := ?_) (a' := ?_) (bb 23 2097151) rfl rfl (take_ofW HT_.out HW_.out (by kernel_rfl)) (fun _ _ _ h => h) (Or.inl ⟨by rfl, ?_⟩) hHeld ?_ ?_
              rotate_left
              · intro w' s0
                (try dsimp only at s0)
                go_simp
                with_reducible rfl
              rotate_left
              · simp only [Act.put, List.setIfInBounds_toArray, List.set_cons_zero, List.set_cons_succ, i64_w, i32_w]
                rfl
              refine pure_ (i := 21) (N := (some 49)) (v := ?_) (a' := ?_) (bb 23 4194303) rfl rfl (any_of HT_.out (by kernel_rfl)) (fun _ _ _ h => h) (Or.inl ⟨by rfl, ?_⟩) ?_ ?_
              rotate_left
              · intro w'
                go_simp
                with_reducible rfl
              rotate_left
              · simp only [Act.put, List.setIfInBounds_toArray, List.set_cons_zero, List.set_cons_succ, i64_w, i32_w]
                rfl
              refine pure_ (i := 22) (N := (some 50)) (v := ?_) (a' := ?_) (bb 23 8388607) rfl rfl (any_of HT_.out (by kernel_rfl)) (fun _ _ _ h => h) (Or.inl ⟨by rfl, ?_⟩) ?_ ?_
              rotate_left
              · intro w'
                go_simp
                with_reducible rfl
              rotate_left
              · simp only [Act.put, List.setIfInBounds_toArray, List.set_cons_zero, List.set_cons_succ, i64_w, i32_w]
                rfl
              refine done_ (done_of HT_.out (by kernel_rfl)) ?_
              clear hHeld HT_ HW_
              go_wp2_with (first
                | ((with_reducible refine gate_load (ty := 27) rfl ?_); refine wpList_ldw ?_ 27 _ rfl ⟨gs, 0, none⟩ ?_ sj.V.toArray _ (HLD.out _ _ HSy.out) Tryd.underlying27 rfl (HSZ.out _ HO2.out) ?_; exact rfl; exact rfl; skip)
                | ((with_reducible refine gate_store (ty := 27) rfl ?_); refine Sep.store_own rfl 27 _ _ rfl rfl rfl HSy.out.up2 (HSZ.out _ HO2.out) ?aS (SL.V_all _) ?_; (case aS => rw [HSQ.out _ HO1.out, HSQ.out _ HO2.out]); intro w7 h7; have HS7 := Aside0.mk h7; clear h7))
              go_roundg (gk - 1)
              case measure => have := HJ.out; omega
              case rel => exact ⟨j + 1, by simp, ⟨by have := HJ.out; omega⟩, ⟨by rw [HPK.out]; unfold pickS; rw [if_pos ⟨rfl, ha, hp, ht⟩]; exact HS7.out.up1.drop⟩⟩
            · refine start_ (n := 23) (S := fun W => W.cell? ⟨gs, 0, none⟩ = some (.int .i64 sj.a) ∧ W.cell? ⟨gs, 2, none⟩ = some (.int .i64 sj.c) ∧ W.cell? ⟨gb, 2, none⟩ = some (.int .i64 bj.c)) (ds := []) (bb 23 0) (by kernel_rfl) rfl rfl (⟨blk_cell HSy.out.cells.1 0 |>.trans HE0.out, blk_cell HSy.out.cells.1 2 |>.trans HE2.out, blk_cell HSy.out.up2.cells.1 2 |>.trans HB2.out⟩) (fun hHeld => ?_); refine with_tabW rdd_tab rdd_bits (fun HT_ HW_ => ?_)
              generalize w5.drew = wd at hHeld HSy ⊢
              refine pure_ (i := 0) (N := (some 28)) (v := ?_) (a' := ?_) (bb 23 1) rfl rfl (any_of HT_.out (by kernel_rfl)) (fun _ _ _ h => h) (Or.inl ⟨by rfl, ?_⟩) ?_ ?_
              rotate_left
              · intro w'
                go_simp
                with_reducible rfl
              rotate_left
              · simp only [Act.put, List.setIfInBounds_toArray, List.set_cons_zero, List.set_cons_succ, i64_w, i32_w]
                rfl
              refine pure_ (i := 1) (N := (some 29)) (v := ?_) (a' := ?_) (bb 23 3) rfl rfl (any_of HT_.out (by kernel_rfl)) (fun _ _ _ h => h) (Or.inl ⟨by rfl, ?_⟩) ?_ ?_
              rotate_left
              · intro w'
                go_simp
                with_reducible rfl
              rotate_left
              · simp only [Act.put, List.setIfInBounds_toArray, List.set_cons_zero, List.set_cons_succ, i64_w, i32_w]
                rfl
              refine pure_ (i := 2) (N := (some 30)) (v := ?_) (a' := ?_) (bb 23 7) rfl rfl (any_of HT_.out (by kernel_rfl)) (fun _ _ _ h => h) (Or.inl ⟨by rfl, ?_⟩) ?_ ?_
              rotate_left
              · intro w'
                go_simp
                with_reducible rfl
              rotate_left
              · simp only [Act.put, List.setIfInBounds_toArray, List.set_cons_zero, List.set_cons_succ, i64_w, i32_w]
                rfl
              refine pure_ (i := 3) (N := (some 31)) (v := ?_) (a' := ?_) (bb 23 15) rfl rfl (any_of HT_.out (by kernel_rfl)) (fun _ _ _ h => h) (Or.inl ⟨by rfl, ?_⟩) ?_ ?_
              rotate_left
              · intro w'
                go_simp
                with_reducible rfl
              rotate_left
              · simp only [Act.put, List.setIfInBounds_toArray, List.set_cons_zero, List.set_cons_succ, i64_w, i32_w]
                rfl
              refine take_ (i := 4) (N := (some 32)) (v := ?_) (a' := ?_) (bb 23 31) rfl rfl (take_ofW HT_.out HW_.out (by kernel_rfl)) (fun _ _ _ h => h) (Or.inl ⟨by rfl, ?_⟩) hHeld ?_ ?_
              rotate_left
              · intro w' s0
                (try dsimp only at s0)
                go_simp
                with_reducible rfl
              rotate_left
              · simp only [Act.put, List.setIfInBounds_toArray, List.set_cons_zero, List.set_cons_succ, i64_w, i32_w]
                rfl
              refine pure_ (i := 5) (N := (some 33)) (v := ?_) (a' := ?_) (bb 23 63) rfl rfl (any_of HT_.out (by kernel_rfl)) (fun _ _ _ h => h) (Or.inl ⟨by rfl, ?_⟩) ?_ ?_
              rotate_left
              · intro w'
                go_simp
                with_reducible rfl
              rotate_left
              · simp only [Act.put, List.setIfInBounds_toArray, List.set_cons_zero, List.set_cons_succ, i64_w, i32_w]
                rfl
              refine one_ (i := 6) (N := (some 34)) (bb 23 127) rfl rfl (one_of HT_.out (by kernel_rfl)) (by decide) (fun K hK => ?_)
              refine goes_ Tryd.func47 (by kernel_rfl) rfl #[.pointer (some ⟨gd, 0, none⟩)] (by rfl) rfl rfl (by (try simp only [List.map_toArray, List.map_cons, List.map_nil]); first | done | rfl) ?_
              refine (HSC.out _ _ _ HSy.out.up1).mono ?_
              rintro e w6 ⟨rfl, rfl⟩
              refine ⟨_, rfl, ?_⟩
              refine hK.out _ _ (⟨blk_cell HSy.out.cells.1 0 |>.trans HE0.out, blk_cell HSy.out.cells.1 2 |>.trans HE2.out, blk_cell HSy.out.up2.cells.1 2 |>.trans HB2.out⟩) (fun hHeld => ?_)
              clear hK K
              refine norm_ (a' := ?_) ?_ ?_
              rotate_left
              · show Act.put _ (some 34) _ = _
                simp only [Act.put, List.setIfInBounds_toArray, List.set_cons_zero, List.set_cons_succ, i64_w, i32_w]
                rfl
              refine pure_ (i := 7) (N := (some 35)) (v := ?_) (a' := ?_) (bb 23 255) rfl rfl (any_of HT_.out (by kernel_rfl)) (fun _ _ _ h => h) (Or.inl ⟨by rfl, ?_⟩) ?_ ?_
              rotate_left
              · intro w'
                go_simp
                with_reducible rfl
              rotate_left
              · simp only [Act.put, List.setIfInBounds_toArray, List.set_cons_zero, List.set_cons_succ, i64_w, i32_w]
                rfl
              refine pure_ (i := 8) (N := (some 36)) (v := ?_) (a' := ?_) (bb 23 511) rfl rfl (any_of HT_.out (by kernel_rfl)) (fun _ _ _ h => h) (Or.inl ⟨by rfl, ?_⟩) ?_ ?_
              rotate_left
              · intro w'
                go_simp
                with_reducible rfl
              rotate_left
              · simp only [Act.put, List.setIfInBounds_toArray, List.set_cons_zero, List.set_cons_succ, i64_w, i32_w]
                rfl
              refine pure_ (i := 9) (N := (some 37)) (v := ?_) (a' := ?_) (bb 23 1023) rfl rfl (any_of HT_.out (by kernel_rfl)) (fun _ _ _ h => h) (Or.inl ⟨by rfl, ?_⟩) ?_ ?_
              rotate_left
              · intro w'
                go_simp
                with_reducible rfl
              rotate_left
              · simp only [Act.put, List.setIfInBounds_toArray, List.set_cons_zero, List.set_cons_succ, i64_w, i32_w]
                rfl
              refine pure_ (i := 10) (N := (some 38)) (v := ?_) (a' := ?_) (bb 23 2047) rfl rfl (any_of HT_.out (by kernel_rfl)) (fun _ _ _ h => h) (Or.inl ⟨by rfl, ?_⟩) ?_ ?_
              rotate_left
              · intro w'
                go_simp
                with_reducible rfl
              rotate_left
              · simp only [Act.put, List.setIfInBounds_toArray, List.set_cons_zero, List.set_cons_succ, i64_w, i32_w]
                rfl
              refine take_ (i := 11) (N := (some 39)) (v := ?_) (a' := ?_) (bb 23 4095) rfl rfl (take_ofW HT_.out HW_.out (by kernel_rfl)) (fun _ _ _ h => h) (Or.inl ⟨by rfl, ?_⟩) hHeld ?_ ?_
              rotate_left
              · intro w' s0
                (try dsimp only at s0)
                go_simp
                with_reducible rfl
              rotate_left
              · simp only [Act.put, List.setIfInBounds_toArray, List.set_cons_zero, List.set_cons_succ, i64_w, i32_w]
                rfl
              refine pure_ (i := 12) (N := (some 40)) (v := ?_) (a' := ?_) (bb 23 8191) rfl rfl (any_of HT_.out (by kernel_rfl)) (fun _ _ _ h => h) (Or.inl ⟨by rfl, ?_⟩) ?_ ?_
              rotate_left
              · intro w'
                go_simp
                with_reducible rfl
              rotate_left
              · simp only [Act.put, List.setIfInBounds_toArray, List.set_cons_zero, List.set_cons_succ, i64_w, i32_w]
                rfl
              refine pure_ (i := 13) (N := (some 41)) (v := ?_) (a' := ?_) (bb 23 16383) rfl rfl (any_of HT_.out (by kernel_rfl)) (fun _ _ _ h => h) (Or.inl ⟨by rfl, ?_⟩) ?_ ?_
              rotate_left
              · intro w'
                go_simp
                with_reducible rfl
              rotate_left
              · simp only [Act.put, List.setIfInBounds_toArray, List.set_cons_zero, List.set_cons_succ, i64_w, i32_w]
                rfl
              refine pure_ (i := 14) (N := (some 42)) (v := ?_) (a' := ?_) (bb 23 32767) rfl rfl (any_of HT_.out (by kernel_rfl)) (fun _ _ _ h => h) (Or.inl ⟨by rfl, ?_⟩) ?_ ?_
              rotate_left
              · intro w'
                go_simp
                with_reducible rfl
              rotate_left
              · simp only [Act.put, List.setIfInBounds_toArray, List.set_cons_zero, List.set_cons_succ, i64_w, i32_w]
                rfl
              refine pure_ (i := 15) (N := (some 43)) (v := ?_) (a' := ?_) (bb 23 65535) rfl rfl (any_of HT_.out (by kernel_rfl)) (fun _ _ _ h => h) (Or.inl ⟨by rfl, ?_⟩) ?_ ?_
              rotate_left
              · intro w'
                go_simp
                with_reducible rfl
              rotate_left
              · simp only [Act.put, List.setIfInBounds_toArray, List.set_cons_zero, List.set_cons_succ, i64_w, i32_w]
                rfl
              refine pure_ (i := 16) (N := (some 44)) (v := ?_) (a' := ?_) (bb 23 131071) rfl rfl (any_of HT_.out (by kernel_rfl)) (fun _ _ _ h => h) (Or.inl ⟨by rfl, ?_⟩) ?_ ?_
              rotate_left
              · intro w'
                go_simp
                with_reducible rfl
              rotate_left
              · simp only [Act.put, List.setIfInBounds_toArray, List.set_cons_zero, List.set_cons_succ, i64_w, i32_w]
                rfl
              refine pure_ (i := 17) (N := (some 45)) (v := ?_) (a' := ?_) (bb 23 262143) rfl rfl (any_of HT_.out (by kernel_rfl)) (fun _ _ _ h => h) (Or.inl ⟨by rfl, ?_⟩) ?_ ?_
              rotate_left
              · intro w'
                go_simp
                with_reducible rfl
              rotate_left
              · simp only [Act.put, List.setIfInBounds_toArray, List.set_cons_zero, List.set_cons_succ, i64_w, i32_w]
                rfl
              refine take_ (i := 18) (N := (some 46)) (v := ?_) (a' := ?_) (bb 23 524287) rfl rfl (take_ofW HT_.out HW_.out (by kernel_rfl)) (fun _ _ _ h => h) (Or.inl ⟨by rfl, ?_⟩) hHeld ?_ ?_
              rotate_left
              · intro w' s0
                (try dsimp only at s0)
                go_simp
                with_reducible rfl
              rotate_left
              · simp only [Act.put, List.setIfInBounds_toArray, List.set_cons_zero, List.set_cons_succ, i64_w, i32_w]
                rfl
              refine pure_ (i := 19) (N := (some 47)) (v := ?_) (a' := ?_) (bb 23 1048575) rfl rfl (any_of HT_.out (by kernel_rfl)) (fun _ _ _ h => h) (Or.inl ⟨by rfl, ?_⟩) ?_ ?_
              rotate_left
              · intro w'
                go_simp
                with_reducible rfl
              rotate_left
              · simp only [Act.put, List.setIfInBounds_toArray, List.set_cons_zero, List.set_cons_succ, i64_w, i32_w]
                rfl
              refine take_ (i := 20) (N := (some 48)) (v := ?_) (a' := ?_) (bb 23 2097151) rfl rfl (take_ofW HT_.out HW_.out (by kernel_rfl)) (fun _ _ _ h => h) (Or.inl ⟨by rfl, ?_⟩) hHeld ?_ ?_
              rotate_left
              · intro w' s0
                (try dsimp only at s0)
                go_simp
                with_reducible rfl
              rotate_left
              · simp only [Act.put, List.setIfInBounds_toArray, List.set_cons_zero, List.set_cons_succ, i64_w, i32_w]
                rfl
              refine pure_ (i := 21) (N := (some 49)) (v := ?_) (a' := ?_) (bb 23 4194303) rfl rfl (any_of HT_.out (by kernel_rfl)) (fun _ _ _ h => h) (Or.inl ⟨by rfl, ?_⟩) ?_ ?_
              rotate_left
              · intro w'
                go_simp
                with_reducible rfl
              rotate_left
              · simp only [Act.put, List.setIfInBounds_toArray, List.set_cons_zero, List.set_cons_succ, i64_w, i32_w]
                rfl
              refine pure_ (i := 22) (N := (some 50)) (v := ?_) (a' := ?_) (bb 23 8388607) rfl rfl (any_of HT_.out (by kernel_rfl)) (fun _ _ _ h => h) (Or.inl ⟨by rfl, ?_⟩) ?_ ?_
              rotate_left
              · intro w'
                go_simp
                with_reducible rfl
              rotate_left
              · simp only [Act.put, List.setIfInBounds_toArray, List.set_cons_zero, List.set_cons_succ, i64_w, i32_w]
                rfl
              refine done_ (done_of HT_.out (by kernel_rfl)) ?_
              clear hHeld HT_ HW_
              go_wp2
              go_roundg (gk - 1)
              case measure => have := HJ.out; omega
              case rel => exact ⟨j + 1, by simp, ⟨by have := HJ.out; omega⟩, ⟨by rw [HPK.out]; unfold pickS; rw [if_neg (by simp [ht])]; exact HSy.out.drop.up1⟩⟩
          · have hpb : (sj.c.tmod 2 == (j : Int)) = false := by simpa using hp
            refine start_ (n := 23) (S := fun W => W.cell? ⟨gs, 0, none⟩ = some (.int .i64 sj.a) ∧ W.cell? ⟨gs, 2, none⟩ = some (.int .i64 sj.c) ∧ W.cell? ⟨gb, 2, none⟩ = some (.int .i64 bj.c)) (ds := []) (bb 23 0) (by kernel_rfl) rfl rfl (⟨blk_cell HSy.out.cells.1 0 |>.trans HE0.out, blk_cell HSy.out.cells.1 2 |>.trans HE2.out, blk_cell HSy.out.up2.cells.1 2 |>.trans HB2.out⟩) (fun hHeld => ?_); refine with_tabW rdc_tab rdc_bits (fun HT_ HW_ => ?_)
            generalize w5.drew = wd at hHeld HSy ⊢
            refine pure_ (i := 0) (N := (some 28)) (v := ?_) (a' := ?_) (bb 23 1) rfl rfl (any_of HT_.out (by kernel_rfl)) (fun _ _ _ h => h) (Or.inl ⟨by rfl, ?_⟩) ?_ ?_
            rotate_left
            · intro w'
              go_simp
              with_reducible rfl
            rotate_left
            · simp only [Act.put, List.setIfInBounds_toArray, List.set_cons_zero, List.set_cons_succ, i64_w, i32_w]
              rfl
            refine pure_ (i := 1) (N := (some 29)) (v := ?_) (a' := ?_) (bb 23 3) rfl rfl (any_of HT_.out (by kernel_rfl)) (fun _ _ _ h => h) (Or.inl ⟨by rfl, ?_⟩) ?_ ?_
            rotate_left
            · intro w'
              go_simp
              with_reducible rfl
            rotate_left
            · simp only [Act.put, List.setIfInBounds_toArray, List.set_cons_zero, List.set_cons_succ, i64_w, i32_w]
              rfl
            refine pure_ (i := 2) (N := (some 30)) (v := ?_) (a' := ?_) (bb 23 7) rfl rfl (any_of HT_.out (by kernel_rfl)) (fun _ _ _ h => h) (Or.inl ⟨by rfl, ?_⟩) ?_ ?_
            rotate_left
            · intro w'
              go_simp
              with_reducible rfl
            rotate_left
            · simp only [Act.put, List.setIfInBounds_toArray, List.set_cons_zero, List.set_cons_succ, i64_w, i32_w]
              rfl
            refine pure_ (i := 3) (N := (some 31)) (v := ?_) (a' := ?_) (bb 23 15) rfl rfl (any_of HT_.out (by kernel_rfl)) (fun _ _ _ h => h) (Or.inl ⟨by rfl, ?_⟩) ?_ ?_
            rotate_left
            · intro w'
              go_simp
              with_reducible rfl
            rotate_left
            · simp only [Act.put, List.setIfInBounds_toArray, List.set_cons_zero, List.set_cons_succ, i64_w, i32_w]
              rfl
            refine take_ (i := 4) (N := (some 32)) (v := ?_) (a' := ?_) (bb 23 31) rfl rfl (take_ofW HT_.out HW_.out (by kernel_rfl)) (fun _ _ _ h => h) (Or.inl ⟨by rfl, ?_⟩) hHeld ?_ ?_
            rotate_left
            · intro w' s0
              (try dsimp only at s0)
              go_simp
              with_reducible rfl
            rotate_left
            · simp only [Act.put, List.setIfInBounds_toArray, List.set_cons_zero, List.set_cons_succ, i64_w, i32_w]
              rfl
            refine pure_ (i := 5) (N := (some 33)) (v := ?_) (a' := ?_) (bb 23 63) rfl rfl (any_of HT_.out (by kernel_rfl)) (fun _ _ _ h => h) (Or.inl ⟨by rfl, ?_⟩) ?_ ?_
            rotate_left
            · intro w'
              go_simp
              with_reducible rfl
            rotate_left
            · simp only [Act.put, List.setIfInBounds_toArray, List.set_cons_zero, List.set_cons_succ, i64_w, i32_w]
              rfl
            refine one_ (i := 6) (N := (some 34)) (bb 23 127) rfl rfl (one_of HT_.out (by kernel_rfl)) (by decide) (fun K hK => ?_)
            refine goes_ Tryd.func47 (by kernel_rfl) rfl #[.pointer (some ⟨gd, 0, none⟩)] (by rfl) rfl rfl (by (try simp only [List.map_toArray, List.map_cons, List.map_nil]); first | done | rfl) ?_
            refine (HSC.out _ _ _ HSy.out.up1).mono ?_
            rintro e w6 ⟨rfl, rfl⟩
            refine ⟨_, rfl, ?_⟩
            refine hK.out _ _ (⟨blk_cell HSy.out.cells.1 0 |>.trans HE0.out, blk_cell HSy.out.cells.1 2 |>.trans HE2.out, blk_cell HSy.out.up2.cells.1 2 |>.trans HB2.out⟩) (fun hHeld => ?_)
            clear hK K
            refine norm_ (a' := ?_) ?_ ?_
            rotate_left
            · show Act.put _ (some 34) _ = _
              simp only [Act.put, List.setIfInBounds_toArray, List.set_cons_zero, List.set_cons_succ, i64_w, i32_w]
              rfl
            refine pure_ (i := 7) (N := (some 35)) (v := ?_) (a' := ?_) (bb 23 255) rfl rfl (any_of HT_.out (by kernel_rfl)) (fun _ _ _ h => h) (Or.inl ⟨by rfl, ?_⟩) ?_ ?_
            rotate_left
            · intro w'
              go_simp
              with_reducible rfl
            rotate_left
            · simp only [Act.put, List.setIfInBounds_toArray, List.set_cons_zero, List.set_cons_succ, i64_w, i32_w]
              rfl
            refine pure_ (i := 8) (N := (some 36)) (v := ?_) (a' := ?_) (bb 23 511) rfl rfl (any_of HT_.out (by kernel_rfl)) (fun _ _ _ h => h) (Or.inl ⟨by rfl, ?_⟩) ?_ ?_
            rotate_left
            · intro w'
              go_simp
              with_reducible rfl
            rotate_left
            · simp only [Act.put, List.setIfInBounds_toArray, List.set_cons_zero, List.set_cons_succ, i64_w, i32_w]
              rfl
            refine pure_ (i := 9) (N := (some 37)) (v := ?_) (a' := ?_) (bb 23 1023) rfl rfl (any_of HT_.out (by kernel_rfl)) (fun _ _ _ h => h) (Or.inl ⟨by rfl, ?_⟩) ?_ ?_
            rotate_left
            · intro w'
              go_simp
              with_reducible rfl
            rotate_left
            · simp only [Act.put, List.setIfInBounds_toArray, List.set_cons_zero, List.set_cons_succ, i64_w, i32_w]
              rfl
            refine pure_ (i := 10) (N := (some 38)) (v := ?_) (a' := ?_) (bb 23 2047) rfl rfl (any_of HT_.out (by kernel_rfl)) (fun _ _ _ h => h) (Or.inl ⟨by rfl, ?_⟩) ?_ ?_
            rotate_left
            · intro w'
              go_simp
              with_reducible rfl
            rotate_left
            · simp only [Act.put, List.setIfInBounds_toArray, List.set_cons_zero, List.set_cons_succ, i64_w, i32_w]
              rfl
            refine take_ (i := 11) (N := (some 39)) (v := ?_) (a' := ?_) (bb 23 4095) rfl rfl (take_ofW HT_.out HW_.out (by kernel_rfl)) (fun _ _ _ h => h) (Or.inl ⟨by rfl, ?_⟩) hHeld ?_ ?_
            rotate_left
            · intro w' s0
              (try dsimp only at s0)
              go_simp
              with_reducible rfl
            rotate_left
            · simp only [Act.put, List.setIfInBounds_toArray, List.set_cons_zero, List.set_cons_succ, i64_w, i32_w]
              rfl
            refine pure_ (i := 12) (N := (some 40)) (v := ?_) (a' := ?_) (bb 23 8191) rfl rfl (any_of HT_.out (by kernel_rfl)) (fun _ _ _ h => h) (Or.inl ⟨by rfl, ?_⟩) ?_ ?_
            rotate_left
            · intro w'
              go_simp
              with_reducible rfl
            rotate_left
            · simp only [Act.put, List.setIfInBounds_toArray, List.set_cons_zero, List.set_cons_succ, i64_w, i32_w]
              rfl
            refine pure_ (i := 13) (N := (some 41)) (v := ?_) (a' := ?_) (bb 23 16383) rfl rfl (any_of HT_.out (by kernel_rfl)) (fun _ _ _ h => h) (Or.inl ⟨by rfl, ?_⟩) ?_ ?_
            rotate_left
            · intro w'
              go_simp
              with_reducible rfl
            rotate_left
            · simp only [Act.put, List.setIfInBounds_toArray, List.set_cons_zero, List.set_cons_succ, i64_w, i32_w]
              rfl
            refine pure_ (i := 14) (N := (some 42)) (v := ?_) (a' := ?_) (bb 23 32767) rfl rfl (any_of HT_.out (by kernel_rfl)) (fun _ _ _ h => h) (Or.inl ⟨by rfl, ?_⟩) ?_ ?_
            rotate_left
            · intro w'
              go_simp
              with_reducible rfl
            rotate_left
            · simp only [Act.put, List.setIfInBounds_toArray, List.set_cons_zero, List.set_cons_succ, i64_w, i32_w]
              rfl
            refine pure_ (i := 15) (N := (some 43)) (v := ?_) (a' := ?_) (bb 23 65535) rfl rfl (any_of HT_.out (by kernel_rfl)) (fun _ _ _ h => h) (Or.inl ⟨by rfl, ?_⟩) ?_ ?_
            rotate_left
            · intro w'
              go_simp
              with_reducible rfl
            rotate_left
            · simp only [Act.put, List.setIfInBounds_toArray, List.set_cons_zero, List.set_cons_succ, i64_w, i32_w]
              rfl
            refine pure_ (i := 16) (N := (some 44)) (v := ?_) (a' := ?_) (bb 23 131071) rfl rfl (any_of HT_.out (by kernel_rfl)) (fun _ _ _ h => h) (Or.inl ⟨by rfl, ?_⟩) ?_ ?_
            rotate_left
            · intro w'
              go_simp
              with_reducible rfl
            rotate_left
            · simp only [Act.put, List.setIfInBounds_toArray, List.set_cons_zero, List.set_cons_succ, i64_w, i32_w]
              rfl
            refine pure_ (i := 17) (N := (some 45)) (v := undef) (a' := ?_) (bb 23 262143) rfl rfl (any_of HT_.out (by kernel_rfl)) (fun _ _ _ h => h) (Or.inr ⟨by rfl, rfl⟩) ?_ ?_
            rotate_left
            · simp only [Act.put, List.setIfInBounds_toArray, List.set_cons_zero, List.set_cons_succ, i64_w, i32_w]
              rfl
            refine pure_ (i := 18) (N := (some 46)) (v := undef) (a' := ?_) (bb 23 524287) rfl rfl (any_of HT_.out (by kernel_rfl)) (fun _ _ _ h => h) (Or.inr ⟨by rfl, rfl⟩) ?_ ?_
            rotate_left
            · simp only [Act.put, List.setIfInBounds_toArray, List.set_cons_zero, List.set_cons_succ, i64_w, i32_w]
              rfl
            refine pure_ (i := 19) (N := (some 47)) (v := undef) (a' := ?_) (bb 23 1048575) rfl rfl (any_of HT_.out (by kernel_rfl)) (fun _ _ _ h => h) (Or.inr ⟨by rfl, rfl⟩) ?_ ?_
            rotate_left
            · simp only [Act.put, List.setIfInBounds_toArray, List.set_cons_zero, List.set_cons_succ, i64_w, i32_w]
              rfl
            refine pure_ (i := 20) (N := (some 48)) (v := undef) (a' := ?_) (bb 23 2097151) rfl rfl (any_of HT_.out (by kernel_rfl)) (fun _ _ _ h => h) (Or.inr ⟨by rfl, rfl⟩) ?_ ?_
            rotate_left
            · simp only [Act.put, List.setIfInBounds_toArray, List.set_cons_zero, List.set_cons_succ, i64_w, i32_w]
              rfl
            refine pure_ (i := 21) (N := (some 49)) (v := undef) (a' := ?_) (bb 23 4194303) rfl rfl (any_of HT_.out (by kernel_rfl)) (fun _ _ _ h => h) (Or.inr ⟨by rfl, rfl⟩) ?_ ?_
            rotate_left
            · simp only [Act.put, List.setIfInBounds_toArray, List.set_cons_zero, List.set_cons_succ, i64_w, i32_w]
              rfl
            refine pure_ (i := 22) (N := (some 50)) (v := ?_) (a' := ?_) (bb 23 8388607) rfl rfl (any_of HT_.out (by kernel_rfl)) (fun _ _ _ h => h) (Or.inl ⟨by rfl, ?_⟩) ?_ ?_
            rotate_left
            · intro w'
              go_simp
              with_reducible rfl
            rotate_left
            · simp only [Act.put, List.setIfInBounds_toArray, List.set_cons_zero, List.set_cons_succ, i64_w, i32_w]
              rfl
            refine done_ (done_of HT_.out (by kernel_rfl)) ?_
            clear hHeld HT_ HW_
            go_wp2
            go_roundg (gk - 1)
            case measure => have := HJ.out; omega
            case rel => exact ⟨j + 1, by simp, ⟨by have := HJ.out; omega⟩, ⟨by rw [HPK.out]; unfold pickS; rw [if_neg (by simp [hp])]; exact HSy.out.drop.up1⟩⟩
        · have hab : (sj.a == N) = false := by simpa using ha
          refine start_ (n := 23) (S := fun W => W.cell? ⟨gs, 0, none⟩ = some (.int .i64 sj.a) ∧ W.cell? ⟨gs, 2, none⟩ = some (.int .i64 sj.c) ∧ W.cell? ⟨gb, 2, none⟩ = some (.int .i64 bj.c)) (ds := []) (bb 23 0) (by kernel_rfl) rfl rfl (⟨blk_cell HSy.out.cells.1 0 |>.trans HE0.out, blk_cell HSy.out.cells.1 2 |>.trans HE2.out, blk_cell HSy.out.up2.cells.1 2 |>.trans HB2.out⟩) (fun hHeld => ?_); refine with_tabW rdb_tab rdb_bits (fun HT_ HW_ => ?_)
          generalize w5.drew = wd at hHeld HSy ⊢
          refine pure_ (i := 0) (N := (some 28)) (v := ?_) (a' := ?_) (bb 23 1) rfl rfl (any_of HT_.out (by kernel_rfl)) (fun _ _ _ h => h) (Or.inl ⟨by rfl, ?_⟩) ?_ ?_
          rotate_left
          · intro w'
            go_simp
            with_reducible rfl
          rotate_left
          · simp only [Act.put, List.setIfInBounds_toArray, List.set_cons_zero, List.set_cons_succ, i64_w, i32_w]
            rfl
          refine pure_ (i := 1) (N := (some 29)) (v := ?_) (a' := ?_) (bb 23 3) rfl rfl (any_of HT_.out (by kernel_rfl)) (fun _ _ _ h => h) (Or.inl ⟨by rfl, ?_⟩) ?_ ?_
          rotate_left
          · intro w'
            go_simp
            with_reducible rfl
          rotate_left
          · simp only [Act.put, List.setIfInBounds_toArray, List.set_cons_zero, List.set_cons_succ, i64_w, i32_w]
            rfl
          refine pure_ (i := 2) (N := (some 30)) (v := ?_) (a' := ?_) (bb 23 7) rfl rfl (any_of HT_.out (by kernel_rfl)) (fun _ _ _ h => h) (Or.inl ⟨by rfl, ?_⟩) ?_ ?_
          rotate_left
          · intro w'
            go_simp
            with_reducible rfl
          rotate_left
          · simp only [Act.put, List.setIfInBounds_toArray, List.set_cons_zero, List.set_cons_succ, i64_w, i32_w]
            rfl
          refine pure_ (i := 3) (N := (some 31)) (v := ?_) (a' := ?_) (bb 23 15) rfl rfl (any_of HT_.out (by kernel_rfl)) (fun _ _ _ h => h) (Or.inl ⟨by rfl, ?_⟩) ?_ ?_
          rotate_left
          · intro w'
            go_simp
            with_reducible rfl
          rotate_left
          · simp only [Act.put, List.setIfInBounds_toArray, List.set_cons_zero, List.set_cons_succ, i64_w, i32_w]
            rfl
          refine take_ (i := 4) (N := (some 32)) (v := ?_) (a' := ?_) (bb 23 31) rfl rfl (take_ofW HT_.out HW_.out (by kernel_rfl)) (fun _ _ _ h => h) (Or.inl ⟨by rfl, ?_⟩) hHeld ?_ ?_
          rotate_left
          · intro w' s0
            (try dsimp only at s0)
            go_simp
            with_reducible rfl
          rotate_left
          · simp only [Act.put, List.setIfInBounds_toArray, List.set_cons_zero, List.set_cons_succ, i64_w, i32_w]
            rfl
          refine pure_ (i := 5) (N := (some 33)) (v := ?_) (a' := ?_) (bb 23 63) rfl rfl (any_of HT_.out (by kernel_rfl)) (fun _ _ _ h => h) (Or.inl ⟨by rfl, ?_⟩) ?_ ?_
          rotate_left
          · intro w'
            go_simp
            with_reducible rfl
          rotate_left
          · simp only [Act.put, List.setIfInBounds_toArray, List.set_cons_zero, List.set_cons_succ, i64_w, i32_w]
            rfl
          refine one_ (i := 6) (N := (some 34)) (bb 23 127) rfl rfl (one_of HT_.out (by kernel_rfl)) (by decide) (fun K hK => ?_)
          refine goes_ Tryd.func47 (by kernel_rfl) rfl #[.pointer (some ⟨gd, 0, none⟩)] (by rfl) rfl rfl (by (try simp only [List.map_toArray, List.map_cons, List.map_nil]); first | done | rfl) ?_
          refine (HSC.out _ _ _ HSy.out.up1).mono ?_
          rintro e w6 ⟨rfl, rfl⟩
          refine ⟨_, rfl, ?_⟩
          refine hK.out _ _ (⟨blk_cell HSy.out.cells.1 0 |>.trans HE0.out, blk_cell HSy.out.cells.1 2 |>.trans HE2.out, blk_cell HSy.out.up2.cells.1 2 |>.trans HB2.out⟩) (fun hHeld => ?_)
          clear hK K
          refine norm_ (a' := ?_) ?_ ?_
          rotate_left
          · show Act.put _ (some 34) _ = _
            simp only [Act.put, List.setIfInBounds_toArray, List.set_cons_zero, List.set_cons_succ, i64_w, i32_w]
            rfl
          refine pure_ (i := 7) (N := (some 35)) (v := ?_) (a' := ?_) (bb 23 255) rfl rfl (any_of HT_.out (by kernel_rfl)) (fun _ _ _ h => h) (Or.inl ⟨by rfl, ?_⟩) ?_ ?_
          rotate_left
          · intro w'
            go_simp
            with_reducible rfl
          rotate_left
          · simp only [Act.put, List.setIfInBounds_toArray, List.set_cons_zero, List.set_cons_succ, i64_w, i32_w]
            rfl
          refine pure_ (i := 8) (N := (some 36)) (v := ?_) (a' := ?_) (bb 23 511) rfl rfl (any_of HT_.out (by kernel_rfl)) (fun _ _ _ h => h) (Or.inl ⟨by rfl, ?_⟩) ?_ ?_
          rotate_left
          · intro w'
            go_simp
            with_reducible rfl
          rotate_left
          · simp only [Act.put, List.setIfInBounds_toArray, List.set_cons_zero, List.set_cons_succ, i64_w, i32_w]
            rfl
          refine pure_ (i := 9) (N := (some 37)) (v := ?_) (a' := ?_) (bb 23 1023) rfl rfl (any_of HT_.out (by kernel_rfl)) (fun _ _ _ h => h) (Or.inl ⟨by rfl, ?_⟩) ?_ ?_
          rotate_left
          · intro w'
            go_simp
            with_reducible rfl
          rotate_left
          · simp only [Act.put, List.setIfInBounds_toArray, List.set_cons_zero, List.set_cons_succ, i64_w, i32_w]
            rfl
          refine pure_ (i := 10) (N := (some 38)) (v := undef) (a' := ?_) (bb 23 2047) rfl rfl (any_of HT_.out (by kernel_rfl)) (fun _ _ _ h => h) (Or.inr ⟨by rfl, rfl⟩) ?_ ?_
          rotate_left
          · simp only [Act.put, List.setIfInBounds_toArray, List.set_cons_zero, List.set_cons_succ, i64_w, i32_w]
            rfl
          refine pure_ (i := 11) (N := (some 39)) (v := undef) (a' := ?_) (bb 23 4095) rfl rfl (any_of HT_.out (by kernel_rfl)) (fun _ _ _ h => h) (Or.inr ⟨by rfl, rfl⟩) ?_ ?_
          rotate_left
          · simp only [Act.put, List.setIfInBounds_toArray, List.set_cons_zero, List.set_cons_succ, i64_w, i32_w]
            rfl
          refine pure_ (i := 12) (N := (some 40)) (v := undef) (a' := ?_) (bb 23 8191) rfl rfl (any_of HT_.out (by kernel_rfl)) (fun _ _ _ h => h) (Or.inr ⟨by rfl, rfl⟩) ?_ ?_
          rotate_left
          · simp only [Act.put, List.setIfInBounds_toArray, List.set_cons_zero, List.set_cons_succ, i64_w, i32_w]
            rfl
          refine pure_ (i := 13) (N := (some 41)) (v := undef) (a' := ?_) (bb 23 16383) rfl rfl (any_of HT_.out (by kernel_rfl)) (fun _ _ _ h => h) (Or.inr ⟨by rfl, rfl⟩) ?_ ?_
          rotate_left
          · simp only [Act.put, List.setIfInBounds_toArray, List.set_cons_zero, List.set_cons_succ, i64_w, i32_w]
            rfl
          refine pure_ (i := 14) (N := (some 42)) (v := undef) (a' := ?_) (bb 23 32767) rfl rfl (any_of HT_.out (by kernel_rfl)) (fun _ _ _ h => h) (Or.inr ⟨by rfl, rfl⟩) ?_ ?_
          rotate_left
          · simp only [Act.put, List.setIfInBounds_toArray, List.set_cons_zero, List.set_cons_succ, i64_w, i32_w]
            rfl
          refine pure_ (i := 15) (N := (some 43)) (v := ?_) (a' := ?_) (bb 23 65535) rfl rfl (any_of HT_.out (by kernel_rfl)) (fun _ _ _ h => h) (Or.inl ⟨by rfl, ?_⟩) ?_ ?_
          rotate_left
          · intro w'
            go_simp
            with_reducible rfl
          rotate_left
          · simp only [Act.put, List.setIfInBounds_toArray, List.set_cons_zero, List.set_cons_succ, i64_w, i32_w]
            rfl
          refine pure_ (i := 16) (N := (some 44)) (v := ?_) (a' := ?_) (bb 23 131071) rfl rfl (any_of HT_.out (by kernel_rfl)) (fun _ _ _ h => h) (Or.inl ⟨by rfl, ?_⟩) ?_ ?_
          rotate_left
          · intro w'
            go_simp
            with_reducible rfl
          rotate_left
          · simp only [Act.put, List.setIfInBounds_toArray, List.set_cons_zero, List.set_cons_succ, i64_w, i32_w]
            rfl
          refine pure_ (i := 17) (N := (some 45)) (v := undef) (a' := ?_) (bb 23 262143) rfl rfl (any_of HT_.out (by kernel_rfl)) (fun _ _ _ h => h) (Or.inr ⟨by rfl, rfl⟩) ?_ ?_
          rotate_left
          · simp only [Act.put, List.setIfInBounds_toArray, List.set_cons_zero, List.set_cons_succ, i64_w, i32_w]
            rfl
          refine pure_ (i := 18) (N := (some 46)) (v := undef) (a' := ?_) (bb 23 524287) rfl rfl (any_of HT_.out (by kernel_rfl)) (fun _ _ _ h => h) (Or.inr ⟨by rfl, rfl⟩) ?_ ?_
          rotate_left
          · simp only [Act.put, List.setIfInBounds_toArray, List.set_cons_zero, List.set_cons_succ, i64_w, i32_w]
            rfl
          refine pure_ (i := 19) (N := (some 47)) (v := undef) (a' := ?_) (bb 23 1048575) rfl rfl (any_of HT_.out (by kernel_rfl)) (fun _ _ _ h => h) (Or.inr ⟨by rfl, rfl⟩) ?_ ?_
          rotate_left
          · simp only [Act.put, List.setIfInBounds_toArray, List.set_cons_zero, List.set_cons_succ, i64_w, i32_w]
            rfl
          refine pure_ (i := 20) (N := (some 48)) (v := undef) (a' := ?_) (bb 23 2097151) rfl rfl (any_of HT_.out (by kernel_rfl)) (fun _ _ _ h => h) (Or.inr ⟨by rfl, rfl⟩) ?_ ?_
          rotate_left
          · simp only [Act.put, List.setIfInBounds_toArray, List.set_cons_zero, List.set_cons_succ, i64_w, i32_w]
            rfl
          refine pure_ (i := 21) (N := (some 49)) (v := undef) (a' := ?_) (bb 23 4194303) rfl rfl (any_of HT_.out (by kernel_rfl)) (fun _ _ _ h => h) (Or.inr ⟨by rfl, rfl⟩) ?_ ?_
          rotate_left
          · simp only [Act.put, List.setIfInBounds_toArray, List.set_cons_zero, List.set_cons_succ, i64_w, i32_w]
            rfl
          refine pure_ (i := 22) (N := (some 50)) (v := ?_) (a' := ?_) (bb 23 8388607) rfl rfl (any_of HT_.out (by kernel_rfl)) (fun _ _ _ h => h) (Or.inl ⟨by rfl, ?_⟩) ?_ ?_
          rotate_left
          · intro w'
            go_simp
            with_reducible rfl
          rotate_left
          · simp only [Act.put, List.setIfInBounds_toArray, List.set_cons_zero, List.set_cons_succ, i64_w, i32_w]
            rfl
          refine done_ (done_of HT_.out (by kernel_rfl)) ?_
          clear hHeld HT_ HW_
          go_wp2
          go_roundg (gk - 1)
          case measure => have := HJ.out; omega
          case rel => exact ⟨j + 1, by simp, ⟨by have := HJ.out; omega⟩, ⟨by rw [HPK.out]; unfold pickS; rw [if_neg (by simp [ha])]; exact HSy.out.drop.up1⟩⟩
      · subst h0
        refine start_ (n := 23) (S := fun W => W.cell? ⟨gs, 0, none⟩ = some (.int .i64 sj.a) ∧ W.cell? ⟨gs, 2, none⟩ = some (.int .i64 sj.c) ∧ W.cell? ⟨gb, 2, none⟩ = some (.int .i64 bj.c)) (ds := []) (bb 23 0) (by kernel_rfl) rfl rfl (⟨blk_cell HSy.out.cells.1 0 |>.trans HE0.out, blk_cell HSy.out.cells.1 2 |>.trans HE2.out, blk_cell HSy.out.up2.cells.1 2 |>.trans HB2.out⟩) (fun hHeld => ?_); refine with_tabW rda_tab rda_bits (fun HT_ HW_ => ?_)
        generalize w5.drew = wd at hHeld HSy ⊢
        refine pure_ (i := 0) (N := (some 28)) (v := ?_) (a' := ?_) (bb 23 1) rfl rfl (any_of HT_.out (by kernel_rfl)) (fun _ _ _ h => h) (Or.inl ⟨by rfl, ?_⟩) ?_ ?_
        rotate_left
        · intro w'
          go_simp
          with_reducible rfl
        rotate_left
        · simp only [Act.put, List.setIfInBounds_toArray, List.set_cons_zero, List.set_cons_succ, i64_w, i32_w]
          rfl
        refine pure_ (i := 1) (N := (some 29)) (v := ?_) (a' := ?_) (bb 23 3) rfl rfl (any_of HT_.out (by kernel_rfl)) (fun _ _ _ h => h) (Or.inl ⟨by rfl, ?_⟩) ?_ ?_
        rotate_left
        · intro w'
          go_simp
          with_reducible rfl
        rotate_left
        · simp only [Act.put, List.setIfInBounds_toArray, List.set_cons_zero, List.set_cons_succ, i64_w, i32_w]
          rfl
        refine pure_ (i := 2) (N := (some 30)) (v := ?_) (a' := ?_) (bb 23 7) rfl rfl (any_of HT_.out (by kernel_rfl)) (fun _ _ _ h => h) (Or.inl ⟨by rfl, ?_⟩) ?_ ?_
        rotate_left
        · intro w'
          go_simp
          with_reducible rfl
        rotate_left
        · simp only [Act.put, List.setIfInBounds_toArray, List.set_cons_zero, List.set_cons_succ, i64_w, i32_w]
          rfl
        refine pure_ (i := 3) (N := (some 31)) (v := undef) (a' := ?_) (bb 23 15) rfl rfl (any_of HT_.out (by kernel_rfl)) (fun _ _ _ h => h) (Or.inr ⟨by rfl, rfl⟩) ?_ ?_
        rotate_left
        · simp only [Act.put, List.setIfInBounds_toArray, List.set_cons_zero, List.set_cons_succ, i64_w, i32_w]
          rfl
        refine pure_ (i := 4) (N := (some 32)) (v := undef) (a' := ?_) (bb 23 31) rfl rfl (any_of HT_.out (by kernel_rfl)) (fun _ _ _ h => h) (Or.inr ⟨by rfl, rfl⟩) ?_ ?_
        rotate_left
        · simp only [Act.put, List.setIfInBounds_toArray, List.set_cons_zero, List.set_cons_succ, i64_w, i32_w]
          rfl
        refine pure_ (i := 5) (N := (some 33)) (v := undef) (a' := ?_) (bb 23 63) rfl rfl (any_of HT_.out (by kernel_rfl)) (fun _ _ _ h => h) (Or.inr ⟨by rfl, rfl⟩) ?_ ?_
        rotate_left
        · simp only [Act.put, List.setIfInBounds_toArray, List.set_cons_zero, List.set_cons_succ, i64_w, i32_w]
          rfl
        refine pure_ (i := 6) (N := (some 34)) (v := undef) (a' := ?_) (bb 23 127) rfl rfl (any_of HT_.out (by kernel_rfl)) (fun _ _ _ h => h) (Or.inr ⟨by rfl, rfl⟩) ?_ ?_
        rotate_left
        · simp only [Act.put, List.setIfInBounds_toArray, List.set_cons_zero, List.set_cons_succ, i64_w, i32_w]
          rfl
        refine pure_ (i := 7) (N := (some 35)) (v := undef) (a' := ?_) (bb 23 255) rfl rfl (any_of HT_.out (by kernel_rfl)) (fun _ _ _ h => h) (Or.inr ⟨by rfl, rfl⟩) ?_ ?_
        rotate_left
        · simp only [Act.put, List.setIfInBounds_toArray, List.set_cons_zero, List.set_cons_succ, i64_w, i32_w]
          rfl
        refine pure_ (i := 8) (N := (some 36)) (v := ?_) (a' := ?_) (bb 23 511) rfl rfl (any_of HT_.out (by kernel_rfl)) (fun _ _ _ h => h) (Or.inl ⟨by rfl, ?_⟩) ?_ ?_
        rotate_left
        · intro w'
          go_simp
          with_reducible rfl
        rotate_left
        · simp only [Act.put, List.setIfInBounds_toArray, List.set_cons_zero, List.set_cons_succ, i64_w, i32_w]
          rfl
        refine pure_ (i := 9) (N := (some 37)) (v := ?_) (a' := ?_) (bb 23 1023) rfl rfl (any_of HT_.out (by kernel_rfl)) (fun _ _ _ h => h) (Or.inl ⟨by rfl, ?_⟩) ?_ ?_
        rotate_left
        · intro w'
          go_simp
          with_reducible rfl
        rotate_left
        · simp only [Act.put, List.setIfInBounds_toArray, List.set_cons_zero, List.set_cons_succ, i64_w, i32_w]
          rfl
        refine pure_ (i := 10) (N := (some 38)) (v := undef) (a' := ?_) (bb 23 2047) rfl rfl (any_of HT_.out (by kernel_rfl)) (fun _ _ _ h => h) (Or.inr ⟨by rfl, rfl⟩) ?_ ?_
        rotate_left
        · simp only [Act.put, List.setIfInBounds_toArray, List.set_cons_zero, List.set_cons_succ, i64_w, i32_w]
          rfl
        refine pure_ (i := 11) (N := (some 39)) (v := undef) (a' := ?_) (bb 23 4095) rfl rfl (any_of HT_.out (by kernel_rfl)) (fun _ _ _ h => h) (Or.inr ⟨by rfl, rfl⟩) ?_ ?_
        rotate_left
        · simp only [Act.put, List.setIfInBounds_toArray, List.set_cons_zero, List.set_cons_succ, i64_w, i32_w]
          rfl
        refine pure_ (i := 12) (N := (some 40)) (v := undef) (a' := ?_) (bb 23 8191) rfl rfl (any_of HT_.out (by kernel_rfl)) (fun _ _ _ h => h) (Or.inr ⟨by rfl, rfl⟩) ?_ ?_
        rotate_left
        · simp only [Act.put, List.setIfInBounds_toArray, List.set_cons_zero, List.set_cons_succ, i64_w, i32_w]
          rfl
        refine pure_ (i := 13) (N := (some 41)) (v := undef) (a' := ?_) (bb 23 16383) rfl rfl (any_of HT_.out (by kernel_rfl)) (fun _ _ _ h => h) (Or.inr ⟨by rfl, rfl⟩) ?_ ?_
        rotate_left
        · simp only [Act.put, List.setIfInBounds_toArray, List.set_cons_zero, List.set_cons_succ, i64_w, i32_w]
          rfl
        refine pure_ (i := 14) (N := (some 42)) (v := undef) (a' := ?_) (bb 23 32767) rfl rfl (any_of HT_.out (by kernel_rfl)) (fun _ _ _ h => h) (Or.inr ⟨by rfl, rfl⟩) ?_ ?_
        rotate_left
        · simp only [Act.put, List.setIfInBounds_toArray, List.set_cons_zero, List.set_cons_succ, i64_w, i32_w]
          rfl
        refine pure_ (i := 15) (N := (some 43)) (v := ?_) (a' := ?_) (bb 23 65535) rfl rfl (any_of HT_.out (by kernel_rfl)) (fun _ _ _ h => h) (Or.inl ⟨by rfl, ?_⟩) ?_ ?_
        rotate_left
        · intro w'
          go_simp
          with_reducible rfl
        rotate_left
        · simp only [Act.put, List.setIfInBounds_toArray, List.set_cons_zero, List.set_cons_succ, i64_w, i32_w]
          rfl
        refine pure_ (i := 16) (N := (some 44)) (v := ?_) (a' := ?_) (bb 23 131071) rfl rfl (any_of HT_.out (by kernel_rfl)) (fun _ _ _ h => h) (Or.inl ⟨by rfl, ?_⟩) ?_ ?_
        rotate_left
        · intro w'
          go_simp
          with_reducible rfl
        rotate_left
        · simp only [Act.put, List.setIfInBounds_toArray, List.set_cons_zero, List.set_cons_succ, i64_w, i32_w]
          rfl
        refine pure_ (i := 17) (N := (some 45)) (v := undef) (a' := ?_) (bb 23 262143) rfl rfl (any_of HT_.out (by kernel_rfl)) (fun _ _ _ h => h) (Or.inr ⟨by rfl, rfl⟩) ?_ ?_
        rotate_left
        · simp only [Act.put, List.setIfInBounds_toArray, List.set_cons_zero, List.set_cons_succ, i64_w, i32_w]
          rfl
        refine pure_ (i := 18) (N := (some 46)) (v := undef) (a' := ?_) (bb 23 524287) rfl rfl (any_of HT_.out (by kernel_rfl)) (fun _ _ _ h => h) (Or.inr ⟨by rfl, rfl⟩) ?_ ?_
        rotate_left
        · simp only [Act.put, List.setIfInBounds_toArray, List.set_cons_zero, List.set_cons_succ, i64_w, i32_w]
          rfl
        refine pure_ (i := 19) (N := (some 47)) (v := undef) (a' := ?_) (bb 23 1048575) rfl rfl (any_of HT_.out (by kernel_rfl)) (fun _ _ _ h => h) (Or.inr ⟨by rfl, rfl⟩) ?_ ?_
        rotate_left
        · simp only [Act.put, List.setIfInBounds_toArray, List.set_cons_zero, List.set_cons_succ, i64_w, i32_w]
          rfl
        refine pure_ (i := 20) (N := (some 48)) (v := undef) (a' := ?_) (bb 23 2097151) rfl rfl (any_of HT_.out (by kernel_rfl)) (fun _ _ _ h => h) (Or.inr ⟨by rfl, rfl⟩) ?_ ?_
        rotate_left
        · simp only [Act.put, List.setIfInBounds_toArray, List.set_cons_zero, List.set_cons_succ, i64_w, i32_w]
          rfl
        refine pure_ (i := 21) (N := (some 49)) (v := undef) (a' := ?_) (bb 23 4194303) rfl rfl (any_of HT_.out (by kernel_rfl)) (fun _ _ _ h => h) (Or.inr ⟨by rfl, rfl⟩) ?_ ?_
        rotate_left
        · simp only [Act.put, List.setIfInBounds_toArray, List.set_cons_zero, List.set_cons_succ, i64_w, i32_w]
          rfl
        refine pure_ (i := 22) (N := (some 50)) (v := ?_) (a' := ?_) (bb 23 8388607) rfl rfl (any_of HT_.out (by kernel_rfl)) (fun _ _ _ h => h) (Or.inl ⟨by rfl, ?_⟩) ?_ ?_
        rotate_left
        · intro w'
          go_simp
          with_reducible rfl
        rotate_left
        · simp only [Act.put, List.setIfInBounds_toArray, List.set_cons_zero, List.set_cons_succ, i64_w, i32_w]
          rfl
        refine done_ (done_of HT_.out (by kernel_rfl)) ?_
        clear hHeld HT_ HW_
        go_wp2
        go_roundg (gk - 1)
        case measure => have := HJ.out; omega
        case rel => exact ⟨j + 1, by simp, ⟨by have := HJ.out; omega⟩, ⟨by rw [HPK.out]; unfold pickS; rw [if_neg (by simp)]; exact HSy.out.drop.up1⟩⟩
    · have hj2 : j = 2 := by have := HJ.out; omega
      subst hj2
      have HO1 := Aside0.mk (HOK.out 2)
      have HRS := Aside0.mk (show readS N cur = (if (bestJ N cur 2).c < 0 then noSL else bestJ N cur 2) from rfl)
      have HRE := Aside0.mk (show readE N cur = (if (bestJ N cur 2).c < 0 then 180 else 0) from rfl)
      generalize hb : bestJ N cur 2 = bj at HO1 HRS HRE hS
      have HSZ1 := Aside0.mk (HSZ.out _ HO1.out)
      have HSQ1 := Aside0.mk (show Z.size = bj.V.toArray.size from by rw [HZS.out, HSQ.out _ HO1.out])
      have HLD := Aside0.mk (show ∀ j v, bj.V.toArray.toList[j]? = some v → wr.cell? ((⟨gb, 0, none⟩ : Addr).add j) = some v from fun j v hv => seg_at hS.out.cells.1 0 bj.V (by rw [List.drop_zero]; exact List.take_of_length_le (Nat.le_refl _)) j v (by simpa using hv))
      have x0 : wr.cell? ⟨gb, 2, none⟩ = some (.int .i64 bj.c) := (blk_cell hS.out.cells.1 2).trans (by simpa using bj.V2)
      clear hb HOK HJ hj HDC HRD HSC HDO
      by_cases hc : bj.c < 0
      · have HC := Aside0.mk hc
        have HZZ := Aside0.mk (show (Tryd.prog.info? 27).map (·.size) = some Z.size from size27 HZS.out)
        have HZA := Aside0.mk (show Z.all (·.oneCell') = true from by rw [← HZ.out]; exact SL.V_all _)
        go_wp2_with (first
          | ((with_reducible refine gate_build (ty := 27) rfl ?_); refine wpList_buildTo rfl 27 _ rfl (some 56) rfl Z ?aB ?_; (case aB => (simp only [List.map_toArray, List.map_nil]; exact HBZ.out)))
          | ((with_reducible refine gate_store (ty := 27) rfl ?_); refine Sep.store_own rfl 27 _ _ rfl rfl rfl hS.out.up2 HZZ.out rfl HZA.out ?_; intro w8 h8; have HS8 := Aside0.mk h8; clear h8))
        refine bodyPost_ret (results_row_tmp (p := 2) (u := 3) (ty := 27) rfl _ _ gr 27 Z (0, 0) _ _ rfl rfl HS8.out.cells.1 Tryd.underlying27 rfl HZZ.out) rfl ⟨by rw [HRS.out, HRE.out, if_pos HC.out, if_pos HC.out, HZ.out]; rfl, ?_⟩
        exact HS8.out.drop.drop
      · have HC := Aside0.mk hc
        go_wp2_with (first
          | ((with_reducible refine gate_load (ty := 27) rfl ?_); refine wpList_ldw ?_ 27 _ rfl ⟨gb, 0, none⟩ ?_ bj.V.toArray _ HLD.out Tryd.underlying27 rfl HSZ1.out ?_; exact rfl; exact rfl; skip)
          | ((with_reducible refine gate_store (ty := 27) rfl ?_); refine Sep.store_own rfl 27 _ _ rfl rfl rfl hS.out.up2 HSZ1.out HSQ1.out (SL.V_all _) ?_; intro w8 h8; have HS8 := Aside0.mk h8; clear h8))
        refine bodyPost_ret (results_row_tmp (p := 2) (u := 3) (ty := 27) rfl _ _ gr 27 _ (0, 0) _ _ rfl rfl HS8.out.cells.1 Tryd.underlying27 rfl HSZ1.out) rfl ⟨by rw [HRS.out, HRE.out, if_neg (by have := HC.out; omega), if_neg (by have := HC.out; omega)]; rfl, ?_⟩
        exact HS8.out.drop.drop
end Go.Proofs.YtaflofcnjakaaaaDoor.M

namespace Go.Proofs.YtaflofcnjakaaaaDoor.M
open Go.RowKit Go.Maps Go.Proofs.YtaflofcnjakaaaaDoorW.PrintWords Go.Proofs.YtaflofcnjakaaaaDoorW.PrintLast Go.Proofs.YtaflofcnjakaaaaDoorW.PrintMore Go.Proofs.YtaflofcnjakaaaaDoor.Wr Go.Proofs.YtaflofcnjakaaaaDoor.Pl Go.Proofs.YtaflofcnjakaaaaDoor.P Go.Proofs.YtaflofcnjakaaaaDoor.A
set_option linter.unusedVariables false
set_option linter.unusedSimpArgs false
theorem eqItems_same (d : Nat) (l : List Int) (W : World) : ∀ is : List Nat, (∀ i, i ∈ is → i < l.length) → (Op.eqItems (d + 1) 5 1 (nums .u8 l).toArray (nums .u8 l).toArray is).run Tryd.prog W = .ok true W
  | [], _ => by simp [Op.eqItems]
  | i :: is, h => by
    have hu : Tryd.prog.underlying 5 = some (.int .u8) := by kernel_rfl
    have hp : (Go.part 5 (nums .u8 l).toArray (i * 1)).run Tryd.prog W = .ok (.int .u8 (l.getD i 0)) W := by
      have hagg : (isAgg 5).run Tryd.prog W = .ok false W := by
        unfold isAgg
        rw [Sem.run_bind, run_underlying hu W]
        simp
      unfold Go.part
      rw [Sem.run_bind, hagg]
      simp only [Result.andThen_ok, Nat.mul_one, Bool.false_eq_true, if_false]
      have e : (nums .u8 l).toArray[i]? = some (.int .u8 (l.getD i 0)) := by
        unfold nums
        have hi := h i (by simp)
        simp [List.getElem?_eq_getElem hi]
      rw [e]
      simp
    have he : (Op.equalIn (d + 1) 5 (.int .u8 (l.getD i 0)) (.int .u8 (l.getD i 0))).run Tryd.prog W = .ok true W := by
      simp [Op.equalIn, Sem.run_bind, run_underlying hu]
    simp only [Op.eqItems, Sem.run_bind, hp, he, Result.andThen_ok, Bool.not_true, Bool.false_eq_true, if_false]
    exact eqItems_same d l W is (fun j hj => h j (by simp [hj]))
theorem eq_key (d : Nat) (l : List Int) (hl : l.length = 32) (W : World) : (Op.equalIn (d + 2) 23 (.agg (nums .u8 l).toArray) (.agg (nums .u8 l).toArray)).run Tryd.prog W = .ok true W := by
  obtain ⟨i, hi, _, hsz, _⟩ := info_parts info_u8
  have hc : Tryd.prog.cellsOf 5 = 1 := by kernel_rfl
  rw [run_equalIn_array W (d + 1) (t := 23) (e := 5) (n := 32) (nums .u8 l).toArray (nums .u8 l).toArray Tryd.underlying23 hi, hc]
  exact eqItems_same d l W _ (fun j hj => by rw [hl]; exact List.mem_range.1 hj)
theorem eqFields_same (d : Nat) (xs : Array Value) (W : World) : ∀ fs : List Field, (∀ f ∈ fs, ∃ v, (part f.type xs f.offset).run Tryd.prog W = .ok v W ∧ (Op.equalIn d f.type v v).run Tryd.prog W = .ok true W) → (Op.eqFields d xs xs fs).run Tryd.prog W = .ok true W
  | [], _ => by simp [Op.eqFields]
  | f :: fs, h => by
    obtain ⟨v, hp, he⟩ := h f (by simp)
    unfold Op.eqFields
    rw [Sem.run_ite]
    split
    · simp only [Sem.run_bind, hp, he, Result.andThen_ok, Bool.not_true, Bool.false_eq_true, if_false]
      exact eqFields_same d xs W fs (fun g hg => h g (by simp [hg]))
    · exact eqFields_same d xs W fs (fun g hg => h g (by simp [hg]))
theorem part_int {xs : List Value} {o : Nat} {n : Int} (W : World) (h : xs[o]? = some (.int .i64 n)) : (part 3 xs.toArray o).run Tryd.prog W = .ok (.int .i64 n) W := by
  have hu : Tryd.prog.underlying 3 = some (.int .i64) := by kernel_rfl
  have hagg : (isAgg 3).run Tryd.prog W = .ok false W := by
    unfold isAgg
    rw [Sem.run_bind, run_underlying hu W]
    simp
  unfold Go.part
  rw [Sem.run_bind, hagg]
  simp only [Result.andThen_ok, Bool.false_eq_true, if_false]
  have e : xs.toArray[o]? = some (.int .i64 n) := by simpa using h
  rw [e]
  simp
theorem part_agg {t : TypeId} {d : TypeDesc} {xs ys : List Value} {o : Nat} (W : World) (hu : Tryd.prog.underlying t = some d) (hd : (match d with | .struct _ | .array _ _ => true | _ => false) = true) (hs : (Tryd.prog.info? t).map (·.size) = some ys.length) (h : (xs.drop o).take ys.length = ys) : (part t xs.toArray o).run Tryd.prog W = .ok (.agg ys.toArray) W := by
  have hagg : (isAgg t).run Tryd.prog W = .ok true W := by
    unfold isAgg
    rw [Sem.run_bind, run_underlying hu W]
    cases d <;> simp_all
  cases hq : Tryd.prog.info? t with
  | none => simp [hq] at hs
  | some i =>
    have hsz : i.size = ys.length := by simpa [hq] using hs
    have hlen : o + ys.length ≤ xs.length ∨ ys.length = 0 := by
      have := congrArg List.length h
      simp at this
      omega
    unfold Go.part
    rw [Sem.run_bind, hagg]
    simp [sizeOf, typeInfo, hq, hsz]
    simpa using h
theorem flds25 : (Tryd.prog.fieldsOf 25).toList.map (fun f => (f.type, f.offset)) = [(23, 0), (3, 32), (3, 33)] := by kernel_rfl
theorem flds27 : (Tryd.prog.fieldsOf 27).toList.map (fun f => (f.type, f.offset)) = [(3, 0), (3, 1), (3, 2), (3, 3), (3, 4), (23, 5), (25, 37), (25, 71)] := by kernel_rfl
theorem eq_int (d : Nat) (n : Int) (W : World) : (Op.equalIn (d + 1) 3 (.int .i64 n) (.int .i64 n)).run Tryd.prog W = .ok true W := by
  have hu : Tryd.prog.underlying 3 = some (.int .i64) := by kernel_rfl
  simp [Op.equalIn, Sem.run_bind, run_underlying hu]
theorem eq_ref (d : Nat) {h : List Int} (hh : h.length = 32) (f l : Int) (W : World) : (Op.equalIn (d + 3) 25 (.agg (refV h f l).toArray) (.agg (refV h f l).toArray)).run Tryd.prog W = .ok true W := by
  rw [run_equalIn_struct W (d + 2) 25 _ _ (by kernel_rfl) (by kernel_rfl)]
  refine eqFields_same (d + 2) _ W _ (fun fl hf => ?_)
  have hm : (fl.type, fl.offset) ∈ (Tryd.prog.fieldsOf 25).toList.map (fun f => (f.type, f.offset)) := List.mem_map.2 ⟨fl, hf, rfl⟩
  rw [flds25] at hm
  simp only [List.mem_cons, List.not_mem_nil, or_false, Prod.mk.injEq] at hm
  have r32 := refV_f hh f l []
  have r33 := refV_l hh f l []
  rw [List.append_nil] at r32 r33
  rcases hm with ⟨e1, e2⟩ | ⟨e1, e2⟩ | ⟨e1, e2⟩ <;> rw [e1, e2]
  · exact ⟨_, part_agg (ys := nums .u8 h) W Tryd.underlying23 rfl (size23 (by rw [nums_length, hh])) (by rw [List.drop_zero]; unfold refV; exact take_app rfl), eq_key d h hh W⟩
  · exact ⟨_, part_int W r32, eq_int (d + 1) f W⟩
  · exact ⟨_, part_int W r33, eq_int (d + 1) l W⟩
theorem eq_slot (d : Nat) {s : SL} (hs : s.Ok) (W : World) : (Op.equalIn (d + 4) 27 (.agg s.V.toArray) (.agg s.V.toArray)).run Tryd.prog W = .ok true W := by
  rw [run_equalIn_struct W (d + 3) 27 _ _ (by kernel_rfl) (by kernel_rfl)]
  refine eqFields_same (d + 3) _ W _ (fun fl hf => ?_)
  have hm : (fl.type, fl.offset) ∈ (Tryd.prog.fieldsOf 27).toList.map (fun f => (f.type, f.offset)) := List.mem_map.2 ⟨fl, hf, rfl⟩
  rw [flds27] at hm
  simp only [List.mem_cons, List.not_mem_nil, or_false, Prod.mk.injEq] at hm
  rcases hm with ⟨e1, e2⟩ | ⟨e1, e2⟩ | ⟨e1, e2⟩ | ⟨e1, e2⟩ | ⟨e1, e2⟩ | ⟨e1, e2⟩ | ⟨e1, e2⟩ | ⟨e1, e2⟩ <;> rw [e1, e2]
  · exact ⟨_, part_int W s.V0, eq_int (d + 2) _ W⟩
  · exact ⟨_, part_int W s.V1, eq_int (d + 2) _ W⟩
  · exact ⟨_, part_int W s.V2, eq_int (d + 2) _ W⟩
  · exact ⟨_, part_int W s.V3, eq_int (d + 2) _ W⟩
  · exact ⟨_, part_int W s.V4, eq_int (d + 2) _ W⟩
  · exact ⟨_, part_agg (ys := nums .u8 s.key) W Tryd.underlying23 rfl (size23 (by rw [nums_length, hs.k])) (by have := SL.V_key hs; rwa [nums_length]), eq_key (d + 1) _ hs.k W⟩
  · exact ⟨_, part_agg (ys := refV s.rh s.rf s.rl) W Tryd.underlying25 rfl (size25 (refV_len hs.r _ _)) (SL.V_root hs), eq_ref d hs.r _ _ W⟩
  · exact ⟨_, part_agg (ys := refV s.mh s.mf s.ml) W Tryd.underlying25 rfl (size25 (refV_len hs.m _ _)) (SL.V_memo hs), eq_ref d hs.m _ _ W⟩
theorem eql_slot {s : SL} (hs : s.Ok) (W : World) : (Op.equalIn 10000 27 (.agg s.V.toArray) (.agg s.V.toArray)).run Tryd.prog W = .ok true W := eq_slot 9996 hs W
def easySL : SL := ⟨40, 8, 0, 0, 0, z32, z32, 10, 0, z32, 11, 2⟩
theorem easy_ok : easySL.Ok := ⟨z32_ok.1, z32_ok.1, z32_ok.1, z32_ok.2, z32_ok.2, z32_ok.2⟩
theorem easy_may : mayM easySL = true := by kernel_rfl
set_option maxRecDepth 100000 in
theorem easy_ref1 : Tryd.prog.built 25 [(1, .int .i64 10), (2, .int .i64 0)] = some (refV z32 10 0).toArray := by kernel_rfl
set_option maxRecDepth 100000 in
theorem easy_ref2 : Tryd.prog.built 25 [(1, .int .i64 11), (2, .int .i64 2)] = some (refV z32 11 2).toArray := by kernel_rfl
set_option maxRecDepth 100000 in
theorem easy_built : Tryd.prog.built 27 [(0, .int .i64 40), (1, .int .i64 8), (2, .int .i64 0), (3, .int .i64 0), (4, .int .i64 0), (6, .agg (refV z32 10 0).toArray), (7, .agg (refV z32 11 2).toArray)] = some easySL.V.toArray := by kernel_rfl
set_option maxHeartbeats 8000000 in
set_option maxRecDepth 100000 in
theorem Sep.easy {w0 w : World} {L : List Th} (h : Sep w0 w L) : Calls Tryd.prog 55 #[.int .i64 0] w fun e w' => e = .returned (.agg easySL.V.toArray) ∧ Sep w0 w' L := by
  have HS0 := Aside0.mk h
  have HR1 := Aside0.mk easy_ref1
  have HR2 := Aside0.mk easy_ref2
  have HBE := Aside0.mk easy_built
  generalize (refV z32 10 0).toArray = R1 at HR1 HBE
  generalize (refV z32 11 2).toArray = R2 at HR2 HBE
  have HSZ := Aside0.mk (show (Tryd.prog.info? 27).map (·.size) = some easySL.V.toArray.size from size27 (by simpa using SL.V_len easy_ok))
  have hz := (zero_of_info (P := Tryd.prog) (t := 27) (v := .agg noSL.V.toArray) (n := 105) (by kernel_rfl)).1
  have HQ := Aside0.mk (show noSL.V.toArray.size = easySL.V.toArray.size from by simp only [List.size_toArray]; rw [SL.V_len noSL_ok, SL.V_len easy_ok])
  have HA := Aside0.mk (SL.V_all easySL)
  generalize easySL.V.toArray = E at HBE HSZ HQ HA ⊢
  generalize noSL.V.toArray = Z at hz HQ
  clear h
  go_enter Tryd.func55, Tryd.ntmps55
  go_upto_region 1 with (fail)
  have HS1 := Aside0.mk (HS0.out.push_alloc Z 27)
  generalize w.alloc (.cells Z 27) = w1 at HS1 ⊢
  generalize w.heap.size = gr at HS1 ⊢
  go_wp2_with (first
    | ((with_reducible refine gate_build (ty := 25) rfl ?_); refine wpList_buildTo rfl 25 _ rfl (some 13) rfl R1 ?aB ?_; (case aB => (simp only [List.map_toArray, List.map_cons, List.map_nil]; exact HR1.out)))
    | ((with_reducible refine gate_build (ty := 25) rfl ?_); refine wpList_buildTo rfl 25 _ rfl (some 14) rfl R2 ?aB ?_; (case aB => (simp only [List.map_toArray, List.map_cons, List.map_nil]; exact HR2.out)))
    | ((with_reducible refine gate_build (ty := 27) rfl ?_); refine wpList_buildTo rfl 27 _ rfl (some 15) rfl E ?aB ?_; (case aB => (simp only [List.map_toArray, List.map_cons, List.map_nil]; exact HBE.out)))
    | ((with_reducible refine gate_store (ty := 27) rfl ?_); refine Sep.store_own rfl 27 _ _ rfl rfl rfl HS1.out HSZ.out HQ.out HA.out ?_; intro w3 h3; have HS2 := Aside0.mk h3; clear h3))
  refine bodyPost_ret (results_cell_row (p := 2) (ty := 27) rfl _ _ gr 27 E (0, 0) _ rfl HS2.out.cells.1 Tryd.underlying27 rfl HSZ.out) rfl ⟨rfl, ?_⟩
  exact HS2.out.drop
end Go.Proofs.YtaflofcnjakaaaaDoor.M

namespace Go.Proofs.YtaflofcnjakaaaaDoor.M
open Go.RowKit Go.Maps Go.Proofs.YtaflofcnjakaaaaDoorW.PrintWords Go.Proofs.YtaflofcnjakaaaaDoorW.PrintLast Go.Proofs.YtaflofcnjakaaaaDoorW.PrintMore Go.Proofs.YtaflofcnjakaaaaDoor.Wr Go.Proofs.YtaflofcnjakaaaaDoor.Pl Go.Proofs.YtaflofcnjakaaaaDoor.P Go.Proofs.YtaflofcnjakaaaaDoor.A
set_option linter.unusedVariables false
set_option linter.unusedSimpArgs false
section
variable {P : Program} {ops : Array Oper} {rest : List Oper} {o : Oper} {a : Act} {w : World} {Q : Exit → Act → World → Prop}
theorem gate_eql {t t2 : TypeId} {x y : Operand} (_ho : o.op = .binOp .eql t x y t2) (h : wpList P ops Q (o :: rest) a w) : wpList P ops Q (o :: rest) a w := h
theorem wpList_eqlw (hw : Region.wanted o (yielded ops a.tmps) = true) (t t2 : TypeId) (x y : Operand) (ho : o.op = .binOp .eql t x y t2) (cs : Array Value) (hx : a.eval x = .agg cs) (hy : a.eval y = .agg cs) (hg : P.eqGuardType P.depth t = false)
    (he : (Op.equalIn 10000 t (.agg cs) (.agg cs)).run P w = .ok true w) (h : wpList P ops Q rest (a.put o.dst (.bool true)) w) : wpList P ops Q (o :: rest) a w :=
  wpList_step fun K hK => by
    rw [if_pos hw]
    unfold Oper.wp execOp
    have hb : (binOp .eql t (.agg cs) (.agg cs)).run P w = .ok (.bool true) w := by rw [run_eql_struct, he]; rfl
    have hgd : (eqGuard .eql t x y (.agg cs) (.agg cs)).run P w = .ok () w := run_eqGuard_agg w .eql t x y cs cs hg
    simp only [ho, hx, hy, Sem.run_bind, hgd, hb, Result.andThen_ok, Sem.run_pure]
    exact hK _ _ h
end
theorem guard27 : Tryd.prog.eqGuardType Tryd.prog.depth 27 = false := by kernel_rfl
theorem zeros_bytes : bytes_ zeros := fun x hx => by rw [List.eq_of_mem_replicate hx]; omega
theorem zeros_no : decB zeros = none := by
  have h : (readL zeros).a = 0 := by kernel_rfl
  unfold decB
  rw [if_neg]
  rintro ⟨_, h2, _⟩
  have := ((may_iff _).1 h2).a1
  omega
theorem bytes_nil : bytes_ [] := fun x hx => by simp at hx
theorem getD_rep_bytes (n j : Nat) : bytes_ ((List.replicate n zeros).getD j []) := by
  rw [List.getD_eq_getElem?_getD]
  by_cases h : j < n
  · rw [List.getElem?_replicate_of_lt h]; exact zeros_bytes
  · rw [List.getElem?_eq_none (by simpa using h)]; exact bytes_nil
theorem getD_rep {n j : Nat} (h : j < n) : (List.replicate n zeros).getD j [] = zeros := by
  rw [List.getD_eq_getElem?_getD, List.getElem?_replicate_of_lt h]
  rfl
def easyD : DS := DS.fresh 40 (List.replicate 40 zeros)
def easyD2 : DS := (easyD.put 0 (encB easySL)).flush
theorem flush_cur (s : DS) {j : Nat} (h : j < s.n) : s.flush.cur j = s.cur j := by
  unfold DS.flush
  show (match ([] : List (List Int)).getLast? with | some b => b | none => ((List.range s.n).map s.cur).getD j []) = _
  rw [List.getD_eq_getElem?_getD]
  simp [h]
theorem flush_cur_no (s : DS) {j : Nat} (h : ¬ j < s.n) : s.flush.cur j = [] := by
  unfold DS.flush
  show (match ([] : List (List Int)).getLast? with | some b => b | none => ((List.range s.n).map s.cur).getD j []) = _
  rw [List.getD_eq_getElem?_getD]
  simp [h]
theorem put_cur (s : DS) (i : Nat) (b : List Int) : (s.put i b).cur i = b := by
  unfold DS.put DS.cur
  simp
theorem put_cur_ne (s : DS) {i j : Nat} (b : List Int) (h : j ≠ i) : (s.put i b).cur j = s.cur j := by
  unfold DS.put DS.cur
  simp [h]
theorem fresh_cur {n j : Nat} (h : j < n) : (DS.fresh n (List.replicate n zeros)).cur j = zeros := by
  show (List.replicate n zeros).getD j [] = _
  exact getD_rep h
theorem easy_cur0 : easyD2.cur 0 = encB easySL := by
  unfold easyD2
  rw [flush_cur _ (show 0 < 40 by decide), put_cur]
theorem easy_cur1 : easyD2.cur 1 = zeros := by
  unfold easyD2
  rw [flush_cur _ (show 1 < 40 by decide), put_cur_ne _ _ (by decide)]
  exact fresh_cur (by decide)
theorem easy_bytes (j : Nat) : bytes_ (easyD2.cur j) := by
  by_cases h : j < 40
  · by_cases h0 : j = 0
    · subst h0; rw [easy_cur0]; exact bytes_encB easy_ok
    · unfold easyD2
      rw [flush_cur _ (show j < 40 from h), put_cur_ne _ _ h0]
      show bytes_ ((DS.fresh 40 (List.replicate 40 zeros)).cur j)
      rw [fresh_cur h]
      exact zeros_bytes
  · unfold easyD2
    rw [flush_cur_no _ (show ¬ j < 40 from h)]
    exact bytes_nil
theorem easy_len (j : Nat) (hj : j < 2) : (easyD2.cur j).length = 512 := by
  rcases (show j = 0 ∨ j = 1 by omega) with rfl | rfl
  · rw [easy_cur0]; exact encB_len easy_ok
  · rw [easy_cur1]; exact zeros_len
theorem easy_best : bestJ 40 easyD2.cur 2 = easySL := by
  have h0 := decS_yes (dec_enc easy_ok ((may_iff _).1 easy_may))
  have h1 := decS_no zeros_no
  unfold bestJ bestJ bestJ
  rw [easy_cur0, easy_cur1, h0.1, h0.2, h1.1, h1.2]
  unfold pickS
  rw [if_neg (by decide), if_pos (by decide)]
theorem easy_read : readS 40 easyD2.cur = easySL ∧ readE 40 easyD2.cur = 0 := by
  unfold readS readE
  rw [easy_best]
  exact ⟨if_neg (by decide), if_neg (by decide)⟩
set_option maxHeartbeats 8000000 in
set_option maxRecDepth 100000 in
theorem Sep.started {w0 w : World} {L : List Th} (h : Sep w0 w L) (hH : Wr.Half w0) : Calls Tryd.prog 31 #[] w fun e w' => e = .returned (.bool true) ∧ Sep w0 w' L := by
  have HS0 := Aside0.mk h
  have HNW := Aside0.mk (fun W (M : List Th) (h : Sep w0 W M) => (show Calls Tryd.prog 15 #[.int .i64 40] W (fun e w' => ∃ g, e = .returned (.tuple #[.pointer (some ⟨g, 0, none⟩), .int .i64 0]) ∧ Sep w0 w' (dkT g easyD :: M)) from Sep.new h 40 (by decide) (by decide)))
  have HWR := Aside0.mk (fun W (M : List Th) gd (h : Sep w0 W (dkT gd easyD :: M)) => (show Calls Tryd.prog 17 #[.pointer (some ⟨gd, 0, none⟩), .agg easySL.V.toArray] W (fun e w' => ∃ gx ge, e = .returned (.tuple #[.pointer (some ⟨gx, 0, none⟩), .int .i64 0]) ∧ Sep w0 w' (wrT gx ge gd 0 (encB easySL) 0 ++ dkT gd easyD :: M)) from Sep.writer h hH easySL easy_ok easy_may rfl))
  have HT0 := Aside0.mk (fun W (M : List Th) gx ge gd (h : Sep w0 W (wrT gx ge gd 0 (encB easySL) 0 ++ dkT gd easyD :: M)) => Sep.step0 (i := 0) h rfl (show 0 < 40 by decide) (show 0 < 1073741824 by decide) (encB_len easy_ok))
  have HT1 := Aside0.mk (fun W (M : List Th) gx ge gd (h : Sep w0 W (wrT gx ge gd 0 (encB easySL) 1 ++ dkT gd (easyD.put 0 (encB easySL)) :: M)) => Sep.step1 h)
  have HRS := Aside0.mk (fun W (M : List Th) gd (h : Sep w0 W (dkT gd easyD2 :: M)) => (show Calls Tryd.prog 28 #[.pointer (some ⟨gd, 0, none⟩)] W (fun e w' => e = .returned (.tuple #[.agg easySL.V.toArray, .int .i64 0]) ∧ Sep w0 w' (dkT gd (easyD2.readsJ 2) :: M)) from by
    have h3 := Sep.readSlot h hH (show 2 ≤ 40 by decide) easy_bytes easy_len
    rw [show ((easyD2.n : Nat) : Int) = 40 from rfl, easy_read.1, easy_read.2] at h3
    exact h3))
  have HSZ := Aside0.mk (show (Tryd.prog.info? 27).map (·.size) = some easySL.V.toArray.size from size27 (by simpa using SL.V_len easy_ok))
  have hz := (zero_of_info (P := Tryd.prog) (t := 27) (v := .agg noSL.V.toArray) (n := 105) (by kernel_rfl)).1
  have HQ := Aside0.mk (show noSL.V.toArray.size = easySL.V.toArray.size from by simp only [List.size_toArray]; rw [SL.V_len noSL_ok, SL.V_len easy_ok])
  have HA := Aside0.mk (SL.V_all easySL)
  have HES := Aside0.mk (fun W (M : List Th) (h : Sep w0 W M) => Sep.easy h)
  have HEQ := Aside0.mk (fun W => eql_slot easy_ok W)
  have HLV := Aside0.mk (fun W (M : List Th) g (h : Sep w0 W (cellsT g easySL.V.toArray 27 :: M)) => (show ∀ j v, easySL.V.toArray.toList[j]? = some v → W.cell? ((⟨g, 0, none⟩ : Addr).add j) = some v from fun j v hv => seg_at h.cells.1 0 easySL.V (by rw [List.drop_zero]; exact List.take_of_length_le (Nat.le_refl _)) j v (by simpa using hv)))
  clear h hH
  generalize easySL.V.toArray = E at HWR HRS HSZ HQ HA HES HEQ HLV ⊢
  generalize noSL.V.toArray = Z at hz HQ
  generalize hEB : encB easySL = eb at HWR HT0 HT1
  have HEB := Aside0.mk hEB
  clear hEB
  generalize hD0 : easyD = D0 at HNW HWR HT0 HT1
  have HD0 := Aside0.mk hD0
  clear hD0
  have HD2 := Aside0.mk (show (D0.put 0 eb).flush = easyD2 from by rw [← HD0.out, ← HEB.out]; rfl)
  generalize easyD2 = D2 at HRS HD2
  generalize D0.put 0 eb = D1 at HT0 HT1 HD2
  generalize D1.flush = D1f at HT1 HD2
  have hd2 := HD2.out
  clear HD2
  subst hd2
  go_enter Tryd.func31, Tryd.ntmps31
  go_upto_region 2 with (go_at_call 15; (with_reducible refine (HNW.out _ _ HS0.out).mono ?_); rintro e w1 ⟨gd, rfl, h1⟩; have HS1 := Aside0.mk h1; clear h1 HS0)
  go_upto_region 3 with (first
    | (go_at_call 55; (with_reducible refine (HES.out _ _ HS1.out).mono ?_); rintro e w2 ⟨rfl, h2⟩; have HS2 := Aside0.mk h2; clear h2 HS1)
    | ((with_reducible refine gate_store (ty := 27) rfl ?_); refine Sep.store_own rfl 27 _ _ rfl rfl rfl (HS2.out.push_alloc Z 27) HSZ.out HQ.out HA.out ?_; intro w3 h3; have HS3 := Aside0.mk h3; clear h3))
  generalize w2.heap.size = g3 at HS3 ⊢
  clear HS2
  go_upto_region 4 with (first
    | ((with_reducible refine gate_load (ty := 27) rfl ?_); refine wpList_ldw ?_ 27 _ rfl ⟨g3, 0, none⟩ ?_ E _ (HLV.out _ _ _ HS3.out) Tryd.underlying27 rfl HSZ.out ?_; exact rfl; exact rfl; skip)
    | (go_at_call 17; (with_reducible refine (HWR.out _ _ _ HS3.out.up1).mono ?_); rintro e w4 ⟨gx, ge, rfl, h4⟩; have HS4 := Aside0.mk h4; clear h4 HS3))
  go_upto_region 7 with (go_at_call 19; (with_reducible refine (HT0.out _ _ _ _ _ HS4.out).mono ?_); rintro e w5 ⟨rfl, h5⟩; have HS5 := Aside0.mk h5; clear h5 HS4)
  go_upto_region 8 with (go_at_call 19; (with_reducible refine (HT1.out _ _ _ _ _ HS5.out).mono ?_); rintro e w6 ⟨rfl, h6⟩; have HS6 := Aside0.mk (show Sep w0 w6 (dkT gd D1f :: cellsT g3 E 27 :: L) from h6.drop.drop); clear h6 HS5)
  go_upto_region 9 with (first
    | (go_at_call 28; (with_reducible refine (HRS.out _ _ _ HS6.out).mono ?_); rintro e w7 ⟨rfl, h7⟩; have HS7 := Aside0.mk h7; clear h7 HS6)
    | ((with_reducible refine gate_store (ty := 27) rfl ?_); refine Sep.store_own rfl 27 _ _ rfl rfl rfl (HS7.out.push_alloc Z 27) HSZ.out HQ.out HA.out ?_; intro w8 h8; have HS8 := Aside0.mk h8; clear h8))
  generalize w7.heap.size = g6 at HS8 ⊢
  clear HS7
  go_wp2_with (first
    | ((with_reducible refine gate_load (ty := 27) rfl ?_); refine wpList_ldw ?_ 27 _ rfl ⟨g6, 0, none⟩ ?_ E _ (HLV.out _ _ _ HS8.out) Tryd.underlying27 rfl HSZ.out ?_; exact rfl; exact rfl; skip)
    | ((with_reducible refine gate_load (ty := 27) rfl ?_); refine wpList_ldw ?_ 27 _ rfl ⟨g3, 0, none⟩ ?_ E _ (HLV.out _ _ _ HS8.out.up2) Tryd.underlying27 rfl HSZ.out ?_; exact rfl; exact rfl; skip)
    | ((with_reducible refine gate_eql (t := 27) rfl ?_); refine wpList_eqlw ?_ 27 27 _ _ rfl E ?_ ?_ guard27 (HEQ.out _) ?_; exact rfl; exact rfl; exact rfl; skip))
  go_ret
  exact ⟨rfl, HS8.out.drop.drop.drop⟩
end Go.Proofs.YtaflofcnjakaaaaDoor.M

namespace Go.Proofs.YtaflofcnjakaaaaDoor.M
open Go.RowKit Go.Maps Go.Proofs.YtaflofcnjakaaaaDoorW.PrintWords Go.Proofs.YtaflofcnjakaaaaDoorW.PrintLast Go.Proofs.YtaflofcnjakaaaaDoorW.PrintMore Go.Proofs.YtaflofcnjakaaaaDoor.Wr Go.Proofs.YtaflofcnjakaaaaDoor.Pl Go.Proofs.YtaflofcnjakaaaaDoor.P Go.Proofs.YtaflofcnjakaaaaDoor.A
set_option linter.unusedVariables false
set_option linter.unusedSimpArgs false
theorem ReadsB.cells {w0 : World} {L : List Th} {ge ty : Nat} {b : List Int} (hl : b.length = 512) : ReadsB w0 (cellsT ge (nums .u8 b).toArray ty :: L) (some ⟨ge, 0, none⟩) b := fun W M hs h =>
  C_segn (hs.sep h).cells.1 0 b 512 hl (by rw [List.drop_zero]; exact List.take_of_length_le (by rw [nums_length, hl]; exact Nat.le_refl _)) (by decide)
end Go.Proofs.YtaflofcnjakaaaaDoor.M

namespace Go.Proofs.YtaflofcnjakaaaaDoor.M
open Go.RowKit Go.Maps Go.Proofs.YtaflofcnjakaaaaDoorW.PrintWords Go.Proofs.YtaflofcnjakaaaaDoorW.PrintLast Go.Proofs.YtaflofcnjakaaaaDoorW.PrintMore Go.Proofs.YtaflofcnjakaaaaDoor.Wr Go.Proofs.YtaflofcnjakaaaaDoor.Pl Go.Proofs.YtaflofcnjakaaaaDoor.P Go.Proofs.YtaflofcnjakaaaaDoor.A
set_option linter.unusedVariables false
set_option linter.unusedSimpArgs false
theorem take_snoc {α : Type} (l : List α) {i : Nat} (d : α) (h : i < l.length) : l.take (i + 1) = l.take i ++ [l.getD i d] := by
  rw [List.take_add_one, List.getElem?_eq_getElem h, List.getD_eq_getElem?_getD, List.getElem?_eq_getElem h]; rfl
theorem shr8i (v i : Nat) (hi : i ≤ 8) : shr .i64 (v : Int) (wrap64 (8 * (i : Int))) = ((v / 256 ^ i : Nat) : Int) := by
  rw [w64 (by omega) (by omega)]
  unfold shr
  rw [show (8 * (i : Int)).toNat = 8 * i by omega, Nat.min_eq_left (show 8 * i ≤ IntKind.i64.bits from by show 8 * i ≤ 64; omega), p256]
  simp
theorem number_l0 : ∀ (m v n i k : Nat), i + m = n → n ≤ 8 → m < k →
    kilnref18_number.l0 k (v : Int) (n : Int) (fixL v i ++ List.replicate m 0) (i : Int) = some (fixL v n) := by
  intro m
  induction m with
  | zero =>
    intro v n i k h hn hk
    obtain ⟨k, rfl⟩ : ∃ q, k = q + 1 := ⟨k - 1, by omega⟩
    simp only [kilnref18_number.l0]
    rw [if_neg (by omega), show i = n by omega]; simp
  | succ m ih =>
    intro v n i k h hn hk
    obtain ⟨k, rfl⟩ : ∃ q, k = q + 1 := ⟨k - 1, by omega⟩
    simp only [kilnref18_number.l0]
    rw [if_pos (by omega), if_pos (show 0 ≤ wrap64 (8 * (i : Int)) by rw [w64 (by omega) (by omega)]; omega), if_pos (by omega), if_pos (by simp [fixL_len]; omega), shr8i v i (by omega), w64 (x := (i : Int) + 1) (by omega) (by omega)]
    have e : (fixL v i ++ List.replicate (m + 1) 0).set (i : Int).toNat (((v / 256 ^ i : Nat) : Int) % 256) = fixL v (i + 1) ++ List.replicate m 0 := by
      rw [Int.toNat_natCast, List.set_append_right _ _ (by rw [fixL_len]; exact Nat.le_refl _), fixL_len, Nat.sub_self, List.replicate_succ, List.set_cons_zero, fixL_snoc, List.append_assoc]
      simp
    rw [e]
    exact ih v n (i + 1) k (by omega) hn (by omega)
theorem number_f (v n : Nat) (h8 : n ≤ 8) : kilnref18_number.f 9 (v : Int) (n : Int) = some (fixL v n) := by
  unfold kilnref18_number.f
  rw [if_pos (by omega), if_pos (by omega), Int.toNat_natCast]
  exact number_l0 n v n 0 9 (Nat.zero_add _) h8 (by omega)
theorem sumR_f {b : List Int} (hb : bytes_ b) (hl : b.length ≤ 1000000) : ∃ k, kilnref1_Sum.f k b = some ((crc b : Nat) : Int) := by
  obtain ⟨K, hK⟩ := rSum_ev [b] (by simp) (fun x hx => by rw [List.mem_singleton.1 hx]; exact ⟨by omega, hb⟩)
  refine ⟨K, ?_⟩
  have h2 : kilnref1_SumAll.f K [b] = some ((sumP 4294967295 [b] ^^^ 4294967295 : Nat) : Int) := hK K (Nat.le_refl _)
  unfold kilnref1_Sum.f
  rw [h2]
  rfl
section
variable {w0 w : World} {L : List Th}
theorem Sep.numR (h : Sep w0 w L) (x : Int) (n : Nat) (h8 : n ≤ 8) (h0 : 0 ≤ x) :
    Calls Tryd.prog 41 #[.int .i64 x, .int .i64 (n : Int)] w fun e w' => ∃ v, e = .returned v ∧ Sep w0 w' (ownT (Kd.int .u8) 5 v (fixL x.toNat n) :: L) := by
  obtain ⟨v, rfl⟩ : ∃ v : Nat, x = (v : Int) := ⟨x.toNat, by omega⟩
  rw [Int.toNat_natCast]
  refine (kilnref18_number.calls 9 (v : Int) (n : Int) _ w (number_f v n h8)).mono ?_
  rintro e w' ⟨v1, he, hr, hb⟩
  exact ⟨v1, he, h.push_own hr hb⟩
theorem Sep.numR4 (h : Sep w0 w L) (x : Int) (h0 : 0 ≤ x) :
    Calls Tryd.prog 41 #[.int .i64 x, .int .i64 4] w fun e w' => ∃ v, e = .returned v ∧ Sep w0 w' (ownT (Kd.int .u8) 5 v (fixL x.toNat 4) :: L) := h.numR x 4 (by decide) h0
theorem Sep.numR8 (h : Sep w0 w L) (x : Int) (h0 : 0 ≤ x) :
    Calls Tryd.prog 41 #[.int .i64 x, .int .i64 8] w fun e w' => ∃ v, e = .returned v ∧ Sep w0 w' (ownT (Kd.int .u8) 5 v (fixL x.toNat 8) :: L) := h.numR x 8 (by decide) h0
theorem Sep.sumR {v : Value} {b : List Int} (h : Sep w0 w (ownT (Kd.int .u8) 5 v b :: L)) (hb : bytes_ b) (hl : b.length ≤ 1000000) :
    Calls Tryd.prog 43 #[v] w fun e w' => e = .returned (.int .u32 ((crc b : Nat) : Int)) ∧ Sep w0 w' (ownT (Kd.int .u8) 5 v b :: L) := by
  obtain ⟨k, hk⟩ := sumR_f hb hl
  obtain ⟨base, ok, hr⟩ := h.own
  obtain ⟨A, c, rfl⟩ := Kd.R_slice hr
  refine (kilnref1_Sum.calls k ok A c b _ w (Kd.R_V hr) hk).mono ?_
  rintro e w' ⟨he, hbl⟩
  exact ⟨he, h.step hbl⟩
end
set_option maxHeartbeats 8000000 in
set_option maxRecDepth 100000 in
theorem Sep.refR {w0 w : World} {L : List Th} (hsep : Sep w0 w L) (h : List Int) (f l : Int) (hh : h.length = 32) (hf : 0 ≤ f) (hl : 0 ≤ l) :
    Calls Tryd.prog 42 #[.agg (refV h f l).toArray] w fun e w' => ∃ v', e = .returned v' ∧ Sep w0 w' (ownT (Kd.int .u8) 5 v' (refB h f l) :: L) := by
  have HS0 := Aside0.mk ((hsep.push_alloc (refV h f l).toArray 25).push_nil (Kd.int .u8) 5)
  have HH := Aside0.mk hh
  have HF := Aside0.mk (And.intro hf hl)
  have HRf := Aside0.mk (show (refV h f l)[32]? = some (.int .i64 f) from by have := refV_f hh f l []; rwa [List.append_nil] at this)
  have HRl := Aside0.mk (show (refV h f l)[33]? = some (.int .i64 l) from by have := refV_l hh f l []; rwa [List.append_nil] at this)
  have HRh := Aside0.mk (fun (i : Nat) (hi : i < 32) => (show (refV h f l)[i]? = some (.int .u8 (h.getD i 0)) from by unfold refV nums; rw [List.getElem?_append_left (by rw [List.length_map]; omega), List.getElem?_map, List.getElem?_eq_getElem (by omega)]; simp [List.getD_eq_getElem?_getD, List.getElem?_eq_getElem (show i < h.length by omega)]))
  clear hsep hh hf hl
  generalize hcr : refV h f l = cr at HS0 HRf HRl HRh ⊢
  clear hcr
  go_enter Tryd.func42, Tryd.ntmps42
  go_upto_region 2 with (fail)
  generalize w.alloc (.cells cr.toArray 25) = w1 at HS0 ⊢
  generalize w.heap.size = gr at HS0 ⊢
  go_wp2
  go_loopg [3, 4] 32 (fun kq v3 v4 wr => ∃ i : Nat, v4 = .int .i64 i ∧ Aside0 (i + kq = 32) ∧ Aside0 (Sep w0 wr (ownT (Kd.int .u8) 5 v3 (h.take i) :: cellsT gr cr.toArray 25 :: L)))
  case atStart => exact ⟨0, rfl, ⟨rfl⟩, HS0⟩
  case round =>
    obtain ⟨i, rfl, HJ, hS⟩ := hrel
    clear HS0
    by_cases hi : i < 32
    · have hi1 : (i : Int) < 32 := by omega
      have t0 : decide ((i : Int) < 32) = true := decide_eq_true hi1
      have x0 : wr.cell? ⟨gr, i, none⟩ = some (.int .u8 (h.getD i 0)) := cell_at hS.out.up1.cells.1 i (HRh.out i hi)
      have HI := Aside0.mk hi
      go_wp2_with ((with_reducible refine gate_builtin (b := .append) (xs := #[.tmp 9, .tmp 14]) rfl ?_); refine Sep.app_one rfl _ _ rfl (h.getD i 0) rfl rfl hS.out ?aL1 ?_; (case aL1 => have := HI.out; have := HH.out; rw [List.length_take]; omega); intro v1 w2 h1; have HS1 := Aside0.mk h1; clear h1)
      go_roundg (gk - 1)
      case measure => have := HJ.out; omega
      case rel => exact ⟨i + 1, rfl, ⟨by have := HJ.out; omega⟩, ⟨by have := HS1.out; rwa [← take_snoc h 0 (show i < h.length by have := HH.out; have := HI.out; omega)] at this⟩⟩
    · have hi3 : i = 32 := by have := HJ.out; omega
      subst hi3
      have HSa := Aside0.mk (show Sep w0 wr (ownT (Kd.int .u8) 5 _ h :: cellsT gr cr.toArray 25 :: L) from by have := hS.out; rwa [List.take_of_length_le (by have := HH.out; omega)] at this)
      clear hS HRh
      have x1 : wr.cell? ⟨gr, 32, none⟩ = some (.int .i64 f) := cell_at HSa.out.up1.cells.1 32 HRf.out
      go_upto_region 7 with (first
        | (go_at_call 41; (with_reducible refine (Sep.numR4 HSa.out f HF.out.1).mono ?_); rintro e w3 ⟨v2, rfl, h2⟩; have HS2 := Aside0.mk h2; clear h2 x1)
        | ((with_reducible refine gate_builtin (b := .append) (xs := #[.tmp 16, .tmp 19]) rfl ?_); refine Sep.app_own rfl _ _ rfl rfl rfl HS2.out.up1 ?aL2 ?_; (case aL2 => have := HH.out; rw [fixL_len]; omega); intro v3 w4 h3; have HS3 := Aside0.mk h3; clear h3))
      have HS5 := Aside0.mk HS3.out.up1.drop
      clear HS3 HS2 HSa
      have x2 : w4.cell? ⟨gr, 33, none⟩ = some (.int .i64 l) := cell_at HS5.out.up1.cells.1 33 HRl.out
      go_wp2_with (first
        | (go_at_call 41; (with_reducible refine (Sep.numR4 HS5.out l HF.out.2).mono ?_); rintro e w5 ⟨v4, rfl, h4⟩; have HS6 := Aside0.mk h4; clear h4 x2)
        | ((with_reducible refine gate_builtin (b := .append) (xs := #[.tmp 21, .tmp 24]) rfl ?_); refine Sep.app_own rfl _ _ rfl rfl rfl HS6.out.up1 ?aL3 ?_; (case aL3 => have := HH.out; rw [fixL_len, List.length_append, fixL_len]; omega); intro v5 w6 h5; have HS7 := Aside0.mk h5; clear h5))
      go_ret
      exact ⟨_, rfl, by have := HS7.out.up1.drop.up1.drop; unfold refB; rwa [List.append_assoc] at this⟩
end Go.Proofs.YtaflofcnjakaaaaDoor.M

namespace Go.Proofs.YtaflofcnjakaaaaDoor.M
open Go.RowKit Go.Maps Go.Proofs.YtaflofcnjakaaaaDoorW.PrintWords Go.Proofs.YtaflofcnjakaaaaDoorW.PrintLast Go.Proofs.YtaflofcnjakaaaaDoorW.PrintMore Go.Proofs.YtaflofcnjakaaaaDoor.Wr Go.Proofs.YtaflofcnjakaaaaDoor.Pl Go.Proofs.YtaflofcnjakaaaaDoor.P Go.Proofs.YtaflofcnjakaaaaDoor.A
set_option linter.unusedVariables false
set_option linter.unusedSimpArgs false
def inB (a lo hi : Int) : Bool := decide (lo ≤ a) && decide (a ≤ hi)
theorem within_calls (a lo hi : Int) (w : World) : Calls Tryd.prog 64 #[.int .i64 a, .int .i64 lo, .int .i64 hi] w fun e w' => e = .returned (.bool (inB a lo hi)) ∧ Below w.heap.size w w' := by
  refine (kilnref18_within.calls a lo hi (inB a lo hi) w (by unfold kilnref18_within.f inB; by_cases h : lo ≤ a; · rw [if_pos h, decide_eq_true h]; simp
                                                             · rw [if_neg h, decide_eq_false h]; rfl)).mono ?_
  rintro e w' ⟨rfl, hd⟩
  exact ⟨rfl, hd.below⟩
set_option maxHeartbeats 8000000 in
set_option maxRecDepth 100000 in
theorem refs65_calls (s : SL) (hs : s.Ok) (h : List Int) (f l : Int) (hh : h.length = 32) (w : World) (hb : -1000000 ≤ s.b ∧ s.b ≤ 1000000) (ha : -1000000 ≤ s.a ∧ s.a ≤ 1000000) :
    Calls Tryd.prog 65 #[.agg s.V.toArray, .agg (refV h f l).toArray] w fun e w' => e = .returned (.bool (refM s f l)) ∧ Below w.heap.size w w' := by
  have HS := Aside0.mk (SlAt.mk (heap_alloc_new w (.cells s.V.toArray 27)) hs)
  have HB0 := Aside0.mk (below_alloc (Below.refl w.heap.size w) (.cells s.V.toArray 27))
  have HR := Aside0.mk (fun W => heap_alloc_new W (.cells (refV h f l).toArray 25))
  have HF := Aside0.mk (show ∀ (W : World) (g : Nat), W.heap[g]? = some (.cells (refV h f l).toArray 25 (0, 0)) → W.cell? ⟨g, 32, none⟩ = some (.int .i64 f) ∧ W.cell? ⟨g, 33, none⟩ = some (.int .i64 l) from fun W g hg => by
    have r32 := refV_f hh f l []
    have r33 := refV_l hh f l []
    rw [List.append_nil] at r32 r33
    exact ⟨cell_at hg 32 r32, cell_at hg 33 r33⟩)
  have hb1 := hb.1
  have hb2 := hb.2
  have ha1 := ha.1
  have ha2 := ha.2
  have HM := Aside0.mk (show refM s f l = (inB f (2 + s.b) (s.a - 1) && inB l 0 1048576) from by
    unfold refM inB
    rw [show decide (f ≤ s.a - 1) = decide (f < s.a) from decide_eq_decide.2 (by omega), Bool.and_assoc])
  have HW1 := Aside0.mk (fun W => within_calls f (2 + s.b) (s.a - 1) W)
  have HW2 := Aside0.mk (fun W => within_calls l 0 1048576 W)
  clear hb ha hh hs
  generalize (refV h f l).toArray = cr at HR HF ⊢
  generalize hV : s.V.toArray = V at HB0 ⊢
  rw [hV] at HS
  clear hV
  generalize refM s f l = rm at HM ⊢
  generalize inB f (2 + s.b) (s.a - 1) = b1 at HM HW1
  generalize inB l 0 1048576 = b2 at HM HW2
  go_enter Tryd.func65, Tryd.ntmps65
  go_upto_region 1 with (fail)
  have HB := Aside0.mk (below_alloc HB0.out (.cells cr 25))
  have x0 := (HS.out.below (below_alloc (Below.refl _ _) (.cells cr 25))).c0
  have x1 := (HS.out.below (below_alloc (Below.refl _ _) (.cells cr 25))).c1
  have x2 := (HF.out _ _ (HR.out (w.alloc (.cells V 27)))).1
  have x3 := (HF.out _ _ (HR.out (w.alloc (.cells V 27)))).2
  have hsz : (w.alloc (.cells V 27)).heap.size = w.heap.size + 1 := by show (w.heap.push _).size = _; simp
  rw [hsz] at x2 x3
  generalize (w.alloc (.cells V 27)).alloc (.cells cr 25) = w1 at HB x0 x1 x2 x3 ⊢
  clear hsz HS HB0 HR HF
  cases b1 with
  | false =>
    go_wp2_with (go_at_call 64; (with_reducible refine (HW1.out _).mono ?_); rintro e w2 ⟨rfl, hb⟩; have HB2 := Aside0.mk (below_step HB.out hb); clear hb)
    go_ret
    exact ⟨by rw [HM.out]; rfl, HB2.out⟩
  | true =>
    go_wp2_with (first
      | (go_at_call 64; (with_reducible refine (HW1.out _).mono ?_); rintro e w2 ⟨rfl, hb⟩; have HB2 := Aside0.mk (below_step HB.out hb); have y3 := pw_cell_below hb x3; clear hb x0 x1 x2 x3 HW1)
      | (go_at_call 64; (with_reducible refine (HW2.out _).mono ?_); rintro e w3 ⟨rfl, hb⟩; have HB3 := Aside0.mk (below_step HB2.out hb); clear hb))
    go_ret
    exact ⟨by rw [HM.out]; rfl, HB3.out⟩
set_option maxHeartbeats 16000000 in
set_option maxRecDepth 100000 in
theorem may40_calls (s : SL) (hs : s.Ok) (w : World) : Calls Tryd.prog 40 #[.agg s.V.toArray] w fun e w' => e = .returned (.bool (mayM s)) ∧ Below w.heap.size w w' := by
  have HB := Aside0.mk (below_alloc (Below.refl w.heap.size w) (.cells s.V.toArray 27))
  have HS := Aside0.mk (SlAt.mk (heap_alloc_new w (.cells s.V.toArray 27)) hs)
  have HM := Aside0.mk (show mayM s = (inB s.a 2 65536 && (inB s.b 8 1024 && (!(decide (s.a < 4 + s.b)) && (inB s.c 0 1099511627776 && (inB s.d 0 1099511627776 && (inB s.e 0 1099511627776 && (refM s s.rf s.rl && refM s s.mf s.ml))))))) from by
    unfold mayM headM cntM inB
    rw [show (!(decide (s.a < 4 + s.b))) = decide (4 + s.b ≤ s.a) from by rw [← decide_not]; exact decide_eq_decide.2 (by omega)]
    simp only [Bool.and_assoc])
  have HA := Aside0.mk (show inB s.a 2 65536 = true → 2 ≤ s.a ∧ s.a ≤ 65536 from fun h => by unfold inB at h; simpa using h)
  have HBB := Aside0.mk (show inB s.b 8 1024 = true → 8 ≤ s.b ∧ s.b ≤ 1024 from fun h => by unfold inB at h; simpa using h)
  have HF1 := Aside0.mk (fun (hb : -1000000 ≤ s.b ∧ s.b ≤ 1000000) (ha : -1000000 ≤ s.a ∧ s.a ≤ 1000000) W => refs65_calls s hs s.rh s.rf s.rl hs.r W hb ha)
  have HF2 := Aside0.mk (fun (hb : -1000000 ≤ s.b ∧ s.b ≤ 1000000) (ha : -1000000 ≤ s.a ∧ s.a ≤ 1000000) W => refs65_calls s hs s.mh s.mf s.ml hs.m W hb ha)
  have HW1 := Aside0.mk (fun W => within_calls s.a 2 65536 W)
  have HW2 := Aside0.mk (fun W => within_calls s.b 8 1024 W)
  have HW3 := Aside0.mk (fun W => within_calls s.c 0 1099511627776 W)
  have HW4 := Aside0.mk (fun W => within_calls s.d 0 1099511627776 W)
  have HW5 := Aside0.mk (fun W => within_calls s.e 0 1099511627776 W)
  have HSA := Aside0.mk (SlAt.sa hs)
  have HSR := Aside0.mk (SlAt.sr hs)
  have HSM := Aside0.mk (SlAt.sm hs)
  clear hs
  have HCUT := Aside0.mk (show ∀ (e : Ending) (w' : World) (b : Bool), e = .returned (.bool b) → b = mayM s → Below w.heap.size w w' → e = .returned (.bool (mayM s)) ∧ Below w.heap.size w w' from fun e w' b he hb hw => ⟨by rw [he, hb], hw⟩)
  generalize hV : s.V.toArray = V at HB HF1 HF2 HSA ⊢
  rw [hV] at HS
  have HLD := Aside0.mk (fun W (h : SlAt W w.heap.size s) => (show ∀ j v, V.toList[j]? = some v → W.cell? ((⟨w.heap.size, 0, none⟩ : Addr).add j) = some v from by rw [← hV]; exact h.all))
  go_enter Tryd.func40, Tryd.ntmps40
  go_upto_region 1 with (fail)
  clear hV
  generalize w.alloc (.cells V 27) = w1 at HB HS ⊢
  generalize w.heap.size = gb at HS HLD ⊢

  generalize inB s.a 2 65536 = c1 at HM HA HW1
  generalize inB s.b 8 1024 = c2 at HM HBB HW2
  generalize inB s.c 0 1099511627776 = c3 at HM HW3
  generalize inB s.d 0 1099511627776 = c4 at HM HW4
  generalize inB s.e 0 1099511627776 = c5 at HM HW5
  generalize refM s s.rf s.rl = r1 at HM HF1
  generalize refM s s.mf s.ml = r2 at HM HF2
  have x0 := HS.out.c0
  cases c1 with
  | false =>
    go_wp2_with (go_at_call 64; (with_reducible refine (HW1.out _).mono ?_); rintro e w2 ⟨rfl, hb⟩; have HB1 := Aside0.mk (below_step HB.out hb); have HS1 := Aside0.mk (HS.out.below hb); have x1 := HS1.out.c1; clear hb HW1 HB HS x0)
    go_ret
    exact HCUT.out _ _ false rfl (by rw [HM.out]; rfl) HB1.out
  | true =>
    cases c2 with
    | false =>
      go_wp2_with (first | (go_at_call 64; (with_reducible refine (HW1.out _).mono ?_); rintro e w2 ⟨rfl, hb⟩; have HB1 := Aside0.mk (below_step HB.out hb); have HS1 := Aside0.mk (HS.out.below hb); have x1 := HS1.out.c1; clear hb HW1 HB HS x0) | (go_at_call 64; (with_reducible refine (HW2.out _).mono ?_); rintro e w3 ⟨rfl, hb⟩; have HB2 := Aside0.mk (below_step HB1.out hb); have HS2 := Aside0.mk (HS1.out.below hb); have x2 := HS2.out.c0; have x3 := HS2.out.c1; clear hb HW2 HB1 HS1 x1))
      go_ret
      exact HCUT.out _ _ false rfl (by rw [HM.out]; rfl) HB2.out
    | true =>
      obtain ⟨hb1, hb2⟩ := HBB.out rfl
      obtain ⟨ha1, ha2⟩ := HA.out rfl
      have HG1 := Aside0.mk (HF1.out (by omega) (by omega))
      have HG2 := Aside0.mk (HF2.out (by omega) (by omega))
      clear HF1 HF2 HA HBB
      by_cases h4 : s.a < 4 + s.b
      · have t4 : decide (s.a < 4 + s.b) = true := decide_eq_true h4
        rw [t4] at HM
        go_wp2_with (first | (go_at_call 64; (with_reducible refine (HW1.out _).mono ?_); rintro e w2 ⟨rfl, hb⟩; have HB1 := Aside0.mk (below_step HB.out hb); have HS1 := Aside0.mk (HS.out.below hb); have x1 := HS1.out.c1; clear hb HW1 HB HS x0) | (go_at_call 64; (with_reducible refine (HW2.out _).mono ?_); rintro e w3 ⟨rfl, hb⟩; have HB2 := Aside0.mk (below_step HB1.out hb); have HS2 := Aside0.mk (HS1.out.below hb); have x2 := HS2.out.c0; have x3 := HS2.out.c1; clear hb HW2 HB1 HS1 x1))
        go_ret
        exact HCUT.out _ _ false rfl (by rw [HM.out]; rfl) HB2.out
      · have t4 : decide (s.a < 4 + s.b) = false := decide_eq_false h4
        rw [t4] at HM
        go_upto_region 3 with (first | (go_at_call 64; (with_reducible refine (HW1.out _).mono ?_); rintro e w2 ⟨rfl, hb⟩; have HB1 := Aside0.mk (below_step HB.out hb); have HS1 := Aside0.mk (HS.out.below hb); have x1 := HS1.out.c1; clear hb HW1 HB HS x0) | (go_at_call 64; (with_reducible refine (HW2.out _).mono ?_); rintro e w3 ⟨rfl, hb⟩; have HB2 := Aside0.mk (below_step HB1.out hb); have HS2 := Aside0.mk (HS1.out.below hb); have x2 := HS2.out.c0; have x3 := HS2.out.c1; clear hb HW2 HB1 HS1 x1))
        clear x2 x3 t4 h4
        have x4 := HS2.out.c2
        cases c3 with
        | false =>
          go_wp2_with (go_at_call 64; (with_reducible refine (HW3.out _).mono ?_); rintro e w4 ⟨rfl, hb⟩; have HB3 := Aside0.mk (below_step HB2.out hb); have HS3 := Aside0.mk (HS2.out.below hb); have x5 := HS3.out.c3; clear hb HW3 HB2 HS2 x4)
          go_ret
          exact HCUT.out _ _ false rfl (by rw [HM.out]; rfl) HB3.out
        | true =>
          cases c4 with
          | false =>
            go_wp2_with (first | (go_at_call 64; (with_reducible refine (HW3.out _).mono ?_); rintro e w4 ⟨rfl, hb⟩; have HB3 := Aside0.mk (below_step HB2.out hb); have HS3 := Aside0.mk (HS2.out.below hb); have x5 := HS3.out.c3; clear hb HW3 HB2 HS2 x4) | (go_at_call 64; (with_reducible refine (HW4.out _).mono ?_); rintro e w5 ⟨rfl, hb⟩; have HB4 := Aside0.mk (below_step HB3.out hb); have HS4 := Aside0.mk (HS3.out.below hb); have x6 := HS4.out.c4; clear hb HW4 HB3 HS3 x5))
            go_ret
            exact HCUT.out _ _ false rfl (by rw [HM.out]; rfl) HB4.out
          | true =>
            cases c5 with
            | false =>
              go_wp2_with (first | (go_at_call 64; (with_reducible refine (HW3.out _).mono ?_); rintro e w4 ⟨rfl, hb⟩; have HB3 := Aside0.mk (below_step HB2.out hb); have HS3 := Aside0.mk (HS2.out.below hb); have x5 := HS3.out.c3; clear hb HW3 HB2 HS2 x4) | (go_at_call 64; (with_reducible refine (HW4.out _).mono ?_); rintro e w5 ⟨rfl, hb⟩; have HB4 := Aside0.mk (below_step HB3.out hb); have HS4 := Aside0.mk (HS3.out.below hb); have x6 := HS4.out.c4; clear hb HW4 HB3 HS3 x5) | (go_at_call 64; (with_reducible refine (HW5.out _).mono ?_); rintro e w6 ⟨rfl, hb⟩; have HB5 := Aside0.mk (below_step HB4.out hb); have HS5 := Aside0.mk (HS4.out.below hb); clear hb HW5 HB4 HS4 x6))
              go_ret
              exact HCUT.out _ _ false rfl (by rw [HM.out]; rfl) HB5.out
            | true =>
              go_upto_region 5 with (first | (go_at_call 64; (with_reducible refine (HW3.out _).mono ?_); rintro e w4 ⟨rfl, hb⟩; have HB3 := Aside0.mk (below_step HB2.out hb); have HS3 := Aside0.mk (HS2.out.below hb); have x5 := HS3.out.c3; clear hb HW3 HB2 HS2 x4) | (go_at_call 64; (with_reducible refine (HW4.out _).mono ?_); rintro e w5 ⟨rfl, hb⟩; have HB4 := Aside0.mk (below_step HB3.out hb); have HS4 := Aside0.mk (HS3.out.below hb); have x6 := HS4.out.c4; clear hb HW4 HB3 HS3 x5) | (go_at_call 64; (with_reducible refine (HW5.out _).mono ?_); rintro e w6 ⟨rfl, hb⟩; have HB5 := Aside0.mk (below_step HB4.out hb); have HS5 := Aside0.mk (HS4.out.below hb); clear hb HW5 HB4 HS4 x6))
              cases r1 with
              | false =>
                go_wp2_with (first | ((with_reducible refine gate_load (ty := 27) rfl ?_); refine wpList_ldw ?_ 27 _ rfl ⟨gb, 0, none⟩ ?_ V _ (HLD.out _ HS5.out) Tryd.underlying27 rfl HSA.out ?_; exact rfl; exact rfl; skip) | ((with_reducible refine gate_load (ty := 25) rfl ?_); refine wpList_ldw ?_ 25 _ rfl ⟨gb, 37, none⟩ ?_ (refV s.rh s.rf s.rl).toArray _ HS5.out.root Tryd.underlying25 rfl HSR.out ?_; exact rfl; exact rfl; skip) | (go_at_call 65; (with_reducible refine (HG1.out _).mono ?_); rintro e w7 ⟨rfl, hb⟩; have HB6 := Aside0.mk (below_step HB5.out hb); have HS6 := Aside0.mk (HS5.out.below hb); clear hb HG1))
                go_ret
                exact HCUT.out _ _ false rfl (by rw [HM.out]; rfl) HB6.out
              | true =>
                go_wp2_with (first | ((with_reducible refine gate_load (ty := 27) rfl ?_); refine wpList_ldw ?_ 27 _ rfl ⟨gb, 0, none⟩ ?_ V _ (HLD.out _ HS5.out) Tryd.underlying27 rfl HSA.out ?_; exact rfl; exact rfl; skip) | ((with_reducible refine gate_load (ty := 25) rfl ?_); refine wpList_ldw ?_ 25 _ rfl ⟨gb, 37, none⟩ ?_ (refV s.rh s.rf s.rl).toArray _ HS5.out.root Tryd.underlying25 rfl HSR.out ?_; exact rfl; exact rfl; skip) | (go_at_call 65; (with_reducible refine (HG1.out _).mono ?_); rintro e w7 ⟨rfl, hb⟩; have HB6 := Aside0.mk (below_step HB5.out hb); have HS6 := Aside0.mk (HS5.out.below hb); clear hb HG1) | ((with_reducible refine gate_load (ty := 27) rfl ?_); refine wpList_ldw ?_ 27 _ rfl ⟨gb, 0, none⟩ ?_ V _ (HLD.out _ HS6.out) Tryd.underlying27 rfl HSA.out ?_; exact rfl; exact rfl; skip) | ((with_reducible refine gate_load (ty := 25) rfl ?_); refine wpList_ldw ?_ 25 _ rfl ⟨gb, 71, none⟩ ?_ (refV s.mh s.mf s.ml).toArray _ HS6.out.memo Tryd.underlying25 rfl HSM.out ?_; exact rfl; exact rfl; skip) | (go_at_call 65; (with_reducible refine (HG2.out _).mono ?_); rintro e w8 ⟨rfl, hb⟩; have HB7 := Aside0.mk (below_step HB6.out hb); clear hb))
                go_ret
                exact HCUT.out _ _ r2 rfl (by rw [HM.out]; rfl) HB7.out
end Go.Proofs.YtaflofcnjakaaaaDoor.M

namespace Go.Proofs.YtaflofcnjakaaaaDoor.M
open Go.RowKit Go.Maps Go.Proofs.YtaflofcnjakaaaaDoorW.PrintWords Go.Proofs.YtaflofcnjakaaaaDoorW.PrintLast Go.Proofs.YtaflofcnjakaaaaDoorW.PrintMore Go.Proofs.YtaflofcnjakaaaaDoor.Wr Go.Proofs.YtaflofcnjakaaaaDoor.Pl Go.Proofs.YtaflofcnjakaaaaDoor.P Go.Proofs.YtaflofcnjakaaaaDoor.A
set_option linter.unusedVariables false
set_option linter.unusedSimpArgs false
theorem Sep.push_lit {w0 w : World} {L : List Th} (h : Sep w0 w L) (xs : List Int) (n : Nat) (hn : xs.length = n) (hl : n ≤ 9223372036854775807) : Sep w0 (w.alloc (.cells (nums .u8 xs).toArray 5)) (ownT (Kd.int .u8) 5 (.slice (some ⟨w.heap.size, 0, none⟩) n n) xs :: L) := by
  subst hn
  refine h.push_own (ok := fun _ => True) (Kd.R_of_own ?_ (fun _ _ => trivial)) (below_alloc (Below.refl _ _) _)
  have h2 := World.ownsRow_lit (base := w.heap.size) (e := 5) (size := 1) w (nums .u8 xs).toArray xs.length (Nat.le_refl _) (by simpa [maxLen] using hl) (by simp [nums_length])
  have h3 : (w.alloc (.cells (nums .u8 xs).toArray 5)).ownsRow w.heap.size 5 1 (.slice (some ⟨w.heap.size, 0, none⟩) xs.length xs.length) xs.length (nums .u8 xs) := by simpa using h2
  exact h3
theorem getD_key {s : SL} (hs : s.Ok) (i : Nat) (hi : i < 32) : s.V[5 + i]? = some (.int .u8 (s.key.getD i 0)) := by
  rw [get_drop, s.V_d5, List.getElem?_append_left (by rw [nums_length, hs.k]; exact hi)]
  unfold nums
  rw [List.getElem?_map, List.getElem?_eq_getElem (by rw [hs.k]; exact hi), List.getD_eq_getElem?_getD, List.getElem?_eq_getElem (by rw [hs.k]; exact hi)]
  rfl
set_option maxHeartbeats 8000000 in
set_option maxRecDepth 100000 in
theorem encodeR_no (s : SL) (hs : s.Ok) (hm : mayM s = false) (w : World) : Calls Tryd.prog 13 #[.agg s.V.toArray] w fun e w' => e = .returned (.tuple #[.slice none 0 0, .int .i64 180]) ∧ Below w.heap.size w w' := by
  have HS0 := Aside0.mk ((Sep.refl w).push_alloc s.V.toArray 27)
  have HMY := Aside0.mk (fun W => (show Calls Tryd.prog 40 #[.agg s.V.toArray] W (fun e w' => e = .returned (.bool false) ∧ Below W.heap.size W w') from by have h := may40_calls s hs W; rw [hm] at h; exact h))
  have HSZ := Aside0.mk (SlAt.sa hs)
  have HLV := Aside0.mk (fun W (M : List Th) g (h : Sep w W (cellsT g s.V.toArray 27 :: M)) => (show ∀ j v, s.V.toArray.toList[j]? = some v → W.cell? ((⟨g, 0, none⟩ : Addr).add j) = some v from fun j v hv => seg_at h.cells.1 0 s.V (by rw [List.drop_zero]; exact List.take_of_length_le (Nat.le_refl _)) j v (by simpa using hv)))
  clear hs hm
  generalize s.V.toArray = V at HS0 HMY HSZ HLV ⊢
  go_enter Tryd.func13, Tryd.ntmps13
  go_upto_region 1 with (fail)
  generalize w.alloc (.cells V 27) = w1 at HS0 ⊢
  generalize w.heap.size = g0 at HS0 ⊢
  go_wp2_with (first
    | ((with_reducible refine gate_load (ty := 27) rfl ?_); refine wpList_ldw ?_ 27 _ rfl ⟨g0, 0, none⟩ ?_ V _ (HLV.out _ _ _ HS0.out) Tryd.underlying27 rfl HSZ.out ?_; exact rfl; exact rfl; skip)
    | (go_at_call 40; (with_reducible refine (HMY.out _).mono ?_); rintro e w2 ⟨rfl, hb⟩; have HS2 := Aside0.mk (HS0.out.step hb); clear hb HS0))
  go_ret2
  exact ⟨rfl, HS2.out.below⟩
set_option maxHeartbeats 8000000 in
set_option maxRecDepth 100000 in
theorem Sep.encodeR {w0 w : World} {L : List Th} (hsep : Sep w0 w L) (s : SL) (hs : s.Ok) (hm : mayM s = true) :
    Calls Tryd.prog 13 #[.agg s.V.toArray] w fun e w' => ∃ A c, e = .returned (.tuple #[.slice A 512 c, .int .i64 0]) ∧ Sep w0 w' (ownT (Kd.int .u8) 5 (.slice A 512 c) (encB s) :: L) := by
  have HS0 := Aside0.mk (hsep.push_alloc s.V.toArray 27)
  have HOK := Aside0.mk hs
  have HMR := Aside0.mk ((may_iff s).1 hm)
  have HMY := Aside0.mk (fun W => (show Calls Tryd.prog 40 #[.agg s.V.toArray] W (fun e w' => e = .returned (.bool true) ∧ Below W.heap.size W w') from by have h := may40_calls s hs W; rw [hm] at h; exact h))
  have HSZ := Aside0.mk (SlAt.sa hs)
  have HLV := Aside0.mk (fun W (M : List Th) g (h : Sep w0 W (cellsT g s.V.toArray 27 :: M)) => (show ∀ j v, s.V.toArray.toList[j]? = some v → W.cell? ((⟨g, 0, none⟩ : Addr).add j) = some v from fun j v hv => seg_at h.cells.1 0 s.V (by rw [List.drop_zero]; exact List.take_of_length_le (Nat.le_refl _)) j v (by simpa using hv)))
  have HLF := Aside0.mk (fun W (M : List Th) g (h : Sep w0 W (cellsT g s.V.toArray 27 :: M)) => (show W.cell? ⟨g, 0, none⟩ = some (.int .i64 s.a) ∧ W.cell? ⟨g, 1, none⟩ = some (.int .i64 s.b) ∧ W.cell? ⟨g, 2, none⟩ = some (.int .i64 s.c) ∧ W.cell? ⟨g, 3, none⟩ = some (.int .i64 s.d) ∧ W.cell? ⟨g, 4, none⟩ = some (.int .i64 s.e) from
    have k := SlAt.mk h.cells.1 hs; ⟨k.c0, k.c1, k.c2, k.c3, k.c4⟩))
  have HLR := Aside0.mk (fun W (M : List Th) g (h : Sep w0 W (cellsT g s.V.toArray 27 :: M)) => (SlAt.mk h.cells.1 hs).root)
  have HLM := Aside0.mk (fun W (M : List Th) g (h : Sep w0 W (cellsT g s.V.toArray 27 :: M)) => (SlAt.mk h.cells.1 hs).memo)
  have HLK := Aside0.mk (fun W (M : List Th) g i (hi : i < 32) (h : Sep w0 W (cellsT g s.V.toArray 27 :: M)) => (show W.cell? ⟨g, 5 + i, none⟩ = some (.int .u8 (s.key.getD i 0)) from cell_at h.cells.1 (5 + i) (getD_key hs i hi)))
  have HSR := Aside0.mk (SlAt.sr hs)
  have HSM := Aside0.mk (SlAt.sm hs)
  have HPL := Aside0.mk (preB_len s)
  have HPB := Aside0.mk (preB_body s)
  have HBL := Aside0.mk (bodyB_len hs)
  have HCL := Aside0.mk (crc_lt (padB s))
  have HBY := Aside0.mk (bytes_padB hs)
  clear hsep hs hm
  generalize s.V.toArray = V at HS0 HMY HSZ HLV HLF HLR HLM HLK ⊢
  go_enter Tryd.func13, Tryd.ntmps13
  go_upto_region 1 with (fail)
  generalize w.alloc (.cells V 27) = w1 at HS0 ⊢
  generalize w.heap.size = g0 at HS0 ⊢
  go_upto_region 4 with (first
    | ((with_reducible refine gate_load (ty := 27) rfl ?_); refine wpList_ldw ?_ 27 _ rfl ⟨g0, 0, none⟩ ?_ V _ (HLV.out _ _ _ HS0.out) Tryd.underlying27 rfl HSZ.out ?_; exact rfl; exact rfl; skip)
    | (go_at_call 40; (with_reducible refine (HMY.out _).mono ?_); rintro e w2 ⟨rfl, hb⟩; have HS1 := Aside0.mk (HS0.out.step hb); clear hb HS0))
  have HSa := Aside0.mk (HS1.out.push_lit (preB s 0) 4 HPL.out.1 (by decide))
  clear HS1
  generalize w2.heap.size = g1 at HSa ⊢
  generalize hw3 : w2.alloc (.cells (nums .u8 (preB s 0)).toArray 5) = w3 at HSa
  have hw3' : w2.alloc (.cells #[.int .u8 107, .int .u8 105, .int .u8 108, .int .u8 110] 5) = w3 := hw3
  rw [hw3']
  clear hw3 hw3'
  have xf := (HLF.out _ _ _ HSa.out.up1).1
  go_upto_region 5 with (first
    | (go_at_call 41; (with_reducible refine (Sep.numR4 HSa.out s.a (by have := HMR.out.a1; omega)).mono ?_); rintro e w4a ⟨w4v, rfl, h2⟩; have HSab := Aside0.mk h2; clear h2 xf)
    | ((with_reducible refine gate_builtin (b := .append) (xs := #[.tmp 10, .tmp 13]) rfl ?_); refine Sep.app_own rfl _ _ rfl rfl rfl HSab.out.up1 ?aL ?_; (case aL => have := HPL.out.1; rw [fixL_len]; omega); intro w4u w4 h3; have HSac := Aside0.mk h3; clear h3))
  have HSb := Aside0.mk (show Sep w0 w4 (ownT (Kd.int .u8) 5 w4u (preB s 1) :: cellsT g0 V 27 :: L) from HSac.out.up1.drop)
  clear HSa HSab HSac
  have xf := (HLF.out _ _ _ HSb.out.up1).2.1
  go_upto_region 6 with (first
    | (go_at_call 41; (with_reducible refine (Sep.numR4 HSb.out s.b (by have := HMR.out.b1; omega)).mono ?_); rintro e w5a ⟨w5v, rfl, h2⟩; have HSbb := Aside0.mk h2; clear h2 xf)
    | ((with_reducible refine gate_builtin (b := .append) (xs := #[.tmp 15, .tmp 18]) rfl ?_); refine Sep.app_own rfl _ _ rfl rfl rfl HSbb.out.up1 ?aL ?_; (case aL => have := HPL.out.2.1; rw [fixL_len]; omega); intro w5u w5 h3; have HSbc := Aside0.mk h3; clear h3))
  have HSc := Aside0.mk (show Sep w0 w5 (ownT (Kd.int .u8) 5 w5u (preB s 2) :: cellsT g0 V 27 :: L) from HSbc.out.up1.drop)
  clear HSb HSbb HSbc
  have xf := (HLF.out _ _ _ HSc.out.up1).2.2.1
  go_upto_region 7 with (first
    | (go_at_call 41; (with_reducible refine (Sep.numR8 HSc.out s.c (by have := HMR.out.c.1; omega)).mono ?_); rintro e w6a ⟨w6v, rfl, h2⟩; have HScb := Aside0.mk h2; clear h2 xf)
    | ((with_reducible refine gate_builtin (b := .append) (xs := #[.tmp 20, .tmp 23]) rfl ?_); refine Sep.app_own rfl _ _ rfl rfl rfl HScb.out.up1 ?aL ?_; (case aL => have := HPL.out.2.2.1; rw [fixL_len]; omega); intro w6u w6 h3; have HScc := Aside0.mk h3; clear h3))
  have HSd := Aside0.mk (show Sep w0 w6 (ownT (Kd.int .u8) 5 w6u (preB s 3) :: cellsT g0 V 27 :: L) from HScc.out.up1.drop)
  clear HSc HScb HScc
  have xf := (HLF.out _ _ _ HSd.out.up1).2.2.2.1
  go_upto_region 8 with (first
    | (go_at_call 41; (with_reducible refine (Sep.numR8 HSd.out s.d (by have := HMR.out.d.1; omega)).mono ?_); rintro e w7a ⟨w7v, rfl, h2⟩; have HSdb := Aside0.mk h2; clear h2 xf)
    | ((with_reducible refine gate_builtin (b := .append) (xs := #[.tmp 25, .tmp 28]) rfl ?_); refine Sep.app_own rfl _ _ rfl rfl rfl HSdb.out.up1 ?aL ?_; (case aL => have := HPL.out.2.2.2.1; rw [fixL_len]; omega); intro w7u w7 h3; have HSdc := Aside0.mk h3; clear h3))
  have HSe := Aside0.mk (show Sep w0 w7 (ownT (Kd.int .u8) 5 w7u (preB s 4) :: cellsT g0 V 27 :: L) from HSdc.out.up1.drop)
  clear HSd HSdb HSdc
  have xf := (HLF.out _ _ _ HSe.out.up1).2.2.2.2
  go_upto_region 9 with (first
    | (go_at_call 41; (with_reducible refine (Sep.numR8 HSe.out s.e (by have := HMR.out.e.1; omega)).mono ?_); rintro e w8a ⟨w8v, rfl, h2⟩; have HSeb := Aside0.mk h2; clear h2 xf)
    | ((with_reducible refine gate_builtin (b := .append) (xs := #[.tmp 30, .tmp 33]) rfl ?_); refine Sep.app_own rfl _ _ rfl rfl rfl HSeb.out.up1 ?aL ?_; (case aL => have := HPL.out.2.2.2.2.1; rw [fixL_len]; omega); intro w8u w8 h3; have HSec := Aside0.mk h3; clear h3))
  have HSf := Aside0.mk (show Sep w0 w8 (ownT (Kd.int .u8) 5 w8u (preB s 5) :: cellsT g0 V 27 :: L) from HSec.out.up1.drop)
  clear HSe HSeb HSec
  clear HLF
  go_upto_region 9 with (fail)
  go_upto_region 10 with (fail)
  go_loopg [4, 5] 32 (fun kq v4 v5 wr => ∃ i : Nat, v5 = .int .i64 i ∧ Aside0 (i + kq = 32) ∧ Aside0 (Sep w0 wr (ownT (Kd.int .u8) 5 v4 (preB s 5 ++ s.key.take i) :: cellsT g0 V 27 :: L)))
  case atStart => exact ⟨0, rfl, ⟨rfl⟩, ⟨by rw [List.take_zero, List.append_nil]; exact HSf.out⟩⟩
  case round =>
    obtain ⟨i, rfl, HJ, hS⟩ := hrel
    clear HSf
    by_cases hi : i < 32
    · have hi1 : (i : Int) < 32 := by omega
      have t0 : decide ((i : Int) < 32) = true := decide_eq_true hi1
      have x0 : wr.cell? ⟨g0, 5 + i, none⟩ = some (.int .u8 (s.key.getD i 0)) := HLK.out _ _ _ i hi hS.out.up1
      have HI := Aside0.mk hi
      go_wp2_with ((with_reducible refine gate_builtin (b := .append) (xs := #[.tmp 39, .tmp 44]) rfl ?_); refine Sep.app_one rfl _ _ rfl (s.key.getD i 0) rfl rfl hS.out ?aL1 ?_; (case aL1 => have := HI.out; have := HOK.out.k; have := HPL.out.2.2.2.2.2; rw [List.length_append, List.length_take]; omega); intro v1 wk h1; have HS1 := Aside0.mk h1; clear h1)
      go_roundg (gk - 1)
      case measure => have := HJ.out; omega
      case rel => exact ⟨i + 1, rfl, ⟨by have := HJ.out; omega⟩, ⟨by have := HS1.out; rwa [List.append_assoc, ← take_snoc s.key 0 (show i < s.key.length by have := HOK.out.k; have := HI.out; omega)] at this⟩⟩
    · have hi3 : i = 32 := by have := HJ.out; omega
      subst hi3
      have HSg := Aside0.mk (show Sep w0 wr (ownT (Kd.int .u8) 5 _ (preB s 5 ++ s.key) :: cellsT g0 V 27 :: L) from by have := hS.out; rwa [List.take_of_length_le (show s.key.length ≤ 32 by have := HOK.out.k; omega)] at this)
      clear hS HLK
      go_upto_region 14 with (first
        | ((with_reducible refine gate_load (ty := 25) rfl ?_); refine wpList_ldw ?_ 25 _ rfl ⟨g0, 37, none⟩ ?_ (refV s.rh s.rf s.rl).toArray _ (HLR.out _ _ _ HSg.out.up1) Tryd.underlying25 rfl HSR.out ?_; exact rfl; exact rfl; skip)
        | (go_at_call 42; (with_reducible refine (Sep.refR HSg.out s.rh s.rf s.rl HOK.out.r (by have := HMR.out.r; have := HMR.out.b1; omega) (by have := HMR.out.r; have := HMR.out.b1; omega)).mono ?_); rintro e wa ⟨va, rfl, h2⟩; have HSh := Aside0.mk h2; clear h2)
        | ((with_reducible refine gate_builtin (b := .append) (xs := #[.tmp 46, .tmp 49]) rfl ?_); refine Sep.app_own rfl _ _ rfl rfl rfl HSh.out.up1 ?aL ?_; (case aL => have := HPL.out.2.2.2.2.2; have := HOK.out.k; rw [refB_len HOK.out.r, List.length_append]; omega); intro vb wb h3; have HSi := Aside0.mk h3.up1.drop; clear h3 HSg HSh))
      go_upto_region 15 with (first
        | ((with_reducible refine gate_load (ty := 25) rfl ?_); refine wpList_ldw ?_ 25 _ rfl ⟨g0, 71, none⟩ ?_ (refV s.mh s.mf s.ml).toArray _ (HLM.out _ _ _ HSi.out.up1) Tryd.underlying25 rfl HSM.out ?_; exact rfl; exact rfl; skip)
        | (go_at_call 42; (with_reducible refine (Sep.refR HSi.out s.mh s.mf s.ml HOK.out.m (by have := HMR.out.m; have := HMR.out.b1; omega) (by have := HMR.out.m; have := HMR.out.b1; omega)).mono ?_); rintro e wc ⟨vc, rfl, h2⟩; have HSj := Aside0.mk h2; clear h2)
        | ((with_reducible refine gate_builtin (b := .append) (xs := #[.tmp 51, .tmp 54]) rfl ?_); refine Sep.app_own rfl _ _ rfl rfl rfl HSj.out.up1 ?aL ?_; (case aL => have := HPL.out.2.2.2.2.2; have := HOK.out.k; rw [refB_len HOK.out.m, List.length_append, List.length_append, refB_len HOK.out.r]; omega); intro vd we h3; have HSk := Aside0.mk (show Sep w0 we (ownT (Kd.int .u8) 5 vd (bodyB s) :: cellsT g0 V 27 :: L) from by have := h3.up1.drop; rwa [HPB.out] at this); clear h3 HSi HSj))
      go_loopg [4] 360 (fun kq v4 wp => ∃ (j : Nat) (A : Option Addr) (c : Nat), v4 = .slice A (148 + j) c ∧ Aside0 (j + kq = 360) ∧ Aside0 (Sep w0 wp (ownT (Kd.int .u8) 5 (.slice A (148 + j) c) (bodyB s ++ List.replicate j 0) :: cellsT g0 V 27 :: L)))
      case atStart =>
        obtain ⟨A, c, hv⟩ := HSk.out.own_slice
        rw [HBL.out] at hv
        subst hv
        exact ⟨0, A, c, rfl, ⟨rfl⟩, ⟨by rw [List.replicate_zero, List.append_nil]; exact HSk.out⟩⟩
      case round =>
        obtain ⟨j, A, c, rfl, HJ, hS⟩ := hrel
        clear HSk
        by_cases hj : j < 360
        · have hj1 : (148 : Int) + (j : Int) < 508 := by omega
          have t0 : decide (((148 + j : Nat) : Int) < 508) = true := decide_eq_true (by omega)
          have t1 : decide ((148 : Int) + (j : Int) < 508) = true := decide_eq_true hj1
          have HI := Aside0.mk hj
          go_wp2_with ((with_reducible refine gate_builtin (b := .append) (xs := #[.tmp 59, .tmp 60]) rfl ?_); refine Sep.app_one rfl _ _ rfl 0 rfl rfl hS.out ?aL1 ?_; (case aL1 => have := HI.out; have := HBL.out; rw [List.length_append, List.length_replicate]; omega); intro v1 wk h1; have HS1 := Aside0.mk h1; clear h1)
          go_roundg (gk - 1)
          case measure => have := HJ.out; have := HI.out; omega
          case rel =>
            obtain ⟨A1, c1, hv⟩ := HS1.out.own_slice
            have hl : (bodyB s ++ List.replicate j 0 ++ [0]).length = 148 + (j + 1) := by rw [List.length_append, List.length_append, HBL.out, List.length_replicate]; rfl
            rw [hl] at hv
            subst hv
            exact ⟨j + 1, A1, c1, rfl, ⟨by have := HJ.out; have := HI.out; omega⟩, ⟨by have := HS1.out; rwa [List.append_assoc, ← List.replicate_succ'] at this⟩⟩
        · have hj3 : j = 360 := by have := HJ.out; omega
          subst hj3
          have HSl := Aside0.mk (show Sep w0 _ (ownT (Kd.int .u8) 5 (.slice A 508 c) (padB s) :: cellsT g0 V 27 :: L) from hS.out)
          clear hS
          have hc0 : (0 : Int) ≤ ((crc (padB s) : Nat) : Int) := by omega
          have hc1 : ((crc (padB s) : Nat) : Int) < 4294967296 := by have := HCL.out; omega
          go_wp2_with (first
            | (go_at_call 43; (with_reducible refine (Sep.sumR HSl.out HBY.out (by rw [padB_len HOK.out]; decide)).mono ?_); rintro e wq ⟨rfl, h2⟩; have HSm := Aside0.mk h2; clear h2 HSl)
            | (go_at_call 41; (with_reducible refine (Sep.numR4 HSm.out ((crc (padB s) : Nat) : Int) (by omega)).mono ?_); rintro e wq2 ⟨vq, rfl, h2⟩; have HSn := Aside0.mk h2; clear h2 HSm)
            | ((with_reducible refine gate_builtin (b := .append) (xs := #[.tmp 62, .tmp 66]) rfl ?_); refine Sep.app_own rfl _ _ rfl rfl rfl HSn.out.up1 ?aL ?_; (case aL => rw [fixL_len, padB_len HOK.out]; decide); intro vz wz h3; have HSo := Aside0.mk h3.up1.drop.up1.drop; clear h3 HSn))
          obtain ⟨A2, c2, hv⟩ := HSo.out.own_slice
          rw [List.length_append, padB_len HOK.out, fixL_len] at hv
          subst hv
          go_ret2
          exact ⟨A2, c2, rfl, HSo.out⟩
end Go.Proofs.YtaflofcnjakaaaaDoor.M

namespace Go.Proofs.YtaflofcnjakaaaaDoor.M
open Go.RowKit Go.Maps Go.Proofs.YtaflofcnjakaaaaDoorW.PrintWords Go.Proofs.YtaflofcnjakaaaaDoorW.PrintLast Go.Proofs.YtaflofcnjakaaaaDoorW.PrintMore Go.Proofs.YtaflofcnjakaaaaDoor.Wr Go.Proofs.YtaflofcnjakaaaaDoor.Pl Go.Proofs.YtaflofcnjakaaaaDoor.P Go.Proofs.YtaflofcnjakaaaaDoor.A
set_option linter.unusedVariables false
set_option linter.unusedSimpArgs false
theorem or8i {x : Nat} {c : Int} (hx : x < 256 ^ 7) (h0 : 0 ≤ c) (h1 : c < 256) : Go.bits .or .i64 (wrap64 (wrap64 (x : Int) * 256)) (wrap64 c) = wrap64 ((c.toNat + 256 * x : Nat) : Int) := by
  have hx : x < 72057594037927936 := hx
  have e1 : (BitVec.ofInt 64 (wrap64 (wrap64 (x : Int) * 256))).toNat = 256 * x := by
    rw [BitVec.toNat_ofInt]; unfold wrap64; omega
  have e2 : (BitVec.ofInt 64 (wrap64 c)).toNat = c.toNat := by
    rw [BitVec.toNat_ofInt]; unfold wrap64; omega
  have h2 := Nat.two_pow_add_eq_or_of_lt (b := c.toNat) (i := 8) (by omega) x
  simp only [show (2 : Nat) ^ 8 = 256 from rfl] at h2
  have key : (BitVec.ofInt 64 (wrap64 (wrap64 (x : Int) * 256)) ||| BitVec.ofInt 64 (wrap64 c)).toNat = c.toNat + 256 * x := by
    rw [BitVec.toNat_or, e1, e2, ← h2, Nat.add_comm]
  show IntKind.i64.wrap ((BitVec.ofInt 64 (wrap64 (wrap64 (x : Int) * 256)) ||| BitVec.ofInt 64 (wrap64 c)).toNat : Nat) = _
  rw [key, IntKind.wrap_i64]
  unfold wrap64
  omega
theorem readR_l0 : ∀ (i : Nat) (b : List Int) (at_ n k : Nat), bytes_ b → b.length ≤ 4611686018427387904 → at_ + n ≤ b.length → i ≤ n → n ≤ 8 → i < k →
    kilnref18_read.l0 k b (at_ : Int) (wrap64 ((leV ((b.drop (at_ + i)).take (n - i)) : Nat) : Int)) ((i : Int) - 1) = some (wrap64 ((leV ((b.drop at_).take n) : Nat) : Int)) := by
  intro i
  induction i with
  | zero =>
    intro b at_ n k hb hl hat hi hn hk
    obtain ⟨k, rfl⟩ : ∃ q, k = q + 1 := ⟨k - 1, by omega⟩
    simp only [kilnref18_read.l0]
    rw [if_neg (by omega)]; simp
  | succ i ih =>
    intro b at_ n k hb hl hat hi hn hk
    obtain ⟨k, rfl⟩ : ∃ q, k = q + 1 := ⟨k - 1, by omega⟩
    simp only [kilnref18_read.l0]
    obtain ⟨c, hd, hr, hc⟩ := rd_drop (show at_ + i < b.length by omega)
    have hc := hb c hc
    rw [show (((i + 1 : Nat) : Int) - 1) = (i : Int) by omega, w64 (x := (at_ : Int) + (i : Int)) (by omega) (by omega), if_pos (by omega), if_pos (by omega), if_pos (by omega), show ((at_ : Int) + (i : Int)) = ((at_ + i : Nat) : Int) by omega, hr, w64 (x := (i : Int) - 1) (by omega) (by omega)]
    have hlt : leV ((b.drop (at_ + (i + 1))).take (n - (i + 1))) < 256 ^ 7 := by
      have h1 := leV_lt _ (bytes_take (bytes_drop hb (at_ + (i + 1))) (n - (i + 1)))
      have h2 : ((b.drop (at_ + (i + 1))).take (n - (i + 1))).length ≤ 7 := by simp; omega
      exact Nat.lt_of_lt_of_le h1 (Nat.pow_le_pow_right (by decide) h2)
    rw [or8i hlt hc.1 hc.2]
    have e : c.toNat + 256 * leV ((b.drop (at_ + (i + 1))).take (n - (i + 1))) = leV ((b.drop (at_ + i)).take (n - i)) := by
      rw [hd, show n - i = (n - (i + 1)) + 1 by omega, List.take_succ_cons]; rfl
    rw [e]
    exact ih b at_ n k hb hl hat (by omega) hn (by omega)
theorem readR_f {b : List Int} (hb : bytes_ b) (hl : b.length = 512) (p n : Nat) (h8 : n ≤ 8) (hp : p + n ≤ 512) : kilnref18_read.f 9 b (p : Int) (n : Int) = some (numAt b p n) := by
  unfold kilnref18_read.f numAt
  have h := readR_l0 n b p n 9 hb (by omega) (by omega) (Nat.le_refl _) h8 (by omega)
  rw [w64 (by omega) (by omega)]
  have e : wrap64 ((leV ((b.drop (p + n)).take (n - n)) : Nat) : Int) = 0 := by rw [Nat.sub_self, List.take_zero]; simp [leV, wrap64]
  rw [e] at h
  exact h
section
variable {w0 w : World} {L M : List Th} {A : Option Addr} {c : Nat} {b : List Int}
theorem Sep.readR (h : Sep w0 w M) (hs : Sub L M) (hR : ReadsB w0 L A b) (hb : bytes_ b) (hl : b.length = 512) (hc : 512 ≤ c) (p n : Nat) (P N : Int) (hP : (p : Int) = P) (hN : (n : Int) = N) (h8 : n ≤ 8) (hp : p + n ≤ 512) :
    Calls Tryd.prog 67 #[.slice A 512 c, .int .i64 P, .int .i64 N] w fun e w' => e = .returned (.int .i64 (numAt b p n)) ∧ Sep w0 w' M := by
  subst hP hN
  have h1 := kilnref18_read.calls 9 A c b (p : Int) (n : Int) (numAt b p n) w (by rw [hl]; exact hR w M hs h) (by omega) (readR_f hb hl p n h8 hp)
  rw [hl] at h1
  refine h1.mono ?_
  rintro e w' ⟨rfl, hd⟩
  exact ⟨rfl, h.step hd.below⟩
end
theorem cell_any0 {w : World} {g ty : Nat} {cs : Array Value} (h : w.heap[g]? = some (.cells cs ty (0, 0))) (k : Nat) (hk : k < cs.size) : ∃ v, w.cell? ⟨g, k, none⟩ = some v :=
  ⟨cs[k], cell_at (cs := cs.toList) (by rw [Array.toArray_toList]; exact h) k (by rw [Array.getElem?_toList, Array.getElem?_eq_getElem hk])⟩
theorem fill_step (l : List Int) (n i : Nat) (hl : l.length = n) (hi : i < n) : (nums .u8 (l.take i ++ List.replicate (n - i) 0)).toArray.setIfInBounds i (.int .u8 (l.getD i 0)) = (nums .u8 (l.take (i + 1) ++ List.replicate (n - (i + 1)) 0)).toArray := by
  rw [List.setIfInBounds_toArray]
  congr 1
  unfold nums
  rw [← List.map_set, List.set_append_right _ _ (by rw [List.length_take]; omega), List.length_take, Nat.min_eq_left (by omega), Nat.sub_self, show n - i = (n - (i + 1)) + 1 by omega, List.replicate_succ, List.set_cons_zero, take_snoc l 0 (by omega), List.append_assoc]
  rfl
set_option maxHeartbeats 8000000 in
set_option maxRecDepth 100000 in
theorem Sep.keyR {w0 w : World} {L M : List Th} {A : Option Addr} {c : Nat} {b : List Int} (h : Sep w0 w M) (hs : Sub L M) (hR : ReadsB w0 L A b) (hl : b.length = 512) (hc : 512 ≤ c) (p : Nat) (P : Int) (hP : (p : Int) = P) (hp : p + 32 ≤ 512) :
    Calls Tryd.prog 68 #[.slice A 512 c, .int .i64 P] w fun e w' => e = .returned (.agg (nums .u8 (keyAt b p)).toArray) ∧ Sep w0 w' M := by
  subst hP
  obtain ⟨ad, rfl, _⟩ := (hR w M hs h).2.2 (by decide)
  have HCK := Aside0.mk (fun W (N : List Th) (hs : Sub L N) (h : Sep w0 W N) (i : Nat) (hi : i < 32) => (show W.cell? (ad.add (p + i)) = some (.int .u8 ((keyAt b p).getD i 0)) from by
    refine C_cells (hR W N hs h) (p + i) _ ?_
    unfold keyAt nums
    rw [List.getElem?_map, List.getElem?_eq_getElem (by omega), List.getD_eq_getElem?_getD, List.getElem?_take, if_pos hi, List.getElem?_drop, List.getElem?_eq_getElem (by omega)]
    rfl))
  have HKL := Aside0.mk (keyAt_len hl hp)
  have HPp := Aside0.mk hp
  have HCc := Aside0.mk hc
  generalize keyAt b p = ky at HCK HKL ⊢
  have HSZ := Aside0.mk (show (Tryd.prog.info? 23).map (·.size) = some (nums .u8 ky).toArray.size from size23 (by simpa [nums_length] using HKL.out))
  have HS0 := Aside0.mk h
  have HSub := Aside0.mk hs
  have hp1 : (p : Int) + 32 ≤ 512 := by omega
  clear h hR hl hs hc hp
  have hz := (zero_of_info (P := Tryd.prog) (t := 23) (v := .agg (nums .u8 (List.replicate 32 0)).toArray) (n := 32) (by kernel_rfl)).1
  generalize hZ : (nums .u8 (List.replicate 32 0)).toArray = Z at hz
  have HZ := Aside0.mk hZ
  clear hZ
  go_enter Tryd.func68, Tryd.ntmps68
  go_upto_region 2 with (fail)
  have HSa := Aside0.mk ((HS0.out.push_alloc Z 23).push_alloc Z 23)
  have hsz : (w.alloc (.cells Z 23)).heap.size = w.heap.size + 1 := by show (w.heap.push _).size = _; simp
  rw [hsz] at HSa
  generalize (w.alloc (.cells Z 23)).alloc (.cells Z 23) = w1 at HSa ⊢
  generalize hga : w.heap.size + 1 = ga at HSa ⊢
  generalize w.heap.size = gr at HSa ⊢
  clear hga hsz HS0 hz
  go_upto_region 3 with (fail)
  go_loopg [6] 32 (fun kq v6 wr => ∃ i : Nat, v6 = .int .i64 i ∧ Aside0 (i + kq = 32) ∧ Aside0 (Sep w0 wr (cellsT ga (nums .u8 (ky.take i ++ List.replicate (32 - i) 0)).toArray 23 :: cellsT gr Z 23 :: M)))
  case atStart => exact ⟨0, rfl, ⟨rfl⟩, ⟨by rw [List.take_zero, List.nil_append, HZ.out]; exact HSa.out⟩⟩
  case round =>
    obtain ⟨i, rfl, HJ, hS⟩ := hrel
    clear HSa
    by_cases hi : i < 32
    · have hi1 : (i : Int) < 32 := by omega
      have t0 : decide ((i : Int) < 32) = true := decide_eq_true hi1
      have x0 : wr.cell? (ad.add (p + i)) = some (.int .u8 (ky.getD i 0)) := HCK.out _ _ (Sub.c (Sub.c HSub.out)) hS.out i hi
      have x1 : wr.frozen? ⟨ga, i, none⟩ = false := blk_frozen hS.out.cells.1 i
      obtain ⟨u, x2⟩ := cell_any0 hS.out.cells.1 i (by simp [nums_length]; have := HKL.out; omega)
      have HI := Aside0.mk hi
      go_wp2
      go_roundg (gk - 1)
      case measure => have := HJ.out; omega
      case rel => exact ⟨i + 1, rfl, ⟨by have := HJ.out; omega⟩, ⟨by have := hS.out.cset i (.int .u8 (ky.getD i 0)); rwa [fill_step ky 32 i HKL.out HI.out] at this⟩⟩
    · have hi3 : i = 32 := by have := HJ.out; omega
      subst hi3
      have HSb := Aside0.mk (show Sep w0 wr (cellsT ga (nums .u8 ky).toArray 23 :: cellsT gr Z 23 :: M) from by have := hS.out; rwa [List.take_of_length_le (by have := HKL.out; omega), show 32 - 32 = 0 from rfl, List.replicate_zero, List.append_nil] at this)
      clear hS HCK
      go_wp2_with (first
        | ((with_reducible refine gate_load (ty := 23) rfl ?_); refine wpList_ldw ?_ 23 _ rfl ⟨ga, 0, none⟩ ?_ (nums .u8 ky).toArray _ (fun j v hv => seg_at HSb.out.cells.1 0 (nums .u8 ky) (by rw [List.drop_zero]; exact List.take_of_length_le (Nat.le_refl _)) j v (by simpa using hv)) Tryd.underlying23 rfl HSZ.out ?_; exact rfl; exact rfl; skip)
        | ((with_reducible refine gate_store (ty := 23) rfl ?_); refine Sep.store_own rfl 23 _ _ rfl rfl rfl HSb.out.up1 HSZ.out (show Z.size = (nums .u8 ky).toArray.size from by rw [← HZ.out]; simp [nums_length, HKL.out]) (nums_all ky) ?_; intro w4 h4; have HS4 := Aside0.mk h4; clear h4))
      refine bodyPost_ret (results_cell_row (p := 4) (ty := 23) rfl _ _ gr 23 (nums .u8 ky).toArray (0, 0) _ rfl HS4.out.cells.1 Tryd.underlying23 rfl HSZ.out) rfl ⟨rfl, ?_⟩
      exact HS4.out.drop.drop
end Go.Proofs.YtaflofcnjakaaaaDoor.M

namespace Go.Proofs.YtaflofcnjakaaaaDoor.M
open Go.RowKit Go.Maps Go.Proofs.YtaflofcnjakaaaaDoorW.PrintWords Go.Proofs.YtaflofcnjakaaaaDoorW.PrintLast Go.Proofs.YtaflofcnjakaaaaDoorW.PrintMore Go.Proofs.YtaflofcnjakaaaaDoor.Wr Go.Proofs.YtaflofcnjakaaaaDoor.Pl Go.Proofs.YtaflofcnjakaaaaDoor.P Go.Proofs.YtaflofcnjakaaaaDoor.A
set_option linter.unusedVariables false
set_option linter.unusedSimpArgs false
set_option maxHeartbeats 8000000 in
set_option maxRecDepth 100000 in
theorem Sep.refAt {w0 w : World} {L M : List Th} {A : Option Addr} {c : Nat} {b : List Int} (h : Sep w0 w M) (hs : Sub L M) (hR : ReadsB w0 L A b) (hb : bytes_ b) (hl : b.length = 512) (hc : 512 ≤ c) (p : Nat) (P : Int) (hP : (p : Int) = P) (hp : p + 40 ≤ 512) :
    Calls Tryd.prog 69 #[.slice A 512 c, .int .i64 P] w fun e w' => e = .returned (.agg (refV (keyAt b p) (numAt b (p + 32) 4) (numAt b (p + 36) 4)).toArray) ∧ Sep w0 w' M := by
  subst hP
  have HKY := Aside0.mk (fun W (N : List Th) (hs : Sub L N) (h : Sep w0 W N) => Sep.keyR h hs hR hl hc p (p : Int) rfl (by omega))
  have HN1 := Aside0.mk (fun W (N : List Th) (hs : Sub L N) (h : Sep w0 W N) => Sep.readR h hs hR hb hl hc (p + 32) 4 ((p : Int) + 32) 4 (by omega) rfl (by decide) (by omega))
  have HN2 := Aside0.mk (fun W (N : List Th) (hs : Sub L N) (h : Sep w0 W N) => Sep.readR h hs hR hb hl hc (p + 36) 4 ((p : Int) + 36) 4 (by omega) rfl (by decide) (by omega))
  have HKL := Aside0.mk (keyAt_len (b := b) hl (p := p) (by omega))
  generalize keyAt b p = ky at HKY HKL ⊢
  generalize numAt b (p + 32) 4 = n1 at HN1 ⊢
  generalize numAt b (p + 36) 4 = n2 at HN2 ⊢
  have HSZ := Aside0.mk (show (Tryd.prog.info? 25).map (·.size) = some (refV ky n1 n2).toArray.size from size25 (by simpa using refV_len HKL.out n1 n2))
  have HBL := Aside0.mk (built25 ky HKL.out n1 n2)
  have HAL := Aside0.mk (refV_all ky n1 n2)
  have hz := (zero_of_info (P := Tryd.prog) (t := 25) (v := .agg (refV z32 0 0).toArray) (n := 34) (by kernel_rfl)).1
  generalize hZ : (refV z32 0 0).toArray = Z at hz
  have HZs := Aside0.mk (show Z.size = (refV ky n1 n2).toArray.size from by rw [← hZ]; simp only [List.size_toArray]; rw [refV_len HKL.out, refV_len (by rfl)])
  have HS0 := Aside0.mk h
  have HSub := Aside0.mk hs
  have hp1 : (p : Int) + 40 ≤ 512 := by omega
  clear h hR hb hl hZ hs hp
  go_enter Tryd.func69, Tryd.ntmps69
  go_upto_region 1 with (fail)
  have HSa := Aside0.mk (HS0.out.push_alloc Z 25)
  generalize w.alloc (.cells Z 25) = w2 at HSa ⊢
  generalize w.heap.size = gr at HSa ⊢
  clear HS0 hz
  go_wp2_with (first
    | (go_at_call 68; (with_reducible refine (HKY.out _ _ (Sub.c HSub.out) HSa.out).mono ?_); rintro e w3 ⟨rfl, h3⟩; have HS3 := Aside0.mk h3; clear h3)
    | (go_at_call 67; (with_reducible refine (HN1.out _ _ (Sub.c HSub.out) HS3.out).mono ?_); rintro e w4 ⟨rfl, h4⟩; have HS4 := Aside0.mk h4; clear h4 HS3)
    | (go_at_call 67; (with_reducible refine (HN2.out _ _ (Sub.c HSub.out) HS4.out).mono ?_); rintro e w5 ⟨rfl, h5⟩; have HS5 := Aside0.mk h5; clear h5 HS4; rename_i hKK; refine hKK _ _ ?_; clear hKK; refine wpList_buildTo rfl 25 _ rfl (some 16) rfl (refV ky n1 n2).toArray ?aB ?_; (case aB => (simp only [List.map_toArray, List.map_cons, List.map_nil]; exact HBL.out)))
    | ((with_reducible refine gate_build (ty := 25) rfl ?_); refine wpList_buildTo rfl 25 _ rfl (some 16) rfl (refV ky n1 n2).toArray ?aB ?_; (case aB => (simp only [List.map_toArray, List.map_cons, List.map_nil]; exact HBL.out)))
    | ((with_reducible refine gate_store (ty := 25) rfl ?_); refine Sep.store_own rfl 25 _ _ rfl rfl rfl HS5.out HSZ.out HZs.out HAL.out ?_; intro w6 h6; have HS6 := Aside0.mk h6; clear h6))
  refine bodyPost_ret (results_cell_row (p := 4) (ty := 25) rfl _ _ gr 25 (refV ky n1 n2).toArray (0, 0) _ rfl HS6.out.cells.1 Tryd.underlying25 rfl HSZ.out) rfl ⟨rfl, ?_⟩
  exact HS6.out.drop
set_option maxRecDepth 100000 in
theorem built27f (ky : List Int) (h : ky.length = 32) (a b c d e : Int) (rh : List Int) (hr : rh.length = 32) (rf rl : Int) (mh : List Int) (hm : mh.length = 32) (mf ml : Int) : Tryd.prog.built 27 [(0, .int .i64 a), (1, .int .i64 b), (2, .int .i64 c), (3, .int .i64 d), (4, .int .i64 e), (5, .agg (nums .u8 ky).toArray), (6, .agg (refV rh rf rl).toArray), (7, .agg (refV mh mf ml).toArray)] = some (SL.V ⟨a, b, c, d, e, ky, rh, rf, rl, mh, mf, ml⟩).toArray := by
  obtain ⟨x0, x1, x2, x3, x4, x5, x6, x7, x8, x9, x10, x11, x12, x13, x14, x15, x16, x17, x18, x19, x20, x21, x22, x23, x24, x25, x26, x27, x28, x29, x30, x31, rfl⟩ := list32 ky h
  obtain ⟨y0, y1, y2, y3, y4, y5, y6, y7, y8, y9, y10, y11, y12, y13, y14, y15, y16, y17, y18, y19, y20, y21, y22, y23, y24, y25, y26, y27, y28, y29, y30, y31, rfl⟩ := list32 rh hr
  obtain ⟨z0, z1, z2, z3, z4, z5, z6, z7, z8, z9, z10, z11, z12, z13, z14, z15, z16, z17, z18, z19, z20, z21, z22, z23, z24, z25, z26, z27, z28, z29, z30, z31, rfl⟩ := list32 mh hm
  kernel_rfl
set_option maxHeartbeats 16000000 in
set_option maxRecDepth 100000 in
theorem Sep.decodeR {w0 w : World} {L M : List Th} {A : Option Addr} {c : Nat} {b : List Int} (h : Sep w0 w M) (hs : Sub L M) (hR : ReadsB w0 L A b) (hb : bytes_ b) (hl : b.length = 512) (hc : 512 ≤ c) :
    Calls Tryd.prog 45 #[.slice A 512 c] w fun e w' => e = .returned (.tuple #[.agg (decS b).V.toArray, .int .i64 (decE b)]) ∧ Sep w0 w' M := by
  have HN0 := Aside0.mk (fun W (N : List Th) (hs : Sub L N) (h : Sep w0 W N) => (show Calls Tryd.prog 67 #[.slice A 512 c, .int .i64 4, .int .i64 4] W (fun e w' => e = .returned (.int .i64 (numAt b 4 4)) ∧ Sep w0 w' N) from Sep.readR h hs hR hb hl hc 4 4 4 4 rfl rfl (by decide) (by decide)))
  have HN1 := Aside0.mk (fun W (N : List Th) (hs : Sub L N) (h : Sep w0 W N) => (show Calls Tryd.prog 67 #[.slice A 512 c, .int .i64 8, .int .i64 4] W (fun e w' => e = .returned (.int .i64 (numAt b 8 4)) ∧ Sep w0 w' N) from Sep.readR h hs hR hb hl hc 8 4 8 4 rfl rfl (by decide) (by decide)))
  have HN2 := Aside0.mk (fun W (N : List Th) (hs : Sub L N) (h : Sep w0 W N) => (show Calls Tryd.prog 67 #[.slice A 512 c, .int .i64 12, .int .i64 8] W (fun e w' => e = .returned (.int .i64 (numAt b 12 8)) ∧ Sep w0 w' N) from Sep.readR h hs hR hb hl hc 12 8 12 8 rfl rfl (by decide) (by decide)))
  have HN3 := Aside0.mk (fun W (N : List Th) (hs : Sub L N) (h : Sep w0 W N) => (show Calls Tryd.prog 67 #[.slice A 512 c, .int .i64 20, .int .i64 8] W (fun e w' => e = .returned (.int .i64 (numAt b 20 8)) ∧ Sep w0 w' N) from Sep.readR h hs hR hb hl hc 20 8 20 8 rfl rfl (by decide) (by decide)))
  have HN4 := Aside0.mk (fun W (N : List Th) (hs : Sub L N) (h : Sep w0 W N) => (show Calls Tryd.prog 67 #[.slice A 512 c, .int .i64 28, .int .i64 8] W (fun e w' => e = .returned (.int .i64 (numAt b 28 8)) ∧ Sep w0 w' N) from Sep.readR h hs hR hb hl hc 28 8 28 8 rfl rfl (by decide) (by decide)))
  have HKY := Aside0.mk (fun W (N : List Th) (hs : Sub L N) (h : Sep w0 W N) => (show Calls Tryd.prog 68 #[.slice A 512 c, .int .i64 36] W (fun e w' => e = .returned (.agg (nums .u8 (keyAt b 36)).toArray) ∧ Sep w0 w' N) from Sep.keyR h hs hR hl hc 36 36 rfl (by decide)))
  have HRR := Aside0.mk (fun W (N : List Th) (hs : Sub L N) (h : Sep w0 W N) => (show Calls Tryd.prog 69 #[.slice A 512 c, .int .i64 68] W (fun e w' => e = .returned (.agg (refV (keyAt b 68) (numAt b 100 4) (numAt b 104 4)).toArray) ∧ Sep w0 w' N) from Sep.refAt h hs hR hb hl hc 68 68 rfl (by decide)))
  have HRM := Aside0.mk (fun W (N : List Th) (hs : Sub L N) (h : Sep w0 W N) => (show Calls Tryd.prog 69 #[.slice A 512 c, .int .i64 108] W (fun e w' => e = .returned (.agg (refV (keyAt b 108) (numAt b 140 4) (numAt b 144 4)).toArray) ∧ Sep w0 w' N) from Sep.refAt h hs hR hb hl hc 108 108 rfl (by decide)))
  have HR0 := Aside0.mk (read_ok hl hb)
  have HDS := Aside0.mk (show mayM (readL b) = true → encB (readL b) = b → decS b = readL b ∧ decE b = 0 from fun h1 h2 => decS_yes (by unfold decB; rw [if_pos ⟨hl, h1, h2⟩]))
  have HDN := Aside0.mk (show (mayM (readL b) = true → encB (readL b) ≠ b) → decS b = noSL ∧ decE b = 180 from fun h1 => decS_no (by unfold decB; rw [if_neg (fun h2 => h1 h2.2.1 h2.2.2)]))
  have HRD := Aside0.mk (show readL b = ⟨numAt b 4 4, numAt b 8 4, numAt b 12 8, numAt b 20 8, numAt b 28 8, keyAt b 36, keyAt b 68, numAt b 100 4, numAt b 104 4, keyAt b 108, numAt b 140 4, numAt b 144 4⟩ from rfl)
  have HKL := Aside0.mk (show (keyAt b 36).length = 32 ∧ (keyAt b 68).length = 32 ∧ (keyAt b 108).length = 32 from ⟨keyAt_len hl (by decide), keyAt_len hl (by decide), keyAt_len hl (by decide)⟩)
  have HS0 := Aside0.mk h
  have HSub := Aside0.mk hs
  have HCV := Aside0.mk (fun W (N : List Th) (hs : Sub L N) (h : Sep w0 W N) => (show (convert 28 9 (.slice A 512 c)).run Tryd.prog W = .ok (.string (strOfNums b)) W from Kd.C_string (P := Tryd.prog) Tryd.underlying28 Tryd.underlying5 Tryd.underlying9 (hR W N hs h)))
  generalize numAt b 4 4 = n0 at HN0 HRD
  generalize numAt b 8 4 = n1 at HN1 HRD
  generalize numAt b 12 8 = n2 at HN2 HRD
  generalize numAt b 20 8 = n3 at HN3 HRD
  generalize numAt b 28 8 = n4 at HN4 HRD
  generalize keyAt b 36 = k at HKY HRD HKL
  generalize keyAt b 68 = rh at HRR HRD HKL
  generalize numAt b 100 4 = rf at HRR HRD
  generalize numAt b 104 4 = rl at HRR HRD
  generalize keyAt b 108 = mh at HRM HRD HKL
  generalize numAt b 140 4 = mf at HRM HRD
  generalize numAt b 144 4 = ml at HRM HRD
  have HEN := Aside0.mk (fun W (N : List Th) (hm : mayM (readL b) = true) (h : Sep w0 W N) => Sep.encodeR h (readL b) HR0.out hm)
  have HEX := Aside0.mk (fun W (hm : mayM (readL b) = false) => encodeR_no (readL b) HR0.out hm W)
  have HSI := Aside0.mk (str_inj (bytes_encB HR0.out) hb)
  have HEL := Aside0.mk (encB_len HR0.out)
  have HCE := Aside0.mk (fun W A2 c2 (N : List Th) (h : Sep w0 W (ownT (Kd.int .u8) 5 (.slice A2 512 c2) (encB (readL b)) :: N)) => (show (convert 28 9 (.slice A2 512 c2)).run Tryd.prog W = .ok (.string (strOfNums (encB (readL b)))) W from by
    have hC := (ReadsB.own (w0 := w0) (L := N) HEL.out) W _ (Sub.r _) h
    exact Kd.C_string (P := Tryd.prog) Tryd.underlying28 Tryd.underlying5 Tryd.underlying9 hC))
  have HBF := Aside0.mk (built27f k HKL.out.1 n0 n1 n2 n3 n4 rh HKL.out.2.1 rf rl mh HKL.out.2.2 mf ml)
  rw [← HRD.out] at HBF
  generalize readL b = sr at *
  generalize encB sr = eb at *
  generalize strOfNums b = sb at HCV HSI
  generalize strOfNums eb = se at HCE HSI
  have HOK := Aside0.mk (SL.V_len HR0.out)
  have HAV := Aside0.mk (SL.V_all sr)
  have hz := (zero_of_info (P := Tryd.prog) (t := 27) (v := .agg noSL.V.toArray) (n := 105) (by kernel_rfl)).1
  have HBZ := Aside0.mk (show Tryd.prog.built 27 [] = some noSL.V.toArray from built27z)
  have HSZ := Aside0.mk (show (Tryd.prog.info? 27).map (·.size) = some noSL.V.toArray.size from size27 (by simpa using SL.V_len noSL_ok))
  have HSV := Aside0.mk (show (Tryd.prog.info? 27).map (·.size) = some sr.V.toArray.size from size27 (by simpa using HOK.out))
  have HZA := Aside0.mk (SL.V_all noSL)
  have HZN := Aside0.mk (show noSL.V.toArray.size = 105 from by simpa using SL.V_len noSL_ok)
  have HVN := Aside0.mk (show sr.V.toArray.size = 105 from by simpa using HOK.out)
  generalize hV : sr.V = V at HEN HEX HSV HAV HVN HOK HBF
  have HV := Aside0.mk hV
  clear hV
  generalize hZ : noSL.V.toArray = Z at hz HBZ HSZ HZA HZN
  have HZ := Aside0.mk hZ
  clear hZ
  clear h hR hb hl hc HKL hs HRD
  generalize (refV rh rf rl).toArray = VR at HBF HRR
  generalize (refV mh mf ml).toArray = VM at HBF HRM
  generalize (nums .u8 k).toArray = VK at HBF HKY
  generalize decS b = ds at *
  generalize decE b = de at *
  have HZV := Aside0.mk (show Z.size = V.toArray.size from by rw [HZN.out, HVN.out])
  go_enter Tryd.func45, Tryd.ntmps45
  go_upto_region 1 with (fail)
  have HS1 := Aside0.mk (HS0.out.push_alloc Z 27)
  generalize w.alloc (.cells Z 27) = w1 at HS1 ⊢
  generalize w.heap.size = gr at HS1 ⊢
  clear HS0
  go_upto_region 4 with (first
    | (go_at_call 67; (with_reducible refine (HN0.out _ _ (Sub.c HSub.out) HS1.out).mono ?_); rintro e w3 ⟨rfl, h3⟩; have HS3 := Aside0.mk h3; clear h3 HS1)
    | (go_at_call 67; (with_reducible refine (HN1.out _ _ (Sub.c HSub.out) HS3.out).mono ?_); rintro e w4 ⟨rfl, h4⟩; have HS4 := Aside0.mk h4; clear h4 HS3)
    | (go_at_call 67; (with_reducible refine (HN2.out _ _ (Sub.c HSub.out) HS4.out).mono ?_); rintro e w5 ⟨rfl, h5⟩; have HS5 := Aside0.mk h5; clear h5 HS4)
    | (go_at_call 67; (with_reducible refine (HN3.out _ _ (Sub.c HSub.out) HS5.out).mono ?_); rintro e w6 ⟨rfl, h6⟩; have HS6 := Aside0.mk h6; clear h6 HS5)
    | (go_at_call 67; (with_reducible refine (HN4.out _ _ (Sub.c HSub.out) HS6.out).mono ?_); rintro e w7 ⟨rfl, h7⟩; have HS7 := Aside0.mk h7; clear h7 HS6)
    | (go_at_call 68; (with_reducible refine (HKY.out _ _ (Sub.c HSub.out) HS7.out).mono ?_); rintro e w8 ⟨rfl, h8⟩; have HS8 := Aside0.mk h8; clear h8 HS7)
    | (go_at_call 69; (with_reducible refine (HRR.out _ _ (Sub.c HSub.out) HS8.out).mono ?_); rintro e w8a ⟨rfl, h8⟩; have HS8a := Aside0.mk h8; clear h8 HS8)
    | (go_at_call 69; (with_reducible refine (HRM.out _ _ (Sub.c HSub.out) HS8a.out).mono ?_); rintro e w8b ⟨rfl, h8⟩; have HS8b := Aside0.mk h8; clear h8 HS8a)
    | ((with_reducible refine gate_build (ty := 27) rfl ?_); refine wpList_buildTo rfl 27 _ rfl (some 27) rfl V.toArray ?aB ?_; (case aB => (simp only [List.map_toArray, List.map_cons, List.map_nil]; exact HBF.out)))
    | ((with_reducible refine gate_store (ty := 27) rfl ?_); refine Sep.store_own rfl 27 _ _ rfl rfl rfl (HS8b.out.push_alloc Z 27) HSV.out HZV.out HAV.out ?_; intro w9 h9; have HS9 := Aside0.mk h9; clear h9))
  generalize w8b.heap.size = gs at HS9 ⊢
  clear HS8b HN0 HN1 HN2 HN3 HN4 HKY HRR HRM
  have HLD := Aside0.mk (fun W (M : List Th) (h : Sep w0 W (cellsT gs V.toArray 27 :: M)) => (show ∀ j v, V.toArray.toList[j]? = some v → W.cell? ((⟨gs, 0, none⟩ : Addr).add j) = some v from fun j v hv => seg_at h.cells.1 0 V (by rw [List.drop_zero]; exact List.take_of_length_le (Nat.le_refl _)) j v (by simpa using hv)))
  cases hm : mayM sr with
  | false =>
    go_upto_region 5 with (first
      | ((with_reducible refine gate_load (ty := 27) rfl ?_); refine wpList_ldw ?_ 27 _ rfl ⟨gs, 0, none⟩ ?_ V.toArray _ (HLD.out _ _ HS9.out) Tryd.underlying27 rfl HSV.out ?_; exact rfl; exact rfl; skip)
      | (go_at_call 13; (with_reducible refine (HEX.out _ hm).mono ?_); rintro e w14 ⟨rfl, hb⟩; have HS14 := Aside0.mk (HS9.out.step hb); clear hb))
    go_wp2_with (first
      | ((with_reducible refine gate_build (ty := 27) rfl ?_); refine wpList_buildTo rfl 27 _ rfl (some 42) rfl Z ?aB ?_; (case aB => (simp only [List.map_toArray, List.map_nil]; exact HBZ.out)))
      | ((with_reducible refine gate_store (ty := 27) rfl ?_); refine Sep.store_own rfl 27 _ _ rfl rfl rfl HS14.out.up1 HSZ.out rfl HZA.out ?_; intro w15 h15; have HS15 := Aside0.mk h15; clear h15))
    obtain ⟨rfl, rfl⟩ := HDN.out (fun h => by rw [hm] at h; cases h)
    rw [HZ.out]
    refine bodyPost_ret (results_row_tmp (p := 2) (u := 3) (ty := 27) rfl _ _ gr 27 Z (0, 0) _ _ rfl rfl HS15.out.cells.1 Tryd.underlying27 rfl HSZ.out) rfl ⟨rfl, ?_⟩
    exact HS15.out.drop.drop
  | true =>
    go_upto_region 5 with (first
      | ((with_reducible refine gate_load (ty := 27) rfl ?_); refine wpList_ldw ?_ 27 _ rfl ⟨gs, 0, none⟩ ?_ V.toArray _ (HLD.out _ _ HS9.out) Tryd.underlying27 rfl HSV.out ?_; exact rfl; exact rfl; skip)
      | (go_at_call 13; (with_reducible refine (HEN.out _ _ hm HS9.out).mono ?_); rintro e w14 ⟨A2, c2, rfl, h14⟩; have HS14 := Aside0.mk h14; clear h14))
    have hc1 := HCE.out _ _ _ _ HS14.out
    have hc2 := HCV.out _ _ (Sub.c (Sub.c (Sub.c HSub.out))) HS14.out
    have hsi := HSI.out
    by_cases hq : eb = b
    · have hsi2 : (se.toList != sb.toList) = false := by rw [hsi, hq]; simp
      have hsi3 : (se.toList == sb.toList) = true := by cases h : (se.toList == sb.toList) with
        | true => rfl
        | false => rw [bne, h] at hsi2; cases hsi2
      clear hsi
      go_upto_region 7 with (fail)
      clear hc1 hc2 HCV
      go_wp2_with (first
        | ((with_reducible refine gate_load (ty := 27) rfl ?_); refine wpList_ldw ?_ 27 _ rfl ⟨gs, 0, none⟩ ?_ V.toArray _ (HLD.out _ _ HS14.out.up1) Tryd.underlying27 rfl HSV.out ?_; exact rfl; exact rfl; skip)
        | ((with_reducible refine gate_store (ty := 27) rfl ?_); refine Sep.store_own rfl 27 _ _ rfl rfl rfl HS14.out.up2 HSV.out HZV.out HAV.out ?_; intro w15 h15; have HS15 := Aside0.mk h15; clear h15))
      obtain ⟨rfl, rfl⟩ := HDS.out hm hq
      rw [HV.out]
      refine bodyPost_ret (results_row_tmp (p := 2) (u := 3) (ty := 27) rfl _ _ gr 27 V.toArray (0, 0) _ _ rfl rfl HS15.out.cells.1 Tryd.underlying27 rfl HSV.out) rfl ⟨rfl, ?_⟩
      exact HS15.out.drop.drop.drop
    · have hsi2 : (se.toList != sb.toList) = true := by rw [hsi]; simp [hq]
      have hsi3 : (se.toList == sb.toList) = false := by cases h : (se.toList == sb.toList) with
        | false => rfl
        | true => rw [bne, h] at hsi2; cases hsi2
      clear hsi
      go_upto_region 6 with (fail)
      clear hc1 hc2 HCV
      go_wp2_with (first
        | ((with_reducible refine gate_build (ty := 27) rfl ?_); refine wpList_buildTo rfl 27 _ rfl (some 42) rfl Z ?aB ?_; (case aB => (simp only [List.map_toArray, List.map_nil]; exact HBZ.out)))
        | ((with_reducible refine gate_store (ty := 27) rfl ?_); refine Sep.store_own rfl 27 _ _ rfl rfl rfl HS14.out.up2 HSZ.out rfl HZA.out ?_; intro w15 h15; have HS15 := Aside0.mk h15; clear h15))
      obtain ⟨rfl, rfl⟩ := HDN.out (fun _ => hq)
      rw [HZ.out]
      refine bodyPost_ret (results_row_tmp (p := 2) (u := 3) (ty := 27) rfl _ _ gr 27 Z (0, 0) _ _ rfl rfl HS15.out.cells.1 Tryd.underlying27 rfl HSZ.out) rfl ⟨rfl, ?_⟩
      exact HS15.out.drop.drop.drop
end Go.Proofs.YtaflofcnjakaaaaDoor.M

namespace Go.Proofs.YtaflofcnjakaaaaDoor.M
open Go.RowKit Go.Maps Go.Proofs.YtaflofcnjakaaaaDoorW.PrintWords Go.Proofs.YtaflofcnjakaaaaDoorW.PrintLast Go.Proofs.YtaflofcnjakaaaaDoorW.PrintMore Go.Proofs.YtaflofcnjakaaaaDoor.Pl Go.Proofs.YtaflofcnjakaaaaDoor.Z Go.Proofs.YtaflofcnjakaaaaDoor.A
set_option linter.unusedVariables false
set_option linter.unusedSimpArgs false
def refT (v1 v2 : Value) (l1 l2 : List S106) : Th where
  P := fun w F => Kd.V k106 106 w 0 F v1 l1 ∧ Kd.V k106 106 w 0 F v2 l2 ∧ ∀ b, F b → b < w.heap.size
  foot := fun h => h.2.2
  step := by
    rintro w w' F ⟨h1, h2, h3⟩ h
    exact ⟨Kd.V_step h1 (fun k hk _ => h k hk), Kd.V_step h2 (fun k hk _ => h k hk), fun b hb => same_lt (h b hb) (h3 b hb)⟩
section
variable {w0 w w' : World} {L : List Th} {A1 A2 : Option Addr} {c1 c2 : Nat} {l1 l2 : List S106}
theorem Sep.ref_put {v1 v2 : Value} (h : Sep w0 w (refT v1 v2 l1 l2 :: L)) : ∃ F : Nat → Prop, Kd.V k106 106 w 0 F v1 l1 ∧ Kd.V k106 106 w 0 F v2 l2 ∧ (∀ b, F b → b < w.heap.size) ∧
    ∀ (w' : World) (b1 b2 : Nat) (ok1 ok2 : Nat → Prop) (v1' v2' : Value) (l1' l2' : List S106), Kd.V k106 106 w' b1 ok1 v1' l1' → Kd.V k106 106 w' b2 ok2 v2' l2' → (∀ k, ok1 k → F k ∨ w.heap.size ≤ k) → (∀ k, ok2 k → F k ∨ w.heap.size ≤ k) → Below w.heap.size w w' → Sep w0 w' (refT v1' v2' l1' l2' :: L) := by
  obtain ⟨F, ⟨h1, h2, h3⟩, _, h4⟩ := h.open1
  refine ⟨F, h1, h2, h3, fun w' b1 b2 ok1 ok2 v1' v2' l1' l2' g1 g2 e1 e2 hb => ?_⟩
  exact h4 (refT v1' v2' l1' l2') w' (fun k => (F k ∨ w.heap.size ≤ k) ∧ k < w'.heap.size) ⟨Kd.V_mono (Kd.V_bound (Kd.V_mono g1 (fun _ h => h))) (fun k hk => ⟨e1 k hk.1, hk.2⟩), Kd.V_mono (Kd.V_bound (Kd.V_mono g2 (fun _ h => h))) (fun k hk => ⟨e2 k hk.1, hk.2⟩), fun b hb => hb.2⟩ (fun b hb => hb.1) (Chg.of_below hb)
theorem Sep.ref_new {b1 b2 : Nat} {ok1 ok2 : Nat → Prop} {v1 v2 : Value} (h : Sep w0 w L) (h1 : Kd.S k106 106 w' w.heap.size ok1 v1 l1) (h2 : Kd.S k106 106 w' w.heap.size ok2 v2 l2) (hb : Below w.heap.size w w') : Sep w0 w' (refT v1 v2 l1 l2 :: L) :=
  h.push (t := refT v1 v2 l1 l2) hb (F := fun k => w.heap.size ≤ k ∧ k < w'.heap.size) ⟨Kd.S_V (Kd.S_mono (Kd.S_bound h1) (fun k hk => ⟨hk.2.1, hk.2.2.1⟩)), Kd.S_V (Kd.S_mono (Kd.S_bound h2) (fun k hk => ⟨hk.2.1, hk.2.2.1⟩)), fun b hb => hb.2⟩ (fun b hb => hb.1)
theorem Sep.ref_C (h : Sep w0 w (refT (.slice A1 l1.length c1) (.slice A2 l2.length c2) l1 l2 :: L)) : Kd.C k106 w A1 l1.length l1 ∧ l1.length ≤ c1 ∧ Kd.C k106 w A2 l2.length l2 ∧ l2.length ≤ c2 := by
  obtain ⟨F, ⟨h1, h2, _⟩, _⟩ := h.get
  exact ⟨(Kd.V_reads' h1).2.2, (Kd.V_reads' h1).2.1, (Kd.V_reads' h2).2.2, (Kd.V_reads' h2).2.1⟩
theorem Sep.rWrite (h : Sep w0 w (refT (.slice A1 l1.length c1) (.slice A2 l2.length c2) l1 l2 :: L)) (k : Nat) (n r wr fl : Int) (a1 : Int) (A0 : Option Addr) (c0 : Nat) (l0 : List Int) (n' : Int) (l1' l2' : List S106) (r' wr' fl' : Int) (e7 : Int) (hC : Kd.C (Kd.int .u8) w A0 l0.length l0) (hc : l0.length ≤ c0) (hf : kilnref3_Write.f k n l1 l2 r wr fl a1 l0 = some (n', l1', l2', r', wr', fl', e7)) :
    Calls Tryd.prog 20 #[.agg #[.int .i64 n, .slice A1 l1.length c1, .slice A2 l2.length c2, .int .i64 r, .int .i64 wr, .int .i64 fl], .int .i64 a1, .slice A0 l0.length c0] w fun e w' => ∃ A1' c1' A2' c2', e = .returned (.tuple #[.agg #[.int .i64 n', .slice A1' l1'.length c1', .slice A2' l2'.length c2', .int .i64 r', .int .i64 wr', .int .i64 fl'], .int .i64 e7]) ∧ Sep w0 w' (refT (.slice A1' l1'.length c1') (.slice A2' l2'.length c2') l1' l2' :: L) := by
  obtain ⟨F, g1, g2, g3, put⟩ := h.ref_put
  refine (kilnref3_Write.calls k n F A1 c1 l1 F A2 c2 l2 r wr fl a1 A0 c0 l0 n' l1' l2' r' wr' fl' e7 w (Kd.V_mono g1 (fun _ h => h)) (Kd.V_mono g2 (fun _ h => h)) hC hc hf).mono ?_
  rintro e w' ⟨v1, v2, he, h1, h2, hb⟩
  obtain ⟨A1', c1', rfl⟩ := Kd.V_slice h1
  have h2 := h2
  obtain ⟨A2', c2', rfl⟩ := Kd.V_slice h2
  exact ⟨A1', c1', A2', c2', he, put w' _ _ _ _ _ _ _ _ h1 h2 (fun k hk => hk.imp (fun h => h.elim id id) id) (fun k hk => hk.imp (fun h => h.elim id id) id) hb⟩
theorem Sep.rFlush (h : Sep w0 w (refT (.slice A1 l1.length c1) (.slice A2 l2.length c2) l1 l2 :: L)) (k : Nat) (n r wr fl : Int) (n' : Int) (l1' l2' : List S106) (r' wr' fl' : Int) (hf : kilnref3_Flush.f k n l1 l2 r wr fl = some (n', l1', l2', r', wr', fl')) :
    Calls Tryd.prog 21 #[.agg #[.int .i64 n, .slice A1 l1.length c1, .slice A2 l2.length c2, .int .i64 r, .int .i64 wr, .int .i64 fl]] w fun e w' => ∃ A1' c1' A2' c2', e = .returned (.agg #[.int .i64 n', .slice A1' l1'.length c1', .slice A2' l2'.length c2', .int .i64 r', .int .i64 wr', .int .i64 fl']) ∧ Sep w0 w' (refT (.slice A1' l1'.length c1') (.slice A2' l2'.length c2') l1' l2' :: L) := by
  obtain ⟨F, g1, g2, g3, put⟩ := h.ref_put
  refine (kilnref3_Flush.calls k n F A1 c1 l1 F A2 c2 l2 r wr fl n' l1' l2' r' wr' fl' w (Kd.V_mono g1 (fun _ h => h)) (Kd.V_mono g2 (fun _ h => h)) hf).mono ?_
  rintro e w' ⟨v1, v2, he, h1, h2, hb⟩
  obtain ⟨A1', c1', rfl⟩ := Kd.V_slice h1
  have h2 := Kd.N_V (base' := 0) h2
  obtain ⟨A2', c2', rfl⟩ := Kd.V_slice h2
  exact ⟨A1', c1', A2', c2', he, put w' _ _ _ _ _ _ _ _ h1 h2 (fun k hk => hk.1.imp (fun h => h.elim id id) id) (fun k hk => hk.imp (fun h => h.elim id id) id) hb⟩
theorem Sep.rNew (h : Sep w0 w L) (a : Int) (n' : Int) (l1' l2' : List S106) (r' wr' fl' e7 : Int) (hf : kilnref3_New.f a = some (n', l1', l2', r', wr', fl', e7)) :
    Calls Tryd.prog 16 #[.int .i64 a] w fun e w' => ∃ A1' c1' A2' c2', e = .returned (.tuple #[.agg #[.int .i64 n', .slice A1' l1'.length c1', .slice A2' l2'.length c2', .int .i64 r', .int .i64 wr', .int .i64 fl'], .int .i64 e7]) ∧ Sep w0 w' (refT (.slice A1' l1'.length c1') (.slice A2' l2'.length c2') l1' l2' :: L) := by
  refine (kilnref3_New.calls a n' l1' l2' r' wr' fl' e7 w hf).mono ?_
  rintro e w' ⟨v1, v2, he, h1, h2, hb⟩
  obtain ⟨A1', c1', rfl⟩ := Kd.S_slice h1
  obtain ⟨A2', c2', rfl⟩ := Kd.S_slice h2
  exact ⟨A1', c1', A2', c2', he, h.ref_new (b1 := 0) (b2 := 0) h1 h2 hb⟩
end
end Go.Proofs.YtaflofcnjakaaaaDoor.M

namespace Go.Proofs.YtaflofcnjakaaaaDoor.M
open Go.RowKit Go.Maps Go.Proofs.YtaflofcnjakaaaaDoorW.PrintWords Go.Proofs.YtaflofcnjakaaaaDoorW.PrintLast Go.Proofs.YtaflofcnjakaaaaDoorW.PrintMore Go.Proofs.YtaflofcnjakaaaaDoor.Pl Go.Proofs.YtaflofcnjakaaaaDoor.Z Go.Proofs.YtaflofcnjakaaaaDoor.A
set_option linter.unusedVariables false
set_option linter.unusedSimpArgs false
theorem w64d (x : Int) (h0 : -9223372036854775808 ≤ x) (h1 : x < 9223372036854775808) : wrap64 x = x := by unfold wrap64; omega
theorem rd106 (l : List S106) (j : Nat) (h : j < l.length) : rd_T106 l (j : Int) = l[j] := by
  unfold rd_T106
  rw [Int.toNat_natCast, List.getD_eq_getElem?_getD, List.getElem?_eq_getElem h]
  rfl
def wOf (l : List S106) (n : Int) : List (List Int) := (l.filter (fun x => decide (x.f0 = n))).map (·.f1)
theorem wOf_snoc (l : List S106) (x : S106) (n : Int) : wOf (l ++ [x]) n = if x.f0 = n then wOf l n ++ [x.f1] else wOf l n := by
  unfold wOf
  rw [List.filter_append, List.map_append, List.filter_cons]
  by_cases e : x.f0 = n
  · rw [if_pos (by simpa using e), if_pos e]; rfl
  · rw [if_neg (by simpa using e), if_neg e]; simp
def lastR (l : List S106) (n : Int) : List Int := match (wOf l n).getLast? with | some b => b | none => zeros
theorem lastR_snoc (l : List S106) (x : S106) (n : Int) : lastR (l ++ [x]) n = if x.f0 = n then x.f1 else lastR l n := by
  unfold lastR
  rw [wOf_snoc]
  by_cases e : x.f0 = n
  · rw [if_pos e, if_pos e, List.getLast?_concat]
  · rw [if_neg e, if_neg e]
theorem wOf_filter (l : List S106) (a n : Int) (h : n ≠ a) : wOf (l.filter (fun x => decide (x.f0 ≠ a))) n = wOf l n := by
  unfold wOf
  rw [List.filter_filter]
  congr 1
  apply List.filter_congr
  intro x _
  by_cases e : x.f0 = n
  · rw [decide_eq_true e, decide_eq_true (show x.f0 ≠ a from fun e2 => h (e.symm.trans e2))]
    rfl
  · rw [decide_eq_false e, Bool.false_and]
theorem lastR_filter (l : List S106) (a n : Int) (h : n ≠ a) : lastR (l.filter (fun x => decide (x.f0 ≠ a))) n = lastR l n := by
  unfold lastR
  rw [wOf_filter l a n h]
def putR (l : List S106) (n : Int) (b : List Int) : List S106 := l.filter (fun x => decide (x.f0 ≠ n)) ++ [⟨n, b⟩]
theorem lastR_put (l : List S106) (a : Int) (b : List Int) (n : Int) : lastR (putR l a b) n = if a = n then b else lastR l n := by
  unfold putR
  rw [lastR_snoc]
  by_cases e : a = n
  · rw [if_pos e, if_pos e]
  · rw [if_neg e, if_neg e, lastR_filter l a n (fun h => e h.symm)]
theorem putR_len (l : List S106) (n : Int) (b : List Int) : (putR l n b).length ≤ l.length + 1 := by
  unfold putR
  rw [List.length_append, List.length_singleton]
  have := List.length_filter_le (fun x => decide (x.f0 ≠ n)) l
  omega
theorem take_succ106 (l : List S106) (j : Nat) (h : j < l.length) : l.take (j + 1) = l.take j ++ [l[j]] := List.take_succ_eq_append_getElem h
theorem put_l0 (l : List S106) (n : Int) (b : List Int) (hl : l.length ≤ 1000000) : ∀ m j, j + m = l.length → ∀ d, kilnref3_put.l0 (m + 1 + d) l n b ((l.take j).filter (fun x => decide (x.f0 ≠ n))) (j : Int) = some (putR l n b)
  | 0, j, h, d => by
    have hf := List.length_filter_le (fun x : S106 => decide (x.f0 ≠ n)) (l.take j)
    have ht := List.length_take_le j l
    rw [show 0 + 1 + d = d + 1 by omega]
    unfold kilnref3_put.l0
    rw [if_neg (by omega), if_pos (by omega), List.take_of_length_le (by omega)]
    rfl
  | m + 1, j, h, d => by
    have ih := put_l0 l n b hl m (j + 1) (by omega) d
    have hf := List.length_filter_le (fun x : S106 => decide (x.f0 ≠ n)) (l.take j)
    have ht := List.length_take_le j l
    rw [take_succ106 l j (by omega), List.filter_append] at ih
    rw [show m + 1 + 1 + d = (m + 1 + d) + 1 by omega]
    unfold kilnref3_put.l0
    rw [if_pos (by omega), if_pos (by omega), rd106 l j (by omega), w64d _ (by omega) (by omega)]
    by_cases e : l[j].f0 = n
    · rw [if_pos e]
      rw [List.filter_cons, if_neg (by simpa using e), List.filter_nil, List.append_nil] at ih
      exact ih
    · rw [if_neg e, if_pos (by omega)]
      rw [List.filter_cons, if_pos (by simpa using e), List.filter_nil] at ih
      exact ih
theorem put_ev (l : List S106) (n : Int) (b : List Int) (hl : l.length ≤ 1000000) : ∀ k, l.length + 1 ≤ k → kilnref3_put.f k l n b = some (putR l n b) := fun k hk => by
  have h := put_l0 l n b hl l.length 0 (by omega) (k - (l.length + 1))
  rw [show l.length + 1 + (k - (l.length + 1)) = k by omega] at h
  exact h
theorem lasts_l0 (l l2 : List S106) (n a r wr fl : Int) (hl : l.length ≤ 1000000) : ∀ m, m ≤ l.length → ∀ d, kilnref3_lasts.l0 (m + 1 + d) n ((m : Int) - 1) a l l2 r wr fl = some (lastR (l.take m) n)
  | 0, h, d => by
    rw [show 0 + 1 + d = d + 1 by omega]
    unfold kilnref3_lasts.l0
    rw [if_neg (by omega)]
    show (kilnref3_Zeros.f).bind _ = _
    rw [show kilnref3_Zeros.f = some zeros from if_pos (by decide)]
    rfl
  | m + 1, h, d => by
    have ih := lasts_l0 l l2 n a r wr fl hl m (by omega) d
    rw [show m + 1 + 1 + d = (m + 1 + d) + 1 by omega, take_succ106 l m (by omega), lastR_snoc]
    unfold kilnref3_lasts.l0
    rw [show ((m + 1 : Nat) : Int) - 1 = (m : Int) by omega, if_pos (by omega), if_pos (by omega), if_pos (by omega), rd106 l m (by omega)]
    by_cases e : l[m].f0 = n
    · rw [if_pos e, if_pos e]
    · rw [if_neg e, if_neg e, w64d _ (by omega) (by omega)]
      exact ih
theorem lasts_ev (l l2 : List S106) (n a r wr fl : Int) (hl : l.length ≤ 1000000) : ∀ k, l.length + 1 ≤ k → kilnref3_lasts.f k a l l2 r wr fl n = some (lastR l n) := fun k hk => by
  have h := lasts_l0 l l2 n a r wr fl hl l.length (Nat.le_refl _) (k - (l.length + 1))
  rw [show l.length + 1 + (k - (l.length + 1)) = k by omega, List.take_length] at h
  unfold kilnref3_lasts.f
  rw [w64d _ (by omega) (by omega)]
  exact h
def nowR (l1 l2 : List S106) (n : Int) : List Int := match (wOf l2 n).getLast? with | some b => b | none => lastR l1 n
theorem nowR_snoc (l1 l : List S106) (x : S106) (n : Int) : nowR l1 (l ++ [x]) n = if x.f0 = n then x.f1 else nowR l1 l n := by
  unfold nowR
  rw [wOf_snoc]
  by_cases e : x.f0 = n
  · rw [if_pos e, if_pos e, List.getLast?_concat]
  · rw [if_neg e, if_neg e]
def Sho (l : List S106) : Prop := ∀ x ∈ l, x.f1.length ≤ 1000000
theorem copy_ok (b : List Int) (h : b.length ≤ 1000000) : kilnref3_Copy.f b = some b := if_pos (by omega)
theorem now_l0 (l1 l2 : List S106) (n a r wr fl : Int) (h1 : l1.length ≤ 1000000) (h2 : l2.length ≤ 1000000) (hs : Sho l2) (hz : (lastR l1 n).length ≤ 1000000) : ∀ m, m ≤ l2.length → ∀ d, l1.length ≤ d → kilnref3_Now.l0 (m + 1 + (d + 1)) n ((m : Int) - 1) a l1 l2 r wr fl = some (nowR l1 (l2.take m) n)
  | 0, h, d, hd => by
    rw [show 0 + 1 + (d + 1) = (d + 1) + 1 by omega]
    unfold kilnref3_Now.l0
    rw [if_neg (by omega), lasts_ev l1 l2 n a r wr fl h1 (d + 1) (by omega), Option.bind_some, copy_ok _ hz]
    rfl
  | m + 1, h, d, hd => by
    have ih := now_l0 l1 l2 n a r wr fl h1 h2 hs hz m (by omega) d hd
    rw [show m + 1 + 1 + (d + 1) = (m + 1 + (d + 1)) + 1 by omega, take_succ106 l2 m (by omega), nowR_snoc]
    unfold kilnref3_Now.l0
    rw [show ((m + 1 : Nat) : Int) - 1 = (m : Int) by omega, if_pos (by omega), if_pos (by omega), if_pos (by omega), rd106 l2 m (by omega)]
    by_cases e : l2[m].f0 = n
    · rw [if_pos e, if_pos e, copy_ok _ (hs _ (List.getElem_mem _))]
      rfl
    · rw [if_neg e, if_neg e, w64d _ (by omega) (by omega)]
      exact ih
theorem now_ev (l1 l2 : List S106) (n a r wr fl : Int) (h1 : l1.length ≤ 1000000) (h2 : l2.length ≤ 1000000) (hs : Sho l2) (hz : (lastR l1 n).length ≤ 1000000) : ∀ k, l1.length + l2.length + 2 ≤ k → kilnref3_Now.f k a l1 l2 r wr fl n = some (nowR l1 l2 n) := fun k hk => by
  have h := now_l0 l1 l2 n a r wr fl h1 h2 hs hz l2.length (Nat.le_refl _) (k - (l2.length + 2)) (by omega)
  rw [show l2.length + 1 + (k - (l2.length + 2) + 1) = k by omega, List.take_length] at h
  unfold kilnref3_Now.f
  rw [w64d _ (by omega) (by omega)]
  exact h
theorem write_l0 (l1 l2 : List S106) (n a r wr fl : Int) (b : List Int) (hb : b.length ≤ 1000000) (h2 : l2.length ≤ 1000000) : ∀ m j, j + m = l2.length → ∀ d, kilnref3_Write.l0 (m + 1 + d) n b (l2.take j) (j : Int) a l1 l2 r wr fl = some (a, l1, l2 ++ [⟨n, b⟩], r, wrap64 (wr + 1), fl, 0)
  | 0, j, h, d => by
    rw [show 0 + 1 + d = d + 1 by omega, List.take_of_length_le (by omega)]
    unfold kilnref3_Write.l0
    rw [if_neg (by omega), copy_ok b hb, Option.bind_some, if_pos (by omega)]
  | m + 1, j, h, d => by
    have ih := write_l0 l1 l2 n a r wr fl b hb h2 m (j + 1) (by omega) d
    have ht := List.length_take_le j l2
    rw [take_succ106 l2 j (by omega)] at ih
    rw [show m + 1 + 1 + d = (m + 1 + d) + 1 by omega]
    unfold kilnref3_Write.l0
    rw [if_pos (by omega), if_pos (by omega), if_pos (by omega), rd106 l2 j (by omega), w64d _ (by omega) (by omega)]
    exact ih
theorem write_ev (l1 l2 : List S106) (n i : Nat) (hi : i < n) (r wr fl : Int) (b : List Int) (hb : b.length = 512) (h2 : l2.length ≤ 1000000) : ∀ k, l2.length + 2 ≤ k → kilnref3_Write.f k (n : Int) l1 l2 r wr fl (i : Int) b = some ((n : Int), l1, l2 ++ [⟨(i : Int), b⟩], r, wrap64 (wr + 1), fl, 0) := fun k hk => by
  have h := write_l0 l1 l2 (i : Int) (n : Int) r wr fl b (by omega) h2 l2.length 0 (by omega) (k - (l2.length + 2))
  obtain ⟨q, rfl⟩ : ∃ q, k = q + 1 := ⟨k - 1, by omega⟩
  rw [show l2.length + 1 + (q + 1 - (l2.length + 2)) = q by omega] at h
  unfold kilnref3_Write.f
  rw [if_neg (by omega), decide_eq_false (by omega)]
  rw [kilnref3_Write.j0.eq_2]
  rw [if_neg (by decide), if_pos (by omega)]
  exact h
def flushR (l1 : List S106) : List S106 → List S106 := fun l2 => l2.foldl (fun l x => putR l x.f0 x.f1) l1
theorem flushR_snoc (l1 l : List S106) (x : S106) : flushR l1 (l ++ [x]) = putR (flushR l1 l) x.f0 x.f1 := by unfold flushR; rw [List.foldl_append]; rfl
theorem flushR_len (l1 l : List S106) : (flushR l1 l).length ≤ l1.length + l.length := by
  induction l generalizing l1 with
  | nil => exact Nat.le_refl _
  | cons x l ih =>
    have h := ih (putR l1 x.f0 x.f1)
    have h2 := putR_len l1 x.f0 x.f1
    show (flushR (putR l1 x.f0 x.f1) l).length ≤ _
    rw [List.length_cons]
    omega
theorem lastR_flush (l1 : List S106) (n : Int) (l2 : List S106) : ∀ m, m ≤ l2.length → lastR (flushR l1 (l2.take m)) n = nowR l1 (l2.take m) n
  | 0, _ => rfl
  | m + 1, h => by
    rw [take_succ106 l2 m (by omega), flushR_snoc, lastR_put, nowR_snoc, lastR_flush l1 n l2 m (by omega)]
theorem flush_l0 (l1 l2 : List S106) (a r wr fl : Int) (hl : l1.length + l2.length ≤ 1000000) : ∀ m j, j + m = l2.length → ∀ d, l1.length + l2.length + 1 ≤ d → kilnref3_Flush.l0 (m + 1 + d) (j : Int) a (flushR l1 (l2.take j)) l2 r wr fl = some (a, flushR l1 l2, [], r, wr, wrap64 (fl + 1))
  | 0, j, h, d, hd => by
    rw [show 0 + 1 + d = d + 1 by omega, List.take_of_length_le (by omega)]
    unfold kilnref3_Flush.l0
    rw [if_neg (by omega)]
  | m + 1, j, h, d, hd => by
    have ih := flush_l0 l1 l2 a r wr fl hl m (j + 1) (by omega) d hd
    have hfl := flushR_len l1 (l2.take j)
    have ht := List.length_take_le j l2
    have ht2 : (l2.take j).length ≤ l2.length := by rw [List.length_take]; omega
    rw [take_succ106 l2 j (by omega), flushR_snoc] at ih
    rw [show m + 1 + 1 + d = (m + 1 + d) + 1 by omega]
    unfold kilnref3_Flush.l0
    rw [if_pos (by omega), if_pos (by omega), rd106 l2 j (by omega), put_ev _ _ _ (by omega) _ (by omega), Option.bind_some, w64d _ (by omega) (by omega)]
    exact ih
theorem flush_ev (l1 l2 : List S106) (a r wr fl : Int) (hl : l1.length + l2.length ≤ 1000000) : ∀ k, 2 * (l1.length + l2.length) + 2 ≤ k → kilnref3_Flush.f k a l1 l2 r wr fl = some (a, flushR l1 l2, [], r, wr, wrap64 (fl + 1)) := fun k hk => by
  have h := flush_l0 l1 l2 a r wr fl hl l2.length 0 (by omega) (k - (l2.length + 1)) (by omega)
  rw [show l2.length + 1 + (k - (l2.length + 1)) = k by omega] at h
  exact h
def Ent (n : Nat) (x : S106) : Prop := (∃ i : Nat, i < n ∧ x.f0 = (i : Int)) ∧ x.f1.length = 512
structure Rl (s : DS) (l1 l2 : List S106) : Prop where
  len : s.L.length = s.n
  e1 : ∀ x ∈ l1, Ent s.n x
  e2 : ∀ x ∈ l2, Ent s.n x
  hL : ∀ i, i < s.n → lastR l1 (i : Int) = s.L.getD i []
  hW : ∀ i, i < s.n → wOf l2 (i : Int) = s.W i
theorem mem_wOf {l : List S106} {n : Int} {b : List Int} (h : b ∈ wOf l n) : ∃ x ∈ l, x.f0 = n ∧ x.f1 = b := by
  unfold wOf at h
  obtain ⟨x, hx, rfl⟩ := List.mem_map.1 h
  obtain ⟨h1, h2⟩ := List.mem_filter.1 hx
  exact ⟨x, h1, by simpa using h2, rfl⟩
theorem lastR_len {l : List S106} {n : Nat} (h : ∀ x ∈ l, Ent n x) (a : Int) : (lastR l a).length = 512 := by
  unfold lastR
  cases e : (wOf l a).getLast? with
  | none => exact zeros_len
  | some b =>
    obtain ⟨x, hx, _, rfl⟩ := mem_wOf (List.mem_of_getLast? e)
    exact (h x hx).2
theorem putR_ent' {l : List S106} {n : Nat} (h : ∀ x ∈ l, Ent n x) (y : S106) (hy : Ent n y) : ∀ x ∈ putR l y.f0 y.f1, Ent n x := by
  intro x hx
  unfold putR at hx
  rcases List.mem_append.1 hx with hx | hx
  · exact h x (List.mem_filter.1 hx).1
  · rw [List.mem_singleton.1 hx]; exact hy
section
variable {s : DS} {l1 l2 : List S106}
theorem Rl.now (h : Rl s l1 l2) (i : Nat) (hi : i < s.n) : nowR l1 l2 (i : Int) = s.cur i := by
  unfold nowR DS.cur
  rw [h.hW i hi]
  cases (s.W i).getLast? with
  | none => exact h.hL i hi
  | some b => rfl
theorem Rl.sho (h : Rl s l1 l2) : Sho l2 := fun x hx => by rw [(h.e2 x hx).2]; decide
theorem Rl.put (h : Rl s l1 l2) (i : Nat) (hi : i < s.n) (b : List Int) (hb : b.length = 512) : Rl (s.put i b) l1 (l2 ++ [⟨(i : Int), b⟩]) :=
  ⟨h.len, h.e1, fun x hx => by
    rcases List.mem_append.1 hx with hx | hx
    · exact h.e2 x hx
    · rw [List.mem_singleton.1 hx]; exact ⟨⟨i, hi, rfl⟩, hb⟩, h.hL, fun j hj => by
    rw [wOf_snoc, h.hW j hj]
    show (if (i : Int) = (j : Int) then s.W j ++ [b] else s.W j) = (if j = i then s.W i ++ [b] else s.W j)
    by_cases e : j = i
    · subst e; rw [if_pos rfl, if_pos rfl]
    · rw [if_neg (by omega), if_neg e]⟩
theorem flushR_ent {n : Nat} : ∀ (l2 l1 : List S106), (∀ x ∈ l1, Ent n x) → (∀ x ∈ l2, Ent n x) → ∀ x ∈ flushR l1 l2, Ent n x
  | [], l1, h1, _ => h1
  | y :: l2, l1, h1, h2 => flushR_ent l2 (putR l1 y.f0 y.f1) (putR_ent' h1 y (h2 y List.mem_cons_self)) (fun x hx => h2 x (List.mem_cons_of_mem _ hx))
theorem Rl.flush (h : Rl s l1 l2) : Rl s.flush (flushR l1 l2) [] :=
  ⟨by show ((List.range s.n).map s.cur).length = s.n; rw [List.length_map, List.length_range], flushR_ent l2 l1 h.e1 h.e2, fun x hx => (by cases hx), fun i hi => by
    have h1 := lastR_flush l1 (i : Int) l2 l2.length (Nat.le_refl _)
    rw [List.take_length, h.now i hi] at h1
    rw [h1]
    show _ = ((List.range s.n).map s.cur).getD i []
    rw [List.getD_eq_getElem?_getD, List.getElem?_map, List.getElem?_range (show i < s.n from hi)]
    rfl, fun i hi => rfl⟩
theorem Rl.fresh (n : Nat) : Rl (DS.fresh n (List.replicate n zeros)) [] [] :=
  ⟨List.length_replicate, fun x hx => (by cases hx), fun x hx => (by cases hx), fun i hi => by
    show zeros = (List.replicate n zeros).getD i []
    rw [List.getD_eq_getElem?_getD, List.getElem?_replicate, if_pos (show i < n from hi)]
    rfl, fun i hi => rfl⟩
end
end Go.Proofs.YtaflofcnjakaaaaDoor.M

namespace Go.Proofs.YtaflofcnjakaaaaDoor.M
open Go.RowKit Go.Maps Go.Proofs.YtaflofcnjakaaaaDoorW.PrintWords Go.Proofs.YtaflofcnjakaaaaDoorW.PrintLast Go.Proofs.YtaflofcnjakaaaaDoorW.PrintMore Go.Proofs.YtaflofcnjakaaaaDoor.Pl
set_option linter.unusedVariables false
def kSL : Kd SL where
  sz := 105
  E := []
  K := fun _ x cs => x.Ok ∧ cs = x.V
  M := fun _ _ _ x cs => x.Ok ∧ cs = x.V
  K_len := by rintro w x cs ⟨h, rfl⟩; exact SL.V_len h
  K_one := by
    rintro w x cs ⟨h, rfl⟩ u hu
    exact Array.all_eq_true'.1 (SL.V_all x) u (by simpa using hu)
  K_below := fun _ h => h
  K_of_M := fun h => h
  M_mono := fun _ h => h
  M_bound := fun h => h
  M_move := fun _ h => h
  M_lower := fun _ h => h
structure T61 where
  f0 : Int
  s : SL
  b : Int
  raw : List Int
def z61 : T61 := ⟨0, noSL, 0, []⟩
def k61 : Kd T61 := Kd.iso (Kd.pair (Kd.int .i64) (Kd.pair kSL (Kd.pair (Kd.int .i64) (Kd.slice 5 (Kd.int .u8))))) (fun x : T61 => (x.f0, x.s, x.b, x.raw))
def putC (x : T61) (A3 : Option Addr) (c3 : Nat) : List Value := [Value.int .i64 x.f0] ++ (x.s.V ++ [.int .i64 x.b, .slice A3 x.raw.length c3])
theorem k61_open {w : World} {x : T61} {cs : List Value} (h : k61.K w x cs) : x.s.Ok ∧ ∃ A3 c3, cs = putC x A3 c3 ∧ x.raw.length ≤ c3 ∧ (Kd.int .u8).C w A3 x.raw.length x.raw := by
  obtain ⟨_, _, rfl, rfl, ⟨_, _, rfl, ⟨h1, rfl⟩, ⟨_, _, rfl, rfl, ⟨A3, c3, rfl, l3, g3⟩⟩⟩⟩ := h
  exact ⟨h1, A3, c3, rfl, l3, g3⟩
theorem k61_mk (w : World) (x : T61) (hs : x.s.Ok) {A3 : Option Addr} {c3 : Nat} (l3 : x.raw.length ≤ c3) (g3 : (Kd.int .u8).C w A3 x.raw.length x.raw) : k61.K w x (putC x A3 c3) :=
  ⟨[.int .i64 x.f0], _, rfl, rfl, ⟨x.s.V, _, rfl, ⟨hs, rfl⟩, ⟨[.int .i64 x.b], _, rfl, rfl, ⟨A3, c3, rfl, l3, g3⟩⟩⟩⟩
theorem putC_len {x : T61} (hs : x.s.Ok) (A3 : Option Addr) (c3 : Nat) : (putC x A3 c3).length = 108 := by
  unfold putC
  rw [List.length_append, List.length_append, SL.V_len hs]; rfl
theorem at_T61 {w : World} {A : Option Addr} {n : Nat} {xs : List T61} (h : Kd.C k61 w A n xs) (i : Nat) (h1 : i < n) : (xs.getD i z61).s.Ok ∧ ∃ ad A3 c3, A = some ad ∧ (∀ j v, (putC (xs.getD i z61) A3 c3)[j]? = some v → w.cell? (ad.add (i * 108 + j)) = some v) ∧ (xs.getD i z61).raw.length ≤ c3 ∧ (Kd.int .u8).C w A3 (xs.getD i z61).raw.length (xs.getD i z61).raw := by
  obtain ⟨ad, c, e, _, hK, hc0⟩ := Kd.C_get h z61 (i : Int) (by omega) (by omega)
  obtain ⟨hs, A3, c3, rfl, l3, g3⟩ := k61_open hK
  exact ⟨hs, ad, A3, c3, e, hc0, l3, g3⟩
end Go.Proofs.YtaflofcnjakaaaaDoor.M
namespace Go.Proofs.YtaflofcnjakaaaaDoor.BulkW
open Go.ChangeShapes Go.WideShapes Go.Proofs.YtaflofcnjakaaaaDoorW.PrintWords Go.Proofs.YtaflofcnjakaaaaDoor.M Go.Proofs.YtaflofcnjakaaaaDoor.Pl Go.Proofs.YtaflofcnjakaaaaDoor.A
set_option linter.unusedVariables false
section
variable {H : Type} {enc : TypeId × Value → H} {W : World} {base : Nat} {spare : Nat → Bool} {held : Bool}
set_option maxRecDepth 100000 in
theorem opens_28b : Opens enc Tryd.prog W base spare held 28 (Kd.slice 5 (Kd.int .u8)) (fun ys => bytes_ ys) := fun f cs x h hw => by
  obtain ⟨y, h1, _, h2⟩ := opens_slice (q := 5) (d := Kd.int .u8) Tryd.underlying28 (by kernel_rfl) (opens_int Tryd.underlying5) f cs x h hw
  exact ⟨y, h1, fun v hv => Bulk.bound_u8 (h2 v hv)⟩
set_option maxRecDepth 100000 in
theorem opens_61 : Opens enc Tryd.prog W base spare held 61 k61 (fun y => bytes_ y.raw) := by
  intro fuel cs x h hw
  obtain ⟨xs, n, _, rfl, hl, hx, hf⟩ := DataW.trod_struct Tryd.underlying61 h
  rw [show Tryd.prog.cellsOf 61 = 108 by kernel_rfl] at hl
  obtain ⟨x0, x1, x2, x3, rfl⟩ : ∃ x0 x1 x2 x3, xs = [x0, x1, x2, x3] := by
    match xs, hx with
    | [x0, x1, x2, x3], _ => exact ⟨x0, x1, x2, x3, rfl⟩
  have hw1 : ∀ n ∈ x0.1.weights Tryd.prog 3 ++ (x1.1.weights Tryd.prog 27 ++ (x2.1.weights Tryd.prog 3 ++ (x3.1.weights Tryd.prog 28 ++ []))), n ≤ reachBytes := by
    have h1 := hw
    dsimp only at h1
    unfold DataW.weights at h1
    rw [Tryd.underlying61] at h1
    exact h1
  have q3 : Tryd.prog.cellsOf 3 = 1 := by kernel_rfl
  have q27 : Tryd.prog.cellsOf 27 = 105 := by kernel_rfl
  have q28 : Tryd.prog.cellsOf 28 = 1 := by kernel_rfl
  have f0 : DataW.trod enc Tryd.prog W base spare held n 3 ((cs.drop 0).take (Tryd.prog.cellsOf 3)) = some x0 := hf 0 _ rfl
  have f1 : DataW.trod enc Tryd.prog W base spare held n 27 ((cs.drop 1).take (Tryd.prog.cellsOf 27)) = some x1 := hf 1 _ rfl
  have f2 : DataW.trod enc Tryd.prog W base spare held n 3 ((cs.drop 106).take (Tryd.prog.cellsOf 3)) = some x2 := hf 2 _ rfl
  have f3 : DataW.trod enc Tryd.prog W base spare held n 28 ((cs.drop 107).take (Tryd.prog.cellsOf 28)) = some x3 := hf 3 _ rfl
  rw [q3] at f0 f2
  rw [q27] at f1
  rw [q28] at f3
  obtain ⟨a, g0⟩ := Bulk.opens_i64 f0
  obtain ⟨s, hs, g1⟩ := Bulk.opens_slot f1
  obtain ⟨b, g2⟩ := Bulk.opens_i64 f2
  obtain ⟨raw, ⟨A3, c3, g3, l3, r3⟩, hraw⟩ := opens_28b _ _ _ f3 (fun n hn => hw1 n (by simp only [List.mem_append]; exact .inr (.inr (.inr (.inl hn)))))
  have c0 := Bulk.cut_ cs 0 1 g0
  have c1 := Bulk.cut_ cs 1 105 g1
  have c2 := Bulk.cut_ cs 106 1 g2
  have c4 := Bulk.cut_ cs 107 1 g3
  rw [List.drop_zero] at c0
  have e : cs = putC ⟨a, s, b, raw⟩ A3 c3 := by
    rw [c0, c1, c2, c4, List.drop_eq_nil_of_le (show cs.length ≤ 107 + 1 by omega)]
    rfl
  rw [e]
  exact ⟨⟨a, s, b, raw⟩, k61_mk W ⟨a, s, b, raw⟩ hs l3 r3, hraw⟩
theorem arg_59 {a : Option Addr} {len cap : Nat} {dd : DataW H} {ps : List MemPlace}
    (h : DataW.Trod enc Tryd.prog W base spare held 59 (.slice a len cap) dd ps) (hw : ∀ n ∈ dd.weights Tryd.prog 59, n ≤ reachBytes) : ∃ l, len = l.length ∧ l.length ≤ cap ∧ Kd.C k61 W a l.length l ∧ l.length ≤ 9223372036854775807 ∧ ∀ y ∈ l, bytes_ y.raw := by
  obtain ⟨l, h1, h2, h3, h4, h5⟩ := arg_full (q := 61) (opens_slice Tryd.underlying59 (by kernel_rfl) opens_61) h hw
  exact ⟨l, h1, h2, h3, h4, h5.2⟩
end
end Go.Proofs.YtaflofcnjakaaaaDoor.BulkW

namespace Go.Proofs.YtaflofcnjakaaaaDoor.M
open Go.RowKit Go.Maps Go.Proofs.YtaflofcnjakaaaaDoorW.PrintWords Go.Proofs.YtaflofcnjakaaaaDoorW.PrintLast Go.Proofs.YtaflofcnjakaaaaDoorW.PrintMore Go.Proofs.YtaflofcnjakaaaaDoor.Wr Go.Proofs.YtaflofcnjakaaaaDoor.Pl Go.Proofs.YtaflofcnjakaaaaDoor.P Go.Proofs.YtaflofcnjakaaaaDoor.A Go.Proofs.YtaflofcnjakaaaaDoor.Crc
set_option linter.unusedVariables false
set_option linter.unusedSimpArgs false
def by6_T : Bool × List (List Nat × List Nat) := (true, [([], []), ([], []), ([1], [1]), ([2], [2]), ([], []), ([], []), ([5], [5]), ([6], [6]), ([4, 7], [4, 7]), ([8], [8]), ([], []), ([10], [10]), ([11], [11]), ([12], [12]), ([9, 13], [9, 13]), ([0, 3, 0, 1, 2, 3, 4, 5, 6, 7, 8, 9, 10, 11, 12, 13, 14], [0, 3]), ([15, 14, 0, 1, 2, 3, 4, 5, 6, 7, 8, 9, 10, 11, 12, 13, 14], [14, 15])])
def by6_B : List Nat := [0, 0, 2, 6, 0, 0, 32, 96, 240, 496, 0, 1024, 3072, 7168, 16368, 32767, 65535]
theorem by6_tab : rtab .any (opsOf Tryd.f26 6) = by6_T := by kernel_rfl
theorem by6_bits : waitsOk by6_T.2 by6_B = true := by kernel_rfl
def bytB0 (x : T61) : List Int := if mayM x.s = true then encB x.s else x.raw.take (min x.raw.length 512) ++ (List.replicate 512 0).drop (min x.raw.length 512)
def bytB (x : T61) : List Int := if 0 ≤ x.b ∧ x.b < 4096 then flip1 (bytB0 x) x.b else bytB0 x
theorem bytB0_len {x : T61} (hs : x.s.Ok) : (bytB0 x).length = 512 := by
  unfold bytB0
  split
  · exact encB_len hs
  · rw [List.length_append, List.length_take, List.length_drop, List.length_replicate]; omega
theorem bytB0_bytes {x : T61} (hs : x.s.Ok) (hr : bytes_ x.raw) : bytes_ (bytB0 x) := by
  unfold bytB0
  split
  · exact bytes_encB hs
  · exact bytes_append (bytes_take hr _) (bytes_drop zeros_bytes _)
theorem bytB_len {x : T61} (hs : x.s.Ok) : (bytB x).length = 512 := by
  unfold bytB
  split
  · rw [flip1_len, bytB0_len hs]
  · exact bytB0_len hs
theorem bytB_bytes {x : T61} (hs : x.s.Ok) (hr : bytes_ x.raw) : bytes_ (bytB x) := by
  unfold bytB
  split
  · exact bytes_flip (bytB0_bytes hs hr) _
  · exact bytB0_bytes hs hr
theorem putC_slot {x : T61} (hs : x.s.Ok) (A3 : Option Addr) (c3 : Nat) : ((putC x A3 c3).drop 1).take x.s.V.length = x.s.V := by
  show (x.s.V ++ _).take _ = _
  exact take_app rfl
theorem putC_bit {x : T61} (hs : x.s.Ok) (A3 : Option Addr) (c3 : Nat) : (putC x A3 c3)[106]? = some (.int .i64 x.b) ∧ (putC x A3 c3)[107]? = some (.slice A3 x.raw.length c3) := by
  have e : ∀ j, (putC x A3 c3)[105 + 1 + j]? = [Value.int .i64 x.b, .slice A3 x.raw.length c3][j]? := fun j => by
    unfold putC
    rw [show 105 + 1 + j = (105 + j) + 1 by omega, List.getElem?_append_right (by simp), List.length_singleton, Nat.add_sub_cancel, List.getElem?_append_right (by rw [SL.V_len hs]; omega), SL.V_len hs, Nat.add_sub_cancel_left]
  exact ⟨e 0, e 1⟩
set_option maxHeartbeats 8000000 in
set_option maxRecDepth 100000 in
theorem Sep.bytesP {w0 w : World} {M L : List Th} (h : Sep w0 w M) (x : T61) (hs : x.s.Ok) (A3 : Option Addr) (c3 : Nat) (hraw : ∀ W N, Sub L N → Sep w0 W N → (Kd.int .u8).C W A3 x.raw.length x.raw) (hsub : Sub L M) (hr : bytes_ x.raw) (hc3 : x.raw.length ≤ c3) :
    Calls Tryd.prog 26 #[.agg (putC x A3 c3).toArray] w fun e w' => ∃ A c, e = .returned (.slice A 512 c) ∧ 512 ≤ c ∧ Sep w0 w' (ownT (Kd.int .u8) 5 (.slice A 512 c) (bytB x) :: M) := by
  have HS0 := Aside0.mk (h.push_alloc (putC x A3 c3).toArray 61)
  have HSub := Aside0.mk hsub
  have HRaw := Aside0.mk hraw
  have HSL := Aside0.mk (fun W (N : List Th) g (h : Sep w0 W (cellsT g (putC x A3 c3).toArray 61 :: N)) => (show ∀ j v, x.s.V.toArray.toList[j]? = some v → W.cell? ((⟨g, 1, none⟩ : Addr).add j) = some v from fun j v hv => seg_at h.cells.1 1 x.s.V (putC_slot hs A3 c3) j v (by simpa using hv)))
  have HBT := Aside0.mk (fun W (N : List Th) g (h : Sep w0 W (cellsT g (putC x A3 c3).toArray 61 :: N)) => (show W.cell? ⟨g, 106, none⟩ = some (.int .i64 x.b) ∧ W.cell? ⟨g, 107, none⟩ = some (.slice A3 x.raw.length c3) from ⟨cell_at h.cells.1 106 (putC_bit hs A3 c3).1, cell_at h.cells.1 107 (putC_bit hs A3 c3).2⟩))
  have HSZ := Aside0.mk (SlAt.sa hs)
  have HLN := Aside0.mk (bytB0_len hs)
  have HBY := Aside0.mk (bytB0_bytes hs hr)
  have HB1 := Aside0.mk (show 0 ≤ x.b → x.b < 4096 → bytB x = flip1 (bytB0 x) x.b from fun h1 h2 => if_pos ⟨h1, h2⟩)
  have HB2 := Aside0.mk (show ¬ (0 ≤ x.b ∧ x.b < 4096) → bytB x = bytB0 x from fun h => if_neg h)
  have HTail := Aside0.mk (show ∀ (w2 : World), True from fun _ => trivial)
  have HB0y := Aside0.mk (show mayM x.s = true → bytB0 x = encB x.s from fun h => if_pos h)
  have HB0n := Aside0.mk (show mayM x.s = false → bytB0 x = x.raw.take (min x.raw.length 512) ++ (List.replicate 512 0).drop (min x.raw.length 512) from fun h => if_neg (by rw [h]; simp))
  have HEN := Aside0.mk (fun (hm : mayM x.s = true) W (N : List Th) (h : Sep w0 W N) => Sep.encodeR h x.s hs hm)
  have HEX := Aside0.mk (fun (hm : mayM x.s = false) W => encodeR_no x.s hs hm W)
  have hrl : x.raw.length ≤ 9223372036854775807 := (hraw w M hsub h).2.1
  clear h hs hraw hsub hr hc3
  generalize (putC x A3 c3).toArray = PC at HS0 HSL HBT ⊢
  generalize x.s.V.toArray = V at HEN HEX HSL HSZ
  go_enter Tryd.func26, Tryd.ntmps26
  go_upto_region 1 with (fail)
  generalize w.alloc (.cells PC 61) = w1 at HS0 ⊢
  generalize w.heap.size = gp at HS0 ⊢
  cases hm : mayM x.s with
  | true =>
    go_upto_region 5 with (first
      | ((with_reducible refine gate_load (ty := 27) rfl ?_); refine wpList_ldw ?_ 27 _ rfl ⟨gp, 1, none⟩ ?_ V _ (HSL.out _ _ _ HS0.out) Tryd.underlying27 rfl HSZ.out ?_; exact rfl; exact rfl; skip)
      | (go_at_call 13; (with_reducible refine (HEN.out hm _ _ HS0.out).mono ?_); rintro e w2 ⟨A, c, rfl, h2⟩; have HS2 := Aside0.mk h2; clear h2))
    have HSa := Aside0.mk (show Sep w0 w2 (ownT (Kd.int .u8) 5 (.slice A 512 c) (bytB0 x) :: cellsT gp PC 61 :: M) from by rw [HB0y.out hm]; exact HS2.out)
    clear HS2 HS0
    obtain ⟨gb, rfl⟩ : ∃ gb, A = some ⟨gb, 0, none⟩ := by
      obtain ⟨_, _, hr⟩ := HSa.out.own
      obtain ⟨bw, cw, e2, _, _, _⟩ := Kd.R_form hr (by rw [HLN.out]; decide)
      simp only [Value.slice.injEq] at e2
      exact ⟨bw, e2.1⟩
    generalize w2 = wx at HSa ⊢
    have hp0 : wx.cell? ⟨gp, 106, none⟩ = some (.int .i64 x.b) := (HBT.out _ _ _ HSa.out.up1).1
    have HCA := Aside0.mk (show 512 ≤ c from by have := HSa.out.own_C.2; rwa [HLN.out] at this)
    by_cases h0 : 0 ≤ x.b
    · by_cases h1 : x.b < 4096
      · obtain ⟨q, k, hq, hk, hbit⟩ : ∃ q k : Nat, q < 512 ∧ k < 8 ∧ x.b = ((8 * q + k : Nat) : Int) := ⟨x.b.toNat / 8, x.b.toNat % 8, by omega, by omega, by omega⟩
        have HX := Aside0.mk (HSa.out.cell (0 : Int) q hq)
        have hxb := HBY.out _ (getD_mem (show q < (bytB0 x).length by rw [HLN.out]; exact hq))
        have HXB := Aside0.mk hxb
        have HSET := Aside0.mk (show (bytB0 x).set q (xorI ((bytB0 x).getD q 0) (2 ^ k)) = bytB x from by
          rw [HB1.out h0 h1]
          unfold flip1
          rw [hbit, HLN.out, if_pos (by omega), Int.toNat_natCast, show (8 * q + k) / 8 = q by omega, show (8 * q + k) % 8 = k by omega])
        have HSy := Aside0.mk (HSa.out.step (below_drew1 (Below.refl wx.heap.size wx)))
        generalize hx0e : (bytB0 x).getD q 0 = x0 at HX HXB HSET hxb
        generalize x.b = bit at *
        have hd : bit.tdiv 8 = (q : Int) := by rw [hbit, Int.tdiv_eq_ediv_of_nonneg (by omega)]; omega
        have hr : bit.tmod 8 = (k : Int) := by rw [hbit, Int.tmod_eq_emod_of_nonneg (by omega)]; omega
        have hk0 : (0 : Int) ≤ (k : Int) := by omega
        have hk1 : (k : Int) < 8 := by omega
        clear hbit
        go_upto_region 6 with (fail)
        have hx0 : wx.drew.cell? ⟨gb, q, none⟩ = some (.int .u8 x0) := by have := (HSy.out.cell (0 : Int) q hq).1; rwa [hx0e] at this
        have hf0 : wx.drew.frozen? ⟨gb, q, none⟩ = false := (HSy.out.cell (0 : Int) q hq).2
        clear hp0
        have hp0 : wx.drew.cell? ⟨gp, 106, none⟩ = some (.int .i64 bit) := (HBT.out _ _ _ HSy.out.up1).1
        have hq0 : (0 : Int) ≤ (q : Int) := by omega
        have hq1 : (q : Int) < 512 := by omega
        have hq2 : ((q : Int)).toNat = q := Int.toNat_natCast q
        have hwq : wrap64 (q : Int) = (q : Int) := by unfold wrap64; omega
        have hwk : IntKind.u8.wrap ((2 : Int) ^ k) = (2 : Int) ^ k := by
          rcases (show k = 0 ∨ k = 1 ∨ k = 2 ∨ k = 3 ∨ k = 4 ∨ k = 5 ∨ k = 6 ∨ k = 7 by omega) with rfl | rfl | rfl | rfl | rfl | rfl | rfl | rfl <;> rfl
        have hbx : bits .xor .u8 x0 ((2 : Int) ^ k) = xorI x0 (2 ^ k) := by
          have h2 : (0 : Int) ≤ 2 ^ k ∧ (2 : Int) ^ k < 256 ∧ ((2 : Int) ^ k).toNat = 2 ^ k := by
            rcases (show k = 0 ∨ k = 1 ∨ k = 2 ∨ k = 3 ∨ k = 4 ∨ k = 5 ∨ k = 6 ∨ k = 7 by omega) with rfl | rfl | rfl | rfl | rfl | rfl | rfl | rfl <;> decide
          rw [u8_xor x0 _ HXB.out.1 HXB.out.2 h2.1 h2.2.1, h2.2.2]
          rfl
        clear hx0e hxb HX HXB h0 h1
        refine start_ (n := 17) (S := fun W => W.cell? ⟨gb, q, none⟩ = some (.int .u8 x0) ∧ W.cell? ⟨gp, 106, none⟩ = some (.int .i64 bit)) (ds := [16]) (bb 17 0) (by kernel_rfl) rfl rfl (⟨hx0, hp0⟩) (fun hHeld => ?_); refine with_tabW by6_tab by6_bits (fun HT_ HW_ => ?_)
        generalize wx.drew = wd at hHeld HSy hx0 hf0 hp0 ⊢
        refine pure_ (i := 0) (N := (some 26)) (v := ?_) (a' := ?_) (bb 17 1) rfl rfl (any_of HT_.out (by kernel_rfl)) (fun _ _ _ h => h) (Or.inl ⟨by rfl, ?_⟩) ?_ ?_
        rotate_left
        · intro w'
          go_simp
          with_reducible rfl
        rotate_left
        · simp only [Act.put, List.setIfInBounds_toArray, List.set_cons_zero, List.set_cons_succ, i64_w, i32_w]
          rfl
        refine pure_ (i := 1) (N := (some 27)) (v := ?_) (a' := ?_) (bb 17 3) rfl rfl (any_of HT_.out (by kernel_rfl)) (fun _ _ _ h => h) (Or.inl ⟨by rfl, ?_⟩) ?_ ?_
        rotate_left
        · intro w'
          go_simp
          with_reducible rfl
        rotate_left
        · simp only [Act.put, List.setIfInBounds_toArray, List.set_cons_zero, List.set_cons_succ, i64_w, i32_w]
          rfl
        refine take_ (i := 2) (N := (some 28)) (v := ?_) (a' := ?_) (bb 17 7) rfl rfl (take_ofW HT_.out HW_.out (by kernel_rfl)) (fun _ _ _ h => h) (Or.inl ⟨by rfl, ?_⟩) hHeld ?_ ?_
        rotate_left
        · intro w' s0
          (try dsimp only at s0)
          go_simp
          with_reducible rfl
        rotate_left
        · simp only [Act.put, List.setIfInBounds_toArray, List.set_cons_zero, List.set_cons_succ, i64_w, i32_w]
          rfl
        refine pure_ (i := 3) (N := (some 29)) (v := ?_) (a' := ?_) (bb 17 15) rfl rfl (any_of HT_.out (by kernel_rfl)) (fun _ _ _ h => h) (Or.inl ⟨by rfl, ?_⟩) ?_ ?_
        rotate_left
        · intro w'
          go_simp
          with_reducible rfl
        rotate_left
        · simp only [Act.put, List.setIfInBounds_toArray, List.set_cons_zero, List.set_cons_succ, i64_w, i32_w]
          rfl
        refine pure_ (i := 4) (N := (some 30)) (v := ?_) (a' := ?_) (bb 17 31) rfl rfl (any_of HT_.out (by kernel_rfl)) (fun _ _ _ h => h) (Or.inl ⟨by rfl, ?_⟩) ?_ ?_
        rotate_left
        · intro w'
          go_simp
          with_reducible rfl
        rotate_left
        · simp only [Act.put, List.setIfInBounds_toArray, List.set_cons_zero, List.set_cons_succ, i64_w, i32_w]
          rfl
        refine pure_ (i := 5) (N := (some 31)) (v := ?_) (a' := ?_) (bb 17 63) rfl rfl (any_of HT_.out (by kernel_rfl)) (fun _ _ _ h => h) (Or.inl ⟨by rfl, ?_⟩) ?_ ?_
        rotate_left
        · intro w'
          go_simp
          with_reducible rfl
        rotate_left
        · simp only [Act.put, List.setIfInBounds_toArray, List.set_cons_zero, List.set_cons_succ, i64_w, i32_w]
          rfl
        refine take_ (i := 6) (N := (some 32)) (v := ?_) (a' := ?_) (bb 17 127) rfl rfl (take_ofW HT_.out HW_.out (by kernel_rfl)) (fun _ _ _ h => h) (Or.inl ⟨by rfl, ?_⟩) hHeld ?_ ?_
        rotate_left
        · intro w' s0
          (try dsimp only at s0)
          go_simp
          with_reducible rfl
        rotate_left
        · simp only [Act.put, List.setIfInBounds_toArray, List.set_cons_zero, List.set_cons_succ, i64_w, i32_w]
          rfl
        refine pure_ (i := 7) (N := (some 33)) (v := ?_) (a' := ?_) (bb 17 255) rfl rfl (any_of HT_.out (by kernel_rfl)) (fun _ _ _ h => h) (Or.inl ⟨by rfl, ?_⟩) ?_ ?_
        rotate_left
        · intro w'
          go_simp
          with_reducible rfl
        rotate_left
        · simp only [Act.put, List.setIfInBounds_toArray, List.set_cons_zero, List.set_cons_succ, i64_w, i32_w]
          rfl
        refine pure_ (i := 8) (N := (some 34)) (v := ?_) (a' := ?_) (bb 17 511) rfl rfl (any_of HT_.out (by kernel_rfl)) (fun _ _ _ h => h) (Or.inl ⟨by rfl, ?_⟩) ?_ ?_
        rotate_left
        · intro w'
          go_simp
          with_reducible rfl
        rotate_left
        · simp only [Act.put, List.setIfInBounds_toArray, List.set_cons_zero, List.set_cons_succ, i64_w, i32_w]
          rfl
        refine take_ (i := 9) (N := (some 35)) (v := ?_) (a' := ?_) (bb 17 1023) rfl rfl (take_ofW HT_.out HW_.out (by kernel_rfl)) (fun _ _ _ h => h) (Or.inl ⟨by rfl, ?_⟩) hHeld ?_ ?_
        rotate_left
        · intro w' s0
          (try dsimp only at s0)
          go_simp
          with_reducible rfl
        rotate_left
        · simp only [Act.put, List.setIfInBounds_toArray, List.set_cons_zero, List.set_cons_succ, i64_w, i32_w]
          rfl
        refine pure_ (i := 10) (N := (some 36)) (v := ?_) (a' := ?_) (bb 17 2047) rfl rfl (any_of HT_.out (by kernel_rfl)) (fun _ _ _ h => h) (Or.inl ⟨by rfl, ?_⟩) ?_ ?_
        rotate_left
        · intro w'
          go_simp
          with_reducible rfl
        rotate_left
        · simp only [Act.put, List.setIfInBounds_toArray, List.set_cons_zero, List.set_cons_succ, i64_w, i32_w]
          rfl
        refine take_ (i := 11) (N := (some 37)) (v := ?_) (a' := ?_) (bb 17 4095) rfl rfl (take_ofW HT_.out HW_.out (by kernel_rfl)) (fun _ _ _ h => h) (Or.inl ⟨by rfl, ?_⟩) hHeld ?_ ?_
        rotate_left
        · intro w' s0
          (try dsimp only at s0)
          go_simp
          with_reducible rfl
        rotate_left
        · simp only [Act.put, List.setIfInBounds_toArray, List.set_cons_zero, List.set_cons_succ, i64_w, i32_w]
          rfl
        refine pure_ (i := 12) (N := (some 38)) (v := ?_) (a' := ?_) (bb 17 8191) rfl rfl (any_of HT_.out (by kernel_rfl)) (fun _ _ _ h => h) (Or.inl ⟨by rfl, ?_⟩) ?_ ?_
        rotate_left
        · intro w'
          go_simp
          with_reducible rfl
        rotate_left
        · simp only [Act.put, List.setIfInBounds_toArray, List.set_cons_zero, List.set_cons_succ, i64_w, i32_w]
          rfl
        refine pure_ (i := 13) (N := (some 39)) (v := ?_) (a' := ?_) (bb 17 16383) rfl rfl (any_of HT_.out (by kernel_rfl)) (fun _ _ _ h => h) (Or.inl ⟨by rfl, ?_⟩) ?_ ?_
        rotate_left
        · intro w'
          go_simp
          with_reducible rfl
        rotate_left
        · simp only [Act.put, List.setIfInBounds_toArray, List.set_cons_zero, List.set_cons_succ, i64_w, i32_w]
          rfl
        refine pure_ (i := 14) (N := (some 40)) (v := ?_) (a' := ?_) (bb 17 32767) rfl rfl (any_of HT_.out (by kernel_rfl)) (fun _ _ _ h => h) (Or.inl ⟨by rfl, ?_⟩) ?_ ?_
        rotate_left
        · intro w'
          go_simp
          with_reducible rfl
        rotate_left
        · simp only [Act.put, List.setIfInBounds_toArray, List.set_cons_zero, List.set_cons_succ, i64_w, i32_w]
          rfl
        refine pure_ (i := 15) (N := (some 41)) (v := ?_) (a' := ?_) (bb 17 65535) rfl rfl (any_of HT_.out (by kernel_rfl)) (fun _ _ _ h => h) (Or.inl ⟨by rfl, ?_⟩) ?_ ?_
        rotate_left
        · intro w'
          go_simp
          with_reducible rfl
        rotate_left
        · simp only [Act.put, List.setIfInBounds_toArray, List.set_cons_zero, List.set_cons_succ, i64_w, i32_w]
          rfl
        refine last_ (i := 16) (N := none) (bb 17 131071) rfl rfl (one_of HT_.out (by kernel_rfl)) (by decide) (fun K hK => ?_)
        refine skip_ (w1 := ?_) (by rfl) rfl ?_ ?_
        rotate_left
        · go_simp
          first | rfl | (constructor <;> rfl)
        refine hK.out _ _ ?_
        clear hK K
        refine done_ (done_of HT_.out (by kernel_rfl)) ?_
        have HS6 := Aside0.mk (show Sep w0 (wd.setCell ⟨gb, q, none⟩ (.int .u8 (xorI x0 (2 ^ k)))) (ownT (Kd.int .u8) 5 (.slice (some ⟨gb, 0, none⟩) 512 c) (bytB x) :: cellsT gp PC 61 :: M) from by have h := HSy.out.put q (xorI x0 (2 ^ k)); rwa [HSET.out] at h)
        clear hHeld HT_ HW_ HSy hx0 hf0 hp0 hq0 hq1 hq2 hwq hwk hbx hd hr
        generalize wd.setCell ⟨gb, q, none⟩ (.int .u8 (xorI x0 (2 ^ k))) = w6 at HS6 ⊢
        go_wp2
        go_ret
        exact ⟨_, _, rfl, HCA.out, HS6.out.up1.drop⟩
      · skip
        go_wp2
        go_ret
        exact ⟨_, _, rfl, HCA.out, by rw [HB2.out (by omega)]; exact HSa.out.up1.drop⟩
    · skip
      go_wp2
      go_ret
      exact ⟨_, _, rfl, HCA.out, by rw [HB2.out (by omega)]; exact HSa.out.up1.drop⟩
  | false =>
    go_upto_region 3 with (first
      | ((with_reducible refine gate_load (ty := 27) rfl ?_); refine wpList_ldw ?_ 27 _ rfl ⟨gp, 1, none⟩ ?_ V _ (HSL.out _ _ _ HS0.out) Tryd.underlying27 rfl HSZ.out ?_; exact rfl; exact rfl; skip)
      | (go_at_call 13; (with_reducible refine (HEX.out hm _).mono ?_); rintro e w2 ⟨rfl, hb⟩; have HS2 := Aside0.mk (HS0.out.step hb); clear hb))
    go_upto_region 4 with (at_make; refine Kd.R_make (Kd.int .u8) (w0 := w2) w2.heap.size 5 rfl (N := 13) rfl 28 (.const (.int .i64 512)) (.const (.int .i64 512)) rfl (512 : Int) rfl rfl Tryd.underlying28 (.int .u8 0) 1 info_u8 rfl (by decide) (by decide) 0 (ok := fun _ => True) (okp := fun _ => True) rfl (fun _ h => h) trivial (by decide) (by decide) (Below.refl _ _) (Nat.le_refl _) ?_; intro v6 w6 hr hb hg hat; obtain ⟨A6, c6, e6⟩ := Kd.R_slice hr; have H6 := Aside0.mk hr; have HB6 := Aside0.mk hb; clear hr hb hg hat)
    have h6 := HS2.out.push_own H6.out HB6.out
    rw [show (512 : Int).toNat = 512 from rfl] at h6 e6
    rw [List.length_replicate] at e6
    subst e6
    have HS6 := Aside0.mk h6
    have H6' := Aside0.mk (show Kd.R (Kd.int .u8) 5 w6 w2.heap.size (fun _ => True) (.slice A6 512 c6) (List.replicate 512 0) from H6.out)
    have HCr := Aside0.mk (HRaw.out _ _ (Sub.c (Sub.c HSub.out)) HS6.out)
    have y7 := (HBT.out _ _ _ HS6.out.up1).2
    clear h6 H6 HS0
    go_upto_region 5 with ((with_reducible refine gate_builtin (b := .copy) (xs := #[.tmp 14, .tmp 16]) rfl ?_); refine Kd.R_copy (0 : Int) (w0 := w2) w2.heap.size rfl (.tmp 14) (.tmp 16) 28 28 5 rfl Tryd.underlying28 (by kernel_rfl) (.slice A6 512 c6) (List.replicate 512 0) x.raw A3 x.raw.length c3 (fun _ => True) rfl rfl H6'.out HCr.out HB6.out (below_size HB6.out) ?_; intro w9 hr hb hg; have H9 := Aside0.mk hr; have HB9 := Aside0.mk hb; clear hr hb hg)
    have h9 := HS2.out.push_own H9.out HB9.out
    rw [List.length_replicate] at h9
    rw [← HB0n.out hm] at h9
    have HSa := Aside0.mk h9
    clear h9 H9 HB9 HS6 H6' HCr HS2 HB6 y7
    obtain ⟨gb, rfl⟩ : ∃ gb, A6 = some ⟨gb, 0, none⟩ := by
      obtain ⟨_, _, hr⟩ := HSa.out.own
      obtain ⟨bw, cw, e2, _, _, _⟩ := Kd.R_form hr (by rw [HLN.out]; decide)
      simp only [Value.slice.injEq] at e2
      exact ⟨bw, e2.1⟩
    generalize w9 = wx at HSa ⊢
    have hp0 : wx.cell? ⟨gp, 106, none⟩ = some (.int .i64 x.b) := (HBT.out _ _ _ HSa.out.up1).1
    have HCA := Aside0.mk (show 512 ≤ c6 from by have := HSa.out.own_C.2; rwa [HLN.out] at this)
    by_cases h0 : 0 ≤ x.b
    · by_cases h1 : x.b < 4096
      · obtain ⟨q, k, hq, hk, hbit⟩ : ∃ q k : Nat, q < 512 ∧ k < 8 ∧ x.b = ((8 * q + k : Nat) : Int) := ⟨x.b.toNat / 8, x.b.toNat % 8, by omega, by omega, by omega⟩
        have HX := Aside0.mk (HSa.out.cell (0 : Int) q hq)
        have hxb := HBY.out _ (getD_mem (show q < (bytB0 x).length by rw [HLN.out]; exact hq))
        have HXB := Aside0.mk hxb
        have HSET := Aside0.mk (show (bytB0 x).set q (xorI ((bytB0 x).getD q 0) (2 ^ k)) = bytB x from by
          rw [HB1.out h0 h1]
          unfold flip1
          rw [hbit, HLN.out, if_pos (by omega), Int.toNat_natCast, show (8 * q + k) / 8 = q by omega, show (8 * q + k) % 8 = k by omega])
        have HSy := Aside0.mk (HSa.out.step (below_drew1 (Below.refl wx.heap.size wx)))
        generalize hx0e : (bytB0 x).getD q 0 = x0 at HX HXB HSET hxb
        generalize x.b = bit at *
        have hd : bit.tdiv 8 = (q : Int) := by rw [hbit, Int.tdiv_eq_ediv_of_nonneg (by omega)]; omega
        have hr : bit.tmod 8 = (k : Int) := by rw [hbit, Int.tmod_eq_emod_of_nonneg (by omega)]; omega
        have hk0 : (0 : Int) ≤ (k : Int) := by omega
        have hk1 : (k : Int) < 8 := by omega
        clear hbit
        go_upto_region 6 with (fail)
        have hx0 : wx.drew.cell? ⟨gb, q, none⟩ = some (.int .u8 x0) := by have := (HSy.out.cell (0 : Int) q hq).1; rwa [hx0e] at this
        have hf0 : wx.drew.frozen? ⟨gb, q, none⟩ = false := (HSy.out.cell (0 : Int) q hq).2
        clear hp0
        have hp0 : wx.drew.cell? ⟨gp, 106, none⟩ = some (.int .i64 bit) := (HBT.out _ _ _ HSy.out.up1).1
        have hq0 : (0 : Int) ≤ (q : Int) := by omega
        have hq1 : (q : Int) < 512 := by omega
        have hq2 : ((q : Int)).toNat = q := Int.toNat_natCast q
        have hwq : wrap64 (q : Int) = (q : Int) := by unfold wrap64; omega
        have hwk : IntKind.u8.wrap ((2 : Int) ^ k) = (2 : Int) ^ k := by
          rcases (show k = 0 ∨ k = 1 ∨ k = 2 ∨ k = 3 ∨ k = 4 ∨ k = 5 ∨ k = 6 ∨ k = 7 by omega) with rfl | rfl | rfl | rfl | rfl | rfl | rfl | rfl <;> rfl
        have hbx : bits .xor .u8 x0 ((2 : Int) ^ k) = xorI x0 (2 ^ k) := by
          have h2 : (0 : Int) ≤ 2 ^ k ∧ (2 : Int) ^ k < 256 ∧ ((2 : Int) ^ k).toNat = 2 ^ k := by
            rcases (show k = 0 ∨ k = 1 ∨ k = 2 ∨ k = 3 ∨ k = 4 ∨ k = 5 ∨ k = 6 ∨ k = 7 by omega) with rfl | rfl | rfl | rfl | rfl | rfl | rfl | rfl <;> decide
          rw [u8_xor x0 _ HXB.out.1 HXB.out.2 h2.1 h2.2.1, h2.2.2]
          rfl
        clear hx0e hxb HX HXB h0 h1
        refine start_ (n := 17) (S := fun W => W.cell? ⟨gb, q, none⟩ = some (.int .u8 x0) ∧ W.cell? ⟨gp, 106, none⟩ = some (.int .i64 bit)) (ds := [16]) (bb 17 0) (by kernel_rfl) rfl rfl (⟨hx0, hp0⟩) (fun hHeld => ?_); refine with_tabW by6_tab by6_bits (fun HT_ HW_ => ?_)
        generalize wx.drew = wd at hHeld HSy hx0 hf0 hp0 ⊢
        refine pure_ (i := 0) (N := (some 26)) (v := ?_) (a' := ?_) (bb 17 1) rfl rfl (any_of HT_.out (by kernel_rfl)) (fun _ _ _ h => h) (Or.inl ⟨by rfl, ?_⟩) ?_ ?_
        rotate_left
        · intro w'
          go_simp
          with_reducible rfl
        rotate_left
        · simp only [Act.put, List.setIfInBounds_toArray, List.set_cons_zero, List.set_cons_succ, i64_w, i32_w]
          rfl
        refine pure_ (i := 1) (N := (some 27)) (v := ?_) (a' := ?_) (bb 17 3) rfl rfl (any_of HT_.out (by kernel_rfl)) (fun _ _ _ h => h) (Or.inl ⟨by rfl, ?_⟩) ?_ ?_
        rotate_left
        · intro w'
          go_simp
          with_reducible rfl
        rotate_left
        · simp only [Act.put, List.setIfInBounds_toArray, List.set_cons_zero, List.set_cons_succ, i64_w, i32_w]
          rfl
        refine take_ (i := 2) (N := (some 28)) (v := ?_) (a' := ?_) (bb 17 7) rfl rfl (take_ofW HT_.out HW_.out (by kernel_rfl)) (fun _ _ _ h => h) (Or.inl ⟨by rfl, ?_⟩) hHeld ?_ ?_
        rotate_left
        · intro w' s0
          (try dsimp only at s0)
          go_simp
          with_reducible rfl
        rotate_left
        · simp only [Act.put, List.setIfInBounds_toArray, List.set_cons_zero, List.set_cons_succ, i64_w, i32_w]
          rfl
        refine pure_ (i := 3) (N := (some 29)) (v := ?_) (a' := ?_) (bb 17 15) rfl rfl (any_of HT_.out (by kernel_rfl)) (fun _ _ _ h => h) (Or.inl ⟨by rfl, ?_⟩) ?_ ?_
        rotate_left
        · intro w'
          go_simp
          with_reducible rfl
        rotate_left
        · simp only [Act.put, List.setIfInBounds_toArray, List.set_cons_zero, List.set_cons_succ, i64_w, i32_w]
          rfl
        refine pure_ (i := 4) (N := (some 30)) (v := ?_) (a' := ?_) (bb 17 31) rfl rfl (any_of HT_.out (by kernel_rfl)) (fun _ _ _ h => h) (Or.inl ⟨by rfl, ?_⟩) ?_ ?_
        rotate_left
        · intro w'
          go_simp
          with_reducible rfl
        rotate_left
        · simp only [Act.put, List.setIfInBounds_toArray, List.set_cons_zero, List.set_cons_succ, i64_w, i32_w]
          rfl
        refine pure_ (i := 5) (N := (some 31)) (v := ?_) (a' := ?_) (bb 17 63) rfl rfl (any_of HT_.out (by kernel_rfl)) (fun _ _ _ h => h) (Or.inl ⟨by rfl, ?_⟩) ?_ ?_
        rotate_left
        · intro w'
          go_simp
          with_reducible rfl
        rotate_left
        · simp only [Act.put, List.setIfInBounds_toArray, List.set_cons_zero, List.set_cons_succ, i64_w, i32_w]
          rfl
        refine take_ (i := 6) (N := (some 32)) (v := ?_) (a' := ?_) (bb 17 127) rfl rfl (take_ofW HT_.out HW_.out (by kernel_rfl)) (fun _ _ _ h => h) (Or.inl ⟨by rfl, ?_⟩) hHeld ?_ ?_
        rotate_left
        · intro w' s0
          (try dsimp only at s0)
          go_simp
          with_reducible rfl
        rotate_left
        · simp only [Act.put, List.setIfInBounds_toArray, List.set_cons_zero, List.set_cons_succ, i64_w, i32_w]
          rfl
        refine pure_ (i := 7) (N := (some 33)) (v := ?_) (a' := ?_) (bb 17 255) rfl rfl (any_of HT_.out (by kernel_rfl)) (fun _ _ _ h => h) (Or.inl ⟨by rfl, ?_⟩) ?_ ?_
        rotate_left
        · intro w'
          go_simp
          with_reducible rfl
        rotate_left
        · simp only [Act.put, List.setIfInBounds_toArray, List.set_cons_zero, List.set_cons_succ, i64_w, i32_w]
          rfl
        refine pure_ (i := 8) (N := (some 34)) (v := ?_) (a' := ?_) (bb 17 511) rfl rfl (any_of HT_.out (by kernel_rfl)) (fun _ _ _ h => h) (Or.inl ⟨by rfl, ?_⟩) ?_ ?_
        rotate_left
        · intro w'
          go_simp
          with_reducible rfl
        rotate_left
        · simp only [Act.put, List.setIfInBounds_toArray, List.set_cons_zero, List.set_cons_succ, i64_w, i32_w]
          rfl
        refine take_ (i := 9) (N := (some 35)) (v := ?_) (a' := ?_) (bb 17 1023) rfl rfl (take_ofW HT_.out HW_.out (by kernel_rfl)) (fun _ _ _ h => h) (Or.inl ⟨by rfl, ?_⟩) hHeld ?_ ?_
        rotate_left
        · intro w' s0
          (try dsimp only at s0)
          go_simp
          with_reducible rfl
        rotate_left
        · simp only [Act.put, List.setIfInBounds_toArray, List.set_cons_zero, List.set_cons_succ, i64_w, i32_w]
          rfl
        refine pure_ (i := 10) (N := (some 36)) (v := ?_) (a' := ?_) (bb 17 2047) rfl rfl (any_of HT_.out (by kernel_rfl)) (fun _ _ _ h => h) (Or.inl ⟨by rfl, ?_⟩) ?_ ?_
        rotate_left
        · intro w'
          go_simp
          with_reducible rfl
        rotate_left
        · simp only [Act.put, List.setIfInBounds_toArray, List.set_cons_zero, List.set_cons_succ, i64_w, i32_w]
          rfl
        refine take_ (i := 11) (N := (some 37)) (v := ?_) (a' := ?_) (bb 17 4095) rfl rfl (take_ofW HT_.out HW_.out (by kernel_rfl)) (fun _ _ _ h => h) (Or.inl ⟨by rfl, ?_⟩) hHeld ?_ ?_
        rotate_left
        · intro w' s0
          (try dsimp only at s0)
          go_simp
          with_reducible rfl
        rotate_left
        · simp only [Act.put, List.setIfInBounds_toArray, List.set_cons_zero, List.set_cons_succ, i64_w, i32_w]
          rfl
        refine pure_ (i := 12) (N := (some 38)) (v := ?_) (a' := ?_) (bb 17 8191) rfl rfl (any_of HT_.out (by kernel_rfl)) (fun _ _ _ h => h) (Or.inl ⟨by rfl, ?_⟩) ?_ ?_
        rotate_left
        · intro w'
          go_simp
          with_reducible rfl
        rotate_left
        · simp only [Act.put, List.setIfInBounds_toArray, List.set_cons_zero, List.set_cons_succ, i64_w, i32_w]
          rfl
        refine pure_ (i := 13) (N := (some 39)) (v := ?_) (a' := ?_) (bb 17 16383) rfl rfl (any_of HT_.out (by kernel_rfl)) (fun _ _ _ h => h) (Or.inl ⟨by rfl, ?_⟩) ?_ ?_
        rotate_left
        · intro w'
          go_simp
          with_reducible rfl
        rotate_left
        · simp only [Act.put, List.setIfInBounds_toArray, List.set_cons_zero, List.set_cons_succ, i64_w, i32_w]
          rfl
        refine pure_ (i := 14) (N := (some 40)) (v := ?_) (a' := ?_) (bb 17 32767) rfl rfl (any_of HT_.out (by kernel_rfl)) (fun _ _ _ h => h) (Or.inl ⟨by rfl, ?_⟩) ?_ ?_
        rotate_left
        · intro w'
          go_simp
          with_reducible rfl
        rotate_left
        · simp only [Act.put, List.setIfInBounds_toArray, List.set_cons_zero, List.set_cons_succ, i64_w, i32_w]
          rfl
        refine pure_ (i := 15) (N := (some 41)) (v := ?_) (a' := ?_) (bb 17 65535) rfl rfl (any_of HT_.out (by kernel_rfl)) (fun _ _ _ h => h) (Or.inl ⟨by rfl, ?_⟩) ?_ ?_
        rotate_left
        · intro w'
          go_simp
          with_reducible rfl
        rotate_left
        · simp only [Act.put, List.setIfInBounds_toArray, List.set_cons_zero, List.set_cons_succ, i64_w, i32_w]
          rfl
        refine last_ (i := 16) (N := none) (bb 17 131071) rfl rfl (one_of HT_.out (by kernel_rfl)) (by decide) (fun K hK => ?_)
        refine skip_ (w1 := ?_) (by rfl) rfl ?_ ?_
        rotate_left
        · go_simp
          first | rfl | (constructor <;> rfl)
        refine hK.out _ _ ?_
        clear hK K
        refine done_ (done_of HT_.out (by kernel_rfl)) ?_
        have HS6 := Aside0.mk (show Sep w0 (wd.setCell ⟨gb, q, none⟩ (.int .u8 (xorI x0 (2 ^ k)))) (ownT (Kd.int .u8) 5 (.slice (some ⟨gb, 0, none⟩) 512 c6) (bytB x) :: cellsT gp PC 61 :: M) from by have h := HSy.out.put q (xorI x0 (2 ^ k)); rwa [HSET.out] at h)
        clear hHeld HT_ HW_ HSy hx0 hf0 hp0 hq0 hq1 hq2 hwq hwk hbx hd hr
        generalize wd.setCell ⟨gb, q, none⟩ (.int .u8 (xorI x0 (2 ^ k))) = w6 at HS6 ⊢
        go_wp2
        go_ret
        exact ⟨_, _, rfl, HCA.out, HS6.out.up1.drop⟩
      · skip
        go_wp2
        go_ret
        exact ⟨_, _, rfl, HCA.out, by rw [HB2.out (by omega)]; exact HSa.out.up1.drop⟩
    · skip
      go_wp2
      go_ret
      exact ⟨_, _, rfl, HCA.out, by rw [HB2.out (by omega)]; exact HSa.out.up1.drop⟩
end Go.Proofs.YtaflofcnjakaaaaDoor.M

namespace Go.Proofs.YtaflofcnjakaaaaDoor.M
open Go.RowKit Go.Maps Go.Proofs.YtaflofcnjakaaaaDoorW.PrintWords Go.Proofs.YtaflofcnjakaaaaDoorW.PrintLast Go.Proofs.YtaflofcnjakaaaaDoorW.PrintMore Go.Proofs.YtaflofcnjakaaaaDoor.Wr Go.Proofs.YtaflofcnjakaaaaDoor.Pl Go.Proofs.YtaflofcnjakaaaaDoor.Z Go.Proofs.YtaflofcnjakaaaaDoor.A
set_option linter.unusedVariables false
set_option linter.unusedSimpArgs false
theorem ref_new_f (n : Nat) (h2 : 2 ≤ n) (hm : n ≤ 65536) : kilnref3_New.f (n : Int) = some ((n : Int), [], [], 0, 0, 0, 0) := by
  unfold kilnref3_New.f
  rw [if_neg (by omega), if_neg (by omega)]
theorem ref_new_no (a : Int) (h : a < 2 ∨ 65536 < a) : kilnref3_New.f a = some (0, [], [], 0, 0, 0, 30) := by
  unfold kilnref3_New.f
  by_cases e : a < 2
  · rw [if_pos e]
  · rw [if_neg e, if_pos (by omega)]
theorem rf_held {w0 W : World} {L : List Th} {gp : Nat} {a0 a1 a2 a3 a4 a5 : Value} (h : Sep w0 W (cellsT gp #[a0, a1, a2, a3, a4, a5] 43 :: L)) :
    W.cell? ⟨gp, 0, none⟩ = some a0 ∧ W.cell? ⟨gp, 1, none⟩ = some a1 ∧ W.cell? ⟨gp, 2, none⟩ = some a2 ∧ W.cell? ⟨gp, 3, none⟩ = some a3 ∧ W.cell? ⟨gp, 4, none⟩ = some a4 ∧ W.cell? ⟨gp, 5, none⟩ = some a5 :=
  ⟨blk_cell h.cells.1 0, blk_cell h.cells.1 1, blk_cell h.cells.1 2, blk_cell h.cells.1 3, blk_cell h.cells.1 4, blk_cell h.cells.1 5⟩
end Go.Proofs.YtaflofcnjakaaaaDoor.M

namespace Go.Proofs.YtaflofcnjakaaaaDoor.M
open Go.RowKit Go.Maps Go.Proofs.YtaflofcnjakaaaaDoorW.PrintWords Go.Proofs.YtaflofcnjakaaaaDoorW.PrintLast Go.Proofs.YtaflofcnjakaaaaDoorW.PrintMore Go.Proofs.YtaflofcnjakaaaaDoor.Wr Go.Proofs.YtaflofcnjakaaaaDoor.Pl Go.Proofs.YtaflofcnjakaaaaDoor.Z Go.Proofs.YtaflofcnjakaaaaDoor.A
set_option linter.unusedVariables false
set_option linter.unusedSimpArgs false
def soz_T : Bool × List (List Nat × List Nat) := (true, [([], []), ([], []), ([1], [1]), ([2], [2]), ([3], [3]), ([4, 3], [3, 4]), ([3], [3]), ([6, 3], [3, 6]), ([5, 7, 3], [3, 5, 7]), ([3, 8], [3, 8]), ([9, 3], [9]), ([10], [10]), ([11, 10], [10, 11]), ([12, 10], [10, 12]), ([10], [10]), ([13, 14, 10], [10, 13, 14]), ([10, 15], [10, 15]), ([0, 10, 0], [0]), ([16, 17, 0, 1, 2, 3, 4, 5, 6, 7, 8, 9, 10, 11, 12, 13, 14, 15, 16, 17], [16])])
def soz_B : List Nat := [0, 0, 2, 6, 14, 30, 14, 78, 254, 510, 1022, 2046, 4094, 8190, 2046, 32766, 65534, 2047, 262143]
theorem soz_tab : rtab .any (opsOf Tryd.f53 2) = soz_T := by kernel_rfl
theorem soz_bits : waitsOk soz_T.2 soz_B = true := by kernel_rfl
def soy_T : Bool × List (List Nat × List Nat) := (true, [([], []), ([], []), ([1], [1]), ([2], [2]), ([3], [3]), ([4, 3], [3, 4]), ([3], [3]), ([6, 3], [3, 6]), ([5, 7, 3], [3, 5, 7]), ([3, 8], [3, 8]), ([9, 3], [9]), ([10], [10]), ([11, 10], [10, 11]), ([12, 10], [10, 12]), ([10], [10]), ([13, 14, 10], [10, 13, 14]), ([10, 15], [10, 15]), ([0, 10, 0], [0]), ([16, 17, 0, 1, 2, 3, 4, 5, 6, 7, 8, 9, 10, 11, 12, 13, 14, 15, 16, 17], [16])])
def soy_B : List Nat := [0, 0, 2, 6, 14, 30, 14, 78, 254, 510, 1022, 2046, 4094, 8190, 2046, 32766, 65534, 2047, 262143]
theorem soy_tab : rtab .any (opsOf Tryd.f53 2) = soy_T := by kernel_rfl
theorem soy_bits : waitsOk soy_T.2 soy_B = true := by kernel_rfl
def sox_T : Bool × List (List Nat × List Nat) := (true, [([], []), ([], []), ([1], [1]), ([2], [2]), ([3], [3]), ([4, 3], [3, 4]), ([3], [3]), ([6, 3], [3, 6]), ([5, 7, 3], [3, 5, 7]), ([3, 8], [3, 8]), ([9, 3], [9]), ([10], [10]), ([11, 10], [10, 11]), ([12, 10], [10, 12]), ([10], [10]), ([13, 14, 10], [10, 13, 14]), ([10, 15], [10, 15]), ([0, 10, 0], [0]), ([16, 17, 0, 1, 2, 3, 4, 5, 6, 7, 8, 9, 10, 11, 12, 13, 14, 15, 16, 17], [16])])
def sox_B : List Nat := [0, 0, 2, 6, 14, 30, 14, 78, 254, 510, 1022, 2046, 4094, 8190, 2046, 32766, 65534, 2047, 262143]
theorem sox_tab : rtab .any (opsOf Tryd.f53 2) = sox_T := by kernel_rfl
theorem sox_bits : waitsOk sox_T.2 sox_B = true := by kernel_rfl
theorem Sep.now18 {w0 w : World} {M : List Th} {A1 A2 : Option Addr} {c1 c2 p q : Nat} {l1 l2 : List S106} {D : DS} {n i : Nat} {r wr fl : Int} (h : Sep w0 w (refT (.slice A1 p c1) (.slice A2 q c2) l1 l2 :: M)) (hR : Rl D l1 l2) (hn : D.n = n) (hp : l1.length = p) (hq : l2.length = q) (hl : p + q ≤ 1000) (hi : i < n) (hc : (D.cur i).length = 512) :
    Calls Tryd.prog 70 #[.agg #[.int .i64 (n : Int), .slice A1 p c1, .slice A2 q c2, .int .i64 r, .int .i64 wr, .int .i64 fl], .int .i64 (i : Int)] w fun e w' => ∃ A c, e = .returned (.slice A 512 c) ∧ 512 ≤ c ∧ Sep w0 w' (ownT (Kd.int .u8) 5 (.slice A 512 c) (D.cur i) :: refT (.slice A1 p c1) (.slice A2 q c2) l1 l2 :: M) := by
  subst hp hq
  have hnow := hR.now i (by rw [hn]; exact hi)
  have hf := now_ev l1 l2 (i : Int) (n : Int) r wr fl (by omega) (by omega) hR.sho (by rw [lastR_len hR.e1]; decide) _ (Nat.le_refl _)
  refine (kilnref3_Now.calls _ (n : Int) A1 c1 l1 A2 c2 l2 r wr fl (i : Int) (nowR l1 l2 (i : Int)) w h.ref_C.1 h.ref_C.2.1 h.ref_C.2.2.1 h.ref_C.2.2.2 hf).mono ?_
  rintro e w' ⟨v, rfl, hr, hb⟩
  rw [hnow] at hr
  obtain ⟨A, c, rfl⟩ := Kd.R_slice hr
  rw [hc] at hr ⊢
  exact ⟨A, c, rfl, (Kd.R_reads' hr).2.1, h.push_own hr hb⟩
def soundM (N i : Int) (b : List Int) : Bool := decide (decE b = 0) && (decide ((decS b).a = N) && decide ((decS b).c.tmod 2 = i))
set_option maxHeartbeats 8000000 in
set_option maxRecDepth 100000 in
theorem Sep.sound {w0 w : World} {M : List Th} {A1 A2 : Option Addr} {c1 c2 p q : Nat} {l1 l2 : List S106} {D : DS} {n i : Nat} {r wr fl : Int} (h : Sep w0 w (refT (.slice A1 p c1) (.slice A2 q c2) l1 l2 :: M)) (hR : Rl D l1 l2) (hn : D.n = n) (hp : l1.length = p) (hq : l2.length = q) (hl : p + q ≤ 1000) (hi : i < n) (hc : (D.cur i).length = 512) (hb : bytes_ (D.cur i)) :
    Calls Tryd.prog 53 #[.agg #[.int .i64 (n : Int), .slice A1 p c1, .slice A2 q c2, .int .i64 r, .int .i64 wr, .int .i64 fl], .int .i64 (i : Int)] w fun e w' => e = .returned (.tuple #[.agg (decS (D.cur i)).V.toArray, .bool (soundM (n : Int) (i : Int) (D.cur i))]) ∧ Sep w0 w' (refT (.slice A1 p c1) (.slice A2 q c2) l1 l2 :: M) := by
  have HNO := Aside0.mk (fun W (N : List Th) (h : Sep w0 W (refT (.slice A1 p c1) (.slice A2 q c2) l1 l2 :: N)) => Sep.now18 (r := r) (wr := wr) (fl := fl) h hR hn hp hq hl hi hc)
  have HDC := Aside0.mk (fun W (N : List Th) A c (hc2 : 512 ≤ c) (h : Sep w0 W (ownT (Kd.int .u8) 5 (.slice A 512 c) (D.cur i) :: N)) => (show Calls Tryd.prog 45 #[.slice A 512 c] W (fun e w' => e = .returned (.tuple #[.agg (decS (D.cur i)).V.toArray, .int .i64 (decE (D.cur i))]) ∧ Sep w0 w' (ownT (Kd.int .u8) 5 (.slice A 512 c) (D.cur i) :: N)) from Sep.decodeR h (Sub.r _) (ReadsB.own hc) hb hc hc2))
  have hok := decS_ok hb
  have HS0 := Aside0.mk (h.push_alloc #[.int .i64 (n : Int), .slice A1 p c1, .slice A2 q c2, .int .i64 r, .int .i64 wr, .int .i64 fl] 43)
  have HSZ := Aside0.mk (SlAt.sa hok)
  have HVA := Aside0.mk (SL.V_all (decS (D.cur i)))
  have hz := (zero_of_info (P := Tryd.prog) (t := 27) (v := .agg noSL.V.toArray) (n := 105) (by kernel_rfl)).1
  have HZV := Aside0.mk (show noSL.V.toArray.size = (decS (D.cur i)).V.toArray.size from by simp only [List.size_toArray]; rw [SL.V_len noSL_ok, SL.V_len hok])
  have HLV := Aside0.mk (fun W (M : List Th) g (h : Sep w0 W (cellsT g (decS (D.cur i)).V.toArray 27 :: M)) => (show ∀ j v, (decS (D.cur i)).V.toArray.toList[j]? = some v → W.cell? ((⟨g, 0, none⟩ : Addr).add j) = some v from fun j v hv => seg_at h.cells.1 0 (decS (D.cur i)).V (by rw [List.drop_zero]; exact List.take_of_length_le (Nat.le_refl _)) j v (by simpa using hv)))
  have HLF := Aside0.mk (fun W (M : List Th) g (h : Sep w0 W (cellsT g (decS (D.cur i)).V.toArray 27 :: M)) => (show W.cell? ⟨g, 0, none⟩ = some (.int .i64 (decS (D.cur i)).a) ∧ W.cell? ⟨g, 2, none⟩ = some (.int .i64 (decS (D.cur i)).c) from
    have k := SlAt.mk h.cells.1 hok; ⟨k.c0, k.c2⟩))
  have HSM := Aside0.mk (show soundM (n : Int) (i : Int) (D.cur i) = (decide (decE (D.cur i) = 0) && (decide ((decS (D.cur i)).a = (n : Int)) && decide ((decS (D.cur i)).c.tmod 2 = (i : Int)))) from rfl)
  have HEO := Aside0.mk (decE_or (D.cur i))
  clear h hR hn hp hq hl hi hc hb hok
  generalize soundM (n : Int) (i : Int) (D.cur i) = sm at HSM ⊢
  generalize decE (D.cur i) = ec at HDC HSM HEO
  generalize D.cur i = b at *
  generalize decS b = s at *
  generalize s.V.toArray = V at HDC HSZ HVA HZV HLV HLF ⊢
  generalize noSL.V.toArray = Z at hz HZV
  go_enter Tryd.func53, Tryd.ntmps53
  go_upto_region 1 with (fail)
  have HS1 := Aside0.mk (HS0.out.push_alloc Z 27)
  have hsz : (w.alloc (.cells #[.int .i64 (n : Int), .slice A1 p c1, .slice A2 q c2, .int .i64 r, .int .i64 wr, .int .i64 fl] 43)).heap.size = w.heap.size + 1 := by show (w.heap.push _).size = _; simp
  rw [hsz] at HS1
  generalize (w.alloc (.cells #[.int .i64 (n : Int), .slice A1 p c1, .slice A2 q c2, .int .i64 r, .int .i64 wr, .int .i64 fl] 43)).alloc (.cells Z 27) = w2 at HS1 ⊢
  generalize hg4 : w.heap.size + 1 = g4 at HS1 ⊢
  generalize w.heap.size = gs at HS1 ⊢
  clear HS0 hsz hg4
  obtain ⟨y0, y1, y2, y3, y4, y5⟩ := rf_held HS1.out.up1
  go_upto_region 2 with (first
    | (go_at_call 70; (with_reducible refine (HNO.out _ _ HS1.out.up2).mono ?_); rintro e w3 ⟨Ab, cb, rfl, hcb, h3⟩; have HCB := Aside0.mk hcb; have HS3 := Aside0.mk h3; clear h3 hcb)
    | (go_at_call 45; (with_reducible refine (HDC.out _ _ _ _ HCB.out HS3.out).mono ?_); rintro e w4 ⟨rfl, h4⟩; have HS4 := Aside0.mk h4.drop; clear h4)
    | ((with_reducible refine gate_store (ty := 27) rfl ?_); refine Sep.store_own rfl 27 _ _ rfl rfl rfl (HS4.out.push_alloc Z 27) HSZ.out HZV.out HVA.out ?_; intro wx h5; have HSx := Aside0.mk h5; clear h5))
  generalize w4.heap.size = g6 at HSx ⊢
  clear HS1 HS3 HS4 HNO HDC HCB y0 y1 y2 y3 y4 y5
  have HSy := Aside0.mk (HSx.out.step (below_drew1 (Below.refl wx.heap.size wx)))
  clear HSx
  have HHS := Aside0.mk (fun W cs4 (h : Sep w0 W (cellsT g6 V 27 :: refT (.slice A1 p c1) (.slice A2 q c2) l1 l2 :: cellsT g4 cs4 27 :: cellsT gs #[.int .i64 (n : Int), .slice A1 p c1, .slice A2 q c2, .int .i64 r, .int .i64 wr, .int .i64 fl] 43 :: M)) => (show W.cell? ⟨g6, 0, none⟩ = some (.int .i64 s.a) ∧ W.cell? ⟨g6, 2, none⟩ = some (.int .i64 s.c) ∧ W.cell? ⟨gs, 0, none⟩ = some (.int .i64 (n : Int)) ∧ (∀ j v, V.toList[j]? = some v → W.cell? ((⟨g6, 0, none⟩ : Addr).add j) = some v) from ⟨(HLF.out _ _ _ h).1, (HLF.out _ _ _ h).2, blk_cell h.up3.cells.1 0, HLV.out _ _ _ h⟩))
  clear HLF HLV
  rcases HEO.out with rfl | rfl
  · by_cases ha : s.a = (n : Int)
    · have ta : (s.a == (n : Int)) = true := by simpa using ha
      refine start_ (n := 19) (S := fun W => W.cell? ⟨g6, 0, none⟩ = some (.int .i64 s.a) ∧ W.cell? ⟨g6, 2, none⟩ = some (.int .i64 s.c) ∧ W.cell? ⟨gs, 0, none⟩ = some (.int .i64 (n : Int)) ∧ (∀ j v, V.toList[j]? = some v → W.cell? ((⟨g6, 0, none⟩ : Addr).add j) = some v)) (ds := []) (bb 19 0) (by kernel_rfl) rfl rfl (HHS.out _ _ HSy.out) (fun hHeld => ?_); refine with_tabW soz_tab soz_bits (fun HT_ HW_ => ?_)
      generalize wx.drew = wd at hHeld HSy ⊢
      refine take_ (i := 0) (N := (some 15)) (v := .agg V) (a' := ?_) (bb 19 1) rfl rfl (take_ofW HT_.out HW_.out (by kernel_rfl)) (fun _ _ _ h => h) (Or.inl ⟨by rfl, fun w' s0 => yields_ld 27 _ rfl ⟨g6, 0, none⟩ rfl V _ s0.2.2.2 Tryd.underlying27 rfl HSZ.out⟩) hHeld ?_ ?_
      rotate_left
      · simp only [Act.put, List.setIfInBounds_toArray, List.set_cons_zero, List.set_cons_succ, i64_w, i32_w]
        rfl
      refine pure_ (i := 1) (N := (some 16)) (v := ?_) (a' := ?_) (bb 19 3) rfl rfl (any_of HT_.out (by kernel_rfl)) (fun _ _ _ h => h) (Or.inl ⟨by rfl, ?_⟩) ?_ ?_
      rotate_left
      · intro w'
        go_simp
        with_reducible rfl
      rotate_left
      · simp only [Act.put, List.setIfInBounds_toArray, List.set_cons_zero, List.set_cons_succ, i64_w, i32_w]
        rfl
      refine pure_ (i := 2) (N := (some 17)) (v := ?_) (a' := ?_) (bb 19 7) rfl rfl (any_of HT_.out (by kernel_rfl)) (fun _ _ _ h => h) (Or.inl ⟨by rfl, ?_⟩) ?_ ?_
      rotate_left
      · intro w'
        go_simp
        with_reducible rfl
      rotate_left
      · simp only [Act.put, List.setIfInBounds_toArray, List.set_cons_zero, List.set_cons_succ, i64_w, i32_w]
        rfl
      refine pure_ (i := 3) (N := (some 18)) (v := ?_) (a' := ?_) (bb 19 15) rfl rfl (any_of HT_.out (by kernel_rfl)) (fun _ _ _ h => h) (Or.inl ⟨by rfl, ?_⟩) ?_ ?_
      rotate_left
      · intro w'
        go_simp
        with_reducible rfl
      rotate_left
      · simp only [Act.put, List.setIfInBounds_toArray, List.set_cons_zero, List.set_cons_succ, i64_w, i32_w]
        rfl
      refine pure_ (i := 4) (N := (some 19)) (v := ?_) (a' := ?_) (bb 19 31) rfl rfl (any_of HT_.out (by kernel_rfl)) (fun _ _ _ h => h) (Or.inl ⟨by rfl, ?_⟩) ?_ ?_
      rotate_left
      · intro w'
        go_simp
        with_reducible rfl
      rotate_left
      · simp only [Act.put, List.setIfInBounds_toArray, List.set_cons_zero, List.set_cons_succ, i64_w, i32_w]
        rfl
      refine take_ (i := 5) (N := (some 20)) (v := ?_) (a' := ?_) (bb 19 63) rfl rfl (take_ofW HT_.out HW_.out (by kernel_rfl)) (fun _ _ _ h => h) (Or.inl ⟨by rfl, ?_⟩) hHeld ?_ ?_
      rotate_left
      · intro w' s0
        (try dsimp only at s0)
        go_simp
        with_reducible rfl
      rotate_left
      · simp only [Act.put, List.setIfInBounds_toArray, List.set_cons_zero, List.set_cons_succ, i64_w, i32_w]
        rfl
      refine pure_ (i := 6) (N := (some 21)) (v := ?_) (a' := ?_) (bb 19 127) rfl rfl (any_of HT_.out (by kernel_rfl)) (fun _ _ _ h => h) (Or.inl ⟨by rfl, ?_⟩) ?_ ?_
      rotate_left
      · intro w'
        go_simp
        with_reducible rfl
      rotate_left
      · simp only [Act.put, List.setIfInBounds_toArray, List.set_cons_zero, List.set_cons_succ, i64_w, i32_w]
        rfl
      refine take_ (i := 7) (N := (some 22)) (v := ?_) (a' := ?_) (bb 19 255) rfl rfl (take_ofW HT_.out HW_.out (by kernel_rfl)) (fun _ _ _ h => h) (Or.inl ⟨by rfl, ?_⟩) hHeld ?_ ?_
      rotate_left
      · intro w' s0
        (try dsimp only at s0)
        go_simp
        with_reducible rfl
      rotate_left
      · simp only [Act.put, List.setIfInBounds_toArray, List.set_cons_zero, List.set_cons_succ, i64_w, i32_w]
        rfl
      refine pure_ (i := 8) (N := (some 23)) (v := ?_) (a' := ?_) (bb 19 511) rfl rfl (any_of HT_.out (by kernel_rfl)) (fun _ _ _ h => h) (Or.inl ⟨by rfl, ?_⟩) ?_ ?_
      rotate_left
      · intro w'
        go_simp
        with_reducible rfl
      rotate_left
      · simp only [Act.put, List.setIfInBounds_toArray, List.set_cons_zero, List.set_cons_succ, i64_w, i32_w]
        rfl
      refine pure_ (i := 9) (N := (some 24)) (v := ?_) (a' := ?_) (bb 19 1023) rfl rfl (any_of HT_.out (by kernel_rfl)) (fun _ _ _ h => h) (Or.inl ⟨by rfl, ?_⟩) ?_ ?_
      rotate_left
      · intro w'
        go_simp
        with_reducible rfl
      rotate_left
      · simp only [Act.put, List.setIfInBounds_toArray, List.set_cons_zero, List.set_cons_succ, i64_w, i32_w]
        rfl
      refine pure_ (i := 10) (N := (some 25)) (v := ?_) (a' := ?_) (bb 19 2047) rfl rfl (any_of HT_.out (by kernel_rfl)) (fun _ _ _ h => h) (Or.inl ⟨by rfl, ?_⟩) ?_ ?_
      rotate_left
      · intro w'
        go_simp
        with_reducible rfl
      rotate_left
      · simp only [Act.put, List.setIfInBounds_toArray, List.set_cons_zero, List.set_cons_succ, i64_w, i32_w]
        rfl
      refine pure_ (i := 11) (N := (some 26)) (v := ?_) (a' := ?_) (bb 19 4095) rfl rfl (any_of HT_.out (by kernel_rfl)) (fun _ _ _ h => h) (Or.inl ⟨by rfl, ?_⟩) ?_ ?_
      rotate_left
      · intro w'
        go_simp
        with_reducible rfl
      rotate_left
      · simp only [Act.put, List.setIfInBounds_toArray, List.set_cons_zero, List.set_cons_succ, i64_w, i32_w]
        rfl
      refine take_ (i := 12) (N := (some 27)) (v := ?_) (a' := ?_) (bb 19 8191) rfl rfl (take_ofW HT_.out HW_.out (by kernel_rfl)) (fun _ _ _ h => h) (Or.inl ⟨by rfl, ?_⟩) hHeld ?_ ?_
      rotate_left
      · intro w' s0
        (try dsimp only at s0)
        go_simp
        with_reducible rfl
      rotate_left
      · simp only [Act.put, List.setIfInBounds_toArray, List.set_cons_zero, List.set_cons_succ, i64_w, i32_w]
        rfl
      refine pure_ (i := 13) (N := (some 28)) (v := ?_) (a' := ?_) (bb 19 16383) rfl rfl (any_of HT_.out (by kernel_rfl)) (fun _ _ _ h => h) (Or.inl ⟨by rfl, ?_⟩) ?_ ?_
      rotate_left
      · intro w'
        go_simp
        with_reducible rfl
      rotate_left
      · simp only [Act.put, List.setIfInBounds_toArray, List.set_cons_zero, List.set_cons_succ, i64_w, i32_w]
        rfl
      refine pure_ (i := 14) (N := (some 29)) (v := ?_) (a' := ?_) (bb 19 32767) rfl rfl (any_of HT_.out (by kernel_rfl)) (fun _ _ _ h => h) (Or.inl ⟨by rfl, ?_⟩) ?_ ?_
      rotate_left
      · intro w'
        go_simp
        with_reducible rfl
      rotate_left
      · simp only [Act.put, List.setIfInBounds_toArray, List.set_cons_zero, List.set_cons_succ, i64_w, i32_w]
        rfl
      refine pure_ (i := 15) (N := (some 30)) (v := ?_) (a' := ?_) (bb 19 65535) rfl rfl (any_of HT_.out (by kernel_rfl)) (fun _ _ _ h => h) (Or.inl ⟨by rfl, ?_⟩) ?_ ?_
      rotate_left
      · intro w'
        go_simp
        with_reducible rfl
      rotate_left
      · simp only [Act.put, List.setIfInBounds_toArray, List.set_cons_zero, List.set_cons_succ, i64_w, i32_w]
        rfl
      refine pure_ (i := 16) (N := (some 31)) (v := ?_) (a' := ?_) (bb 19 131071) rfl rfl (any_of HT_.out (by kernel_rfl)) (fun _ _ _ h => h) (Or.inl ⟨by rfl, ?_⟩) ?_ ?_
      rotate_left
      · intro w'
        go_simp
        with_reducible rfl
      rotate_left
      · simp only [Act.put, List.setIfInBounds_toArray, List.set_cons_zero, List.set_cons_succ, i64_w, i32_w]
        rfl
      refine one_ (i := 17) (N := none) (bb 19 262143) rfl rfl (one_of HT_.out (by kernel_rfl)) (by decide) (fun K hK => ?_)
      rw [if_pos (by rfl)]
      refine Sep.store_wp 27 _ _ rfl rfl rfl HSy.out.up2 HSZ.out HZV.out HVA.out (fun w4 h4 => ?_)
      have HS4 := Aside0.mk h4
      clear h4
      refine hK.out _ _ (HHS.out _ _ HS4.out.down2) (fun hHeld => ?_)
      clear hK K
      refine norm_ (a' := ?_) ?_ ?_
      rotate_left
      · show Act.put _ none _ = _
        simp only [Act.put, List.setIfInBounds_toArray, List.set_cons_zero, List.set_cons_succ, i64_w, i32_w]
        rfl
      refine pure_ (i := 18) (N := (some 5)) (v := ?_) (a' := ?_) (bb 19 524287) rfl rfl (any_of HT_.out (by kernel_rfl)) (fun _ _ _ h => h) (Or.inl ⟨by rfl, ?_⟩) ?_ ?_
      rotate_left
      · intro w'
        go_simp
        with_reducible rfl
      rotate_left
      · simp only [Act.put, List.setIfInBounds_toArray, List.set_cons_zero, List.set_cons_succ, i64_w, i32_w]
        rfl
      refine done_ (done_of HT_.out (by kernel_rfl)) ?_
      clear hHeld HT_ HW_ HSy
      go_wp2
      refine bodyPost_ret (results_row_tmp (p := 4) (u := 5) (ty := 27) rfl _ _ g4 27 V (0, 0) _ _ rfl rfl HS4.out.cells.1 Tryd.underlying27 rfl HSZ.out) rfl ⟨?_, ?_⟩
      · rw [HSM.out]
        simp [ha]
        first | done | rfl
      · exact HS4.out.drop.drop.up1.drop
    · have ta : (s.a == (n : Int)) = false := by simpa using ha
      refine start_ (n := 19) (S := fun W => W.cell? ⟨g6, 0, none⟩ = some (.int .i64 s.a) ∧ W.cell? ⟨g6, 2, none⟩ = some (.int .i64 s.c) ∧ W.cell? ⟨gs, 0, none⟩ = some (.int .i64 (n : Int)) ∧ (∀ j v, V.toList[j]? = some v → W.cell? ((⟨g6, 0, none⟩ : Addr).add j) = some v)) (ds := []) (bb 19 0) (by kernel_rfl) rfl rfl (HHS.out _ _ HSy.out) (fun hHeld => ?_); refine with_tabW soy_tab soy_bits (fun HT_ HW_ => ?_)
      generalize wx.drew = wd at hHeld HSy ⊢
      refine take_ (i := 0) (N := (some 15)) (v := .agg V) (a' := ?_) (bb 19 1) rfl rfl (take_ofW HT_.out HW_.out (by kernel_rfl)) (fun _ _ _ h => h) (Or.inl ⟨by rfl, fun w' s0 => yields_ld 27 _ rfl ⟨g6, 0, none⟩ rfl V _ s0.2.2.2 Tryd.underlying27 rfl HSZ.out⟩) hHeld ?_ ?_
      rotate_left
      · simp only [Act.put, List.setIfInBounds_toArray, List.set_cons_zero, List.set_cons_succ, i64_w, i32_w]
        rfl
      refine pure_ (i := 1) (N := (some 16)) (v := ?_) (a' := ?_) (bb 19 3) rfl rfl (any_of HT_.out (by kernel_rfl)) (fun _ _ _ h => h) (Or.inl ⟨by rfl, ?_⟩) ?_ ?_
      rotate_left
      · intro w'
        go_simp
        with_reducible rfl
      rotate_left
      · simp only [Act.put, List.setIfInBounds_toArray, List.set_cons_zero, List.set_cons_succ, i64_w, i32_w]
        rfl
      refine pure_ (i := 2) (N := (some 17)) (v := ?_) (a' := ?_) (bb 19 7) rfl rfl (any_of HT_.out (by kernel_rfl)) (fun _ _ _ h => h) (Or.inl ⟨by rfl, ?_⟩) ?_ ?_
      rotate_left
      · intro w'
        go_simp
        with_reducible rfl
      rotate_left
      · simp only [Act.put, List.setIfInBounds_toArray, List.set_cons_zero, List.set_cons_succ, i64_w, i32_w]
        rfl
      refine pure_ (i := 3) (N := (some 18)) (v := ?_) (a' := ?_) (bb 19 15) rfl rfl (any_of HT_.out (by kernel_rfl)) (fun _ _ _ h => h) (Or.inl ⟨by rfl, ?_⟩) ?_ ?_
      rotate_left
      · intro w'
        go_simp
        with_reducible rfl
      rotate_left
      · simp only [Act.put, List.setIfInBounds_toArray, List.set_cons_zero, List.set_cons_succ, i64_w, i32_w]
        rfl
      refine pure_ (i := 4) (N := (some 19)) (v := ?_) (a' := ?_) (bb 19 31) rfl rfl (any_of HT_.out (by kernel_rfl)) (fun _ _ _ h => h) (Or.inl ⟨by rfl, ?_⟩) ?_ ?_
      rotate_left
      · intro w'
        go_simp
        with_reducible rfl
      rotate_left
      · simp only [Act.put, List.setIfInBounds_toArray, List.set_cons_zero, List.set_cons_succ, i64_w, i32_w]
        rfl
      refine take_ (i := 5) (N := (some 20)) (v := ?_) (a' := ?_) (bb 19 63) rfl rfl (take_ofW HT_.out HW_.out (by kernel_rfl)) (fun _ _ _ h => h) (Or.inl ⟨by rfl, ?_⟩) hHeld ?_ ?_
      rotate_left
      · intro w' s0
        (try dsimp only at s0)
        go_simp
        with_reducible rfl
      rotate_left
      · simp only [Act.put, List.setIfInBounds_toArray, List.set_cons_zero, List.set_cons_succ, i64_w, i32_w]
        rfl
      refine pure_ (i := 6) (N := (some 21)) (v := ?_) (a' := ?_) (bb 19 127) rfl rfl (any_of HT_.out (by kernel_rfl)) (fun _ _ _ h => h) (Or.inl ⟨by rfl, ?_⟩) ?_ ?_
      rotate_left
      · intro w'
        go_simp
        with_reducible rfl
      rotate_left
      · simp only [Act.put, List.setIfInBounds_toArray, List.set_cons_zero, List.set_cons_succ, i64_w, i32_w]
        rfl
      refine take_ (i := 7) (N := (some 22)) (v := ?_) (a' := ?_) (bb 19 255) rfl rfl (take_ofW HT_.out HW_.out (by kernel_rfl)) (fun _ _ _ h => h) (Or.inl ⟨by rfl, ?_⟩) hHeld ?_ ?_
      rotate_left
      · intro w' s0
        (try dsimp only at s0)
        go_simp
        with_reducible rfl
      rotate_left
      · simp only [Act.put, List.setIfInBounds_toArray, List.set_cons_zero, List.set_cons_succ, i64_w, i32_w]
        rfl
      refine pure_ (i := 8) (N := (some 23)) (v := ?_) (a' := ?_) (bb 19 511) rfl rfl (any_of HT_.out (by kernel_rfl)) (fun _ _ _ h => h) (Or.inl ⟨by rfl, ?_⟩) ?_ ?_
      rotate_left
      · intro w'
        go_simp
        with_reducible rfl
      rotate_left
      · simp only [Act.put, List.setIfInBounds_toArray, List.set_cons_zero, List.set_cons_succ, i64_w, i32_w]
        rfl
      refine pure_ (i := 9) (N := (some 24)) (v := ?_) (a' := ?_) (bb 19 1023) rfl rfl (any_of HT_.out (by kernel_rfl)) (fun _ _ _ h => h) (Or.inl ⟨by rfl, ?_⟩) ?_ ?_
      rotate_left
      · intro w'
        go_simp
        with_reducible rfl
      rotate_left
      · simp only [Act.put, List.setIfInBounds_toArray, List.set_cons_zero, List.set_cons_succ, i64_w, i32_w]
        rfl
      refine pure_ (i := 10) (N := (some 25)) (v := ?_) (a' := ?_) (bb 19 2047) rfl rfl (any_of HT_.out (by kernel_rfl)) (fun _ _ _ h => h) (Or.inl ⟨by rfl, ?_⟩) ?_ ?_
      rotate_left
      · intro w'
        go_simp
        with_reducible rfl
      rotate_left
      · simp only [Act.put, List.setIfInBounds_toArray, List.set_cons_zero, List.set_cons_succ, i64_w, i32_w]
        rfl
      refine pure_ (i := 11) (N := (some 26)) (v := undef) (a' := ?_) (bb 19 4095) rfl rfl (any_of HT_.out (by kernel_rfl)) (fun _ _ _ h => h) (Or.inr ⟨by rfl, rfl⟩) ?_ ?_
      rotate_left
      · simp only [Act.put, List.setIfInBounds_toArray, List.set_cons_zero, List.set_cons_succ, i64_w, i32_w]
        rfl
      refine pure_ (i := 12) (N := (some 27)) (v := undef) (a' := ?_) (bb 19 8191) rfl rfl (any_of HT_.out (by kernel_rfl)) (fun _ _ _ h => h) (Or.inr ⟨by rfl, rfl⟩) ?_ ?_
      rotate_left
      · simp only [Act.put, List.setIfInBounds_toArray, List.set_cons_zero, List.set_cons_succ, i64_w, i32_w]
        rfl
      refine pure_ (i := 13) (N := (some 28)) (v := undef) (a' := ?_) (bb 19 16383) rfl rfl (any_of HT_.out (by kernel_rfl)) (fun _ _ _ h => h) (Or.inr ⟨by rfl, rfl⟩) ?_ ?_
      rotate_left
      · simp only [Act.put, List.setIfInBounds_toArray, List.set_cons_zero, List.set_cons_succ, i64_w, i32_w]
        rfl
      refine pure_ (i := 14) (N := (some 29)) (v := undef) (a' := ?_) (bb 19 32767) rfl rfl (any_of HT_.out (by kernel_rfl)) (fun _ _ _ h => h) (Or.inr ⟨by rfl, rfl⟩) ?_ ?_
      rotate_left
      · simp only [Act.put, List.setIfInBounds_toArray, List.set_cons_zero, List.set_cons_succ, i64_w, i32_w]
        rfl
      refine pure_ (i := 15) (N := (some 30)) (v := undef) (a' := ?_) (bb 19 65535) rfl rfl (any_of HT_.out (by kernel_rfl)) (fun _ _ _ h => h) (Or.inr ⟨by rfl, rfl⟩) ?_ ?_
      rotate_left
      · simp only [Act.put, List.setIfInBounds_toArray, List.set_cons_zero, List.set_cons_succ, i64_w, i32_w]
        rfl
      refine pure_ (i := 16) (N := (some 31)) (v := ?_) (a' := ?_) (bb 19 131071) rfl rfl (any_of HT_.out (by kernel_rfl)) (fun _ _ _ h => h) (Or.inl ⟨by rfl, ?_⟩) ?_ ?_
      rotate_left
      · intro w'
        go_simp
        with_reducible rfl
      rotate_left
      · simp only [Act.put, List.setIfInBounds_toArray, List.set_cons_zero, List.set_cons_succ, i64_w, i32_w]
        rfl
      refine one_ (i := 17) (N := none) (bb 19 262143) rfl rfl (one_of HT_.out (by kernel_rfl)) (by decide) (fun K hK => ?_)
      rw [if_pos (by rfl)]
      refine Sep.store_wp 27 _ _ rfl rfl rfl HSy.out.up2 HSZ.out HZV.out HVA.out (fun w4 h4 => ?_)
      have HS4 := Aside0.mk h4
      clear h4
      refine hK.out _ _ (HHS.out _ _ HS4.out.down2) (fun hHeld => ?_)
      clear hK K
      refine norm_ (a' := ?_) ?_ ?_
      rotate_left
      · show Act.put _ none _ = _
        simp only [Act.put, List.setIfInBounds_toArray, List.set_cons_zero, List.set_cons_succ, i64_w, i32_w]
        rfl
      refine pure_ (i := 18) (N := (some 5)) (v := ?_) (a' := ?_) (bb 19 524287) rfl rfl (any_of HT_.out (by kernel_rfl)) (fun _ _ _ h => h) (Or.inl ⟨by rfl, ?_⟩) ?_ ?_
      rotate_left
      · intro w'
        go_simp
        with_reducible rfl
      rotate_left
      · simp only [Act.put, List.setIfInBounds_toArray, List.set_cons_zero, List.set_cons_succ, i64_w, i32_w]
        rfl
      refine done_ (done_of HT_.out (by kernel_rfl)) ?_
      clear hHeld HT_ HW_ HSy
      go_wp2
      refine bodyPost_ret (results_row_tmp (p := 4) (u := 5) (ty := 27) rfl _ _ g4 27 V (0, 0) _ _ rfl rfl HS4.out.cells.1 Tryd.underlying27 rfl HSZ.out) rfl ⟨?_, ?_⟩
      · rw [HSM.out]
        simp [ha]
        first | done | rfl
      · exact HS4.out.drop.drop.up1.drop
  · skip
    refine start_ (n := 19) (S := fun W => W.cell? ⟨g6, 0, none⟩ = some (.int .i64 s.a) ∧ W.cell? ⟨g6, 2, none⟩ = some (.int .i64 s.c) ∧ W.cell? ⟨gs, 0, none⟩ = some (.int .i64 (n : Int)) ∧ (∀ j v, V.toList[j]? = some v → W.cell? ((⟨g6, 0, none⟩ : Addr).add j) = some v)) (ds := []) (bb 19 0) (by kernel_rfl) rfl rfl (HHS.out _ _ HSy.out) (fun hHeld => ?_); refine with_tabW sox_tab sox_bits (fun HT_ HW_ => ?_)
    generalize wx.drew = wd at hHeld HSy ⊢
    refine take_ (i := 0) (N := (some 15)) (v := .agg V) (a' := ?_) (bb 19 1) rfl rfl (take_ofW HT_.out HW_.out (by kernel_rfl)) (fun _ _ _ h => h) (Or.inl ⟨by rfl, fun w' s0 => yields_ld 27 _ rfl ⟨g6, 0, none⟩ rfl V _ s0.2.2.2 Tryd.underlying27 rfl HSZ.out⟩) hHeld ?_ ?_
    rotate_left
    · simp only [Act.put, List.setIfInBounds_toArray, List.set_cons_zero, List.set_cons_succ, i64_w, i32_w]
      rfl
    refine pure_ (i := 1) (N := (some 16)) (v := ?_) (a' := ?_) (bb 19 3) rfl rfl (any_of HT_.out (by kernel_rfl)) (fun _ _ _ h => h) (Or.inl ⟨by rfl, ?_⟩) ?_ ?_
    rotate_left
    · intro w'
      go_simp
      with_reducible rfl
    rotate_left
    · simp only [Act.put, List.setIfInBounds_toArray, List.set_cons_zero, List.set_cons_succ, i64_w, i32_w]
      rfl
    refine pure_ (i := 2) (N := (some 17)) (v := ?_) (a' := ?_) (bb 19 7) rfl rfl (any_of HT_.out (by kernel_rfl)) (fun _ _ _ h => h) (Or.inl ⟨by rfl, ?_⟩) ?_ ?_
    rotate_left
    · intro w'
      go_simp
      with_reducible rfl
    rotate_left
    · simp only [Act.put, List.setIfInBounds_toArray, List.set_cons_zero, List.set_cons_succ, i64_w, i32_w]
      rfl
    refine pure_ (i := 3) (N := (some 18)) (v := ?_) (a' := ?_) (bb 19 15) rfl rfl (any_of HT_.out (by kernel_rfl)) (fun _ _ _ h => h) (Or.inl ⟨by rfl, ?_⟩) ?_ ?_
    rotate_left
    · intro w'
      go_simp
      with_reducible rfl
    rotate_left
    · simp only [Act.put, List.setIfInBounds_toArray, List.set_cons_zero, List.set_cons_succ, i64_w, i32_w]
      rfl
    refine pure_ (i := 4) (N := (some 19)) (v := undef) (a' := ?_) (bb 19 31) rfl rfl (any_of HT_.out (by kernel_rfl)) (fun _ _ _ h => h) (Or.inr ⟨by rfl, rfl⟩) ?_ ?_
    rotate_left
    · simp only [Act.put, List.setIfInBounds_toArray, List.set_cons_zero, List.set_cons_succ, i64_w, i32_w]
      rfl
    refine pure_ (i := 5) (N := (some 20)) (v := undef) (a' := ?_) (bb 19 63) rfl rfl (any_of HT_.out (by kernel_rfl)) (fun _ _ _ h => h) (Or.inr ⟨by rfl, rfl⟩) ?_ ?_
    rotate_left
    · simp only [Act.put, List.setIfInBounds_toArray, List.set_cons_zero, List.set_cons_succ, i64_w, i32_w]
      rfl
    refine pure_ (i := 6) (N := (some 21)) (v := undef) (a' := ?_) (bb 19 127) rfl rfl (any_of HT_.out (by kernel_rfl)) (fun _ _ _ h => h) (Or.inr ⟨by rfl, rfl⟩) ?_ ?_
    rotate_left
    · simp only [Act.put, List.setIfInBounds_toArray, List.set_cons_zero, List.set_cons_succ, i64_w, i32_w]
      rfl
    refine pure_ (i := 7) (N := (some 22)) (v := undef) (a' := ?_) (bb 19 255) rfl rfl (any_of HT_.out (by kernel_rfl)) (fun _ _ _ h => h) (Or.inr ⟨by rfl, rfl⟩) ?_ ?_
    rotate_left
    · simp only [Act.put, List.setIfInBounds_toArray, List.set_cons_zero, List.set_cons_succ, i64_w, i32_w]
      rfl
    refine pure_ (i := 8) (N := (some 23)) (v := undef) (a' := ?_) (bb 19 511) rfl rfl (any_of HT_.out (by kernel_rfl)) (fun _ _ _ h => h) (Or.inr ⟨by rfl, rfl⟩) ?_ ?_
    rotate_left
    · simp only [Act.put, List.setIfInBounds_toArray, List.set_cons_zero, List.set_cons_succ, i64_w, i32_w]
      rfl
    refine pure_ (i := 9) (N := (some 24)) (v := ?_) (a' := ?_) (bb 19 1023) rfl rfl (any_of HT_.out (by kernel_rfl)) (fun _ _ _ h => h) (Or.inl ⟨by rfl, ?_⟩) ?_ ?_
    rotate_left
    · intro w'
      go_simp
      with_reducible rfl
    rotate_left
    · simp only [Act.put, List.setIfInBounds_toArray, List.set_cons_zero, List.set_cons_succ, i64_w, i32_w]
      rfl
    refine pure_ (i := 10) (N := (some 25)) (v := ?_) (a' := ?_) (bb 19 2047) rfl rfl (any_of HT_.out (by kernel_rfl)) (fun _ _ _ h => h) (Or.inl ⟨by rfl, ?_⟩) ?_ ?_
    rotate_left
    · intro w'
      go_simp
      with_reducible rfl
    rotate_left
    · simp only [Act.put, List.setIfInBounds_toArray, List.set_cons_zero, List.set_cons_succ, i64_w, i32_w]
      rfl
    refine pure_ (i := 11) (N := (some 26)) (v := undef) (a' := ?_) (bb 19 4095) rfl rfl (any_of HT_.out (by kernel_rfl)) (fun _ _ _ h => h) (Or.inr ⟨by rfl, rfl⟩) ?_ ?_
    rotate_left
    · simp only [Act.put, List.setIfInBounds_toArray, List.set_cons_zero, List.set_cons_succ, i64_w, i32_w]
      rfl
    refine pure_ (i := 12) (N := (some 27)) (v := undef) (a' := ?_) (bb 19 8191) rfl rfl (any_of HT_.out (by kernel_rfl)) (fun _ _ _ h => h) (Or.inr ⟨by rfl, rfl⟩) ?_ ?_
    rotate_left
    · simp only [Act.put, List.setIfInBounds_toArray, List.set_cons_zero, List.set_cons_succ, i64_w, i32_w]
      rfl
    refine pure_ (i := 13) (N := (some 28)) (v := undef) (a' := ?_) (bb 19 16383) rfl rfl (any_of HT_.out (by kernel_rfl)) (fun _ _ _ h => h) (Or.inr ⟨by rfl, rfl⟩) ?_ ?_
    rotate_left
    · simp only [Act.put, List.setIfInBounds_toArray, List.set_cons_zero, List.set_cons_succ, i64_w, i32_w]
      rfl
    refine pure_ (i := 14) (N := (some 29)) (v := undef) (a' := ?_) (bb 19 32767) rfl rfl (any_of HT_.out (by kernel_rfl)) (fun _ _ _ h => h) (Or.inr ⟨by rfl, rfl⟩) ?_ ?_
    rotate_left
    · simp only [Act.put, List.setIfInBounds_toArray, List.set_cons_zero, List.set_cons_succ, i64_w, i32_w]
      rfl
    refine pure_ (i := 15) (N := (some 30)) (v := undef) (a' := ?_) (bb 19 65535) rfl rfl (any_of HT_.out (by kernel_rfl)) (fun _ _ _ h => h) (Or.inr ⟨by rfl, rfl⟩) ?_ ?_
    rotate_left
    · simp only [Act.put, List.setIfInBounds_toArray, List.set_cons_zero, List.set_cons_succ, i64_w, i32_w]
      rfl
    refine pure_ (i := 16) (N := (some 31)) (v := ?_) (a' := ?_) (bb 19 131071) rfl rfl (any_of HT_.out (by kernel_rfl)) (fun _ _ _ h => h) (Or.inl ⟨by rfl, ?_⟩) ?_ ?_
    rotate_left
    · intro w'
      go_simp
      with_reducible rfl
    rotate_left
    · simp only [Act.put, List.setIfInBounds_toArray, List.set_cons_zero, List.set_cons_succ, i64_w, i32_w]
      rfl
    refine one_ (i := 17) (N := none) (bb 19 262143) rfl rfl (one_of HT_.out (by kernel_rfl)) (by decide) (fun K hK => ?_)
    rw [if_pos (by rfl)]
    refine Sep.store_wp 27 _ _ rfl rfl rfl HSy.out.up2 HSZ.out HZV.out HVA.out (fun w4 h4 => ?_)
    have HS4 := Aside0.mk h4
    clear h4
    refine hK.out _ _ (HHS.out _ _ HS4.out.down2) (fun hHeld => ?_)
    clear hK K
    refine norm_ (a' := ?_) ?_ ?_
    rotate_left
    · show Act.put _ none _ = _
      simp only [Act.put, List.setIfInBounds_toArray, List.set_cons_zero, List.set_cons_succ, i64_w, i32_w]
      rfl
    refine pure_ (i := 18) (N := (some 5)) (v := ?_) (a' := ?_) (bb 19 524287) rfl rfl (any_of HT_.out (by kernel_rfl)) (fun _ _ _ h => h) (Or.inl ⟨by rfl, ?_⟩) ?_ ?_
    rotate_left
    · intro w'
      go_simp
      with_reducible rfl
    rotate_left
    · simp only [Act.put, List.setIfInBounds_toArray, List.set_cons_zero, List.set_cons_succ, i64_w, i32_w]
      rfl
    refine done_ (done_of HT_.out (by kernel_rfl)) ?_
    clear hHeld HT_ HW_ HSy
    go_wp2
    refine bodyPost_ret (results_row_tmp (p := 4) (u := 5) (ty := 27) rfl _ _ g4 27 V (0, 0) _ _ rfl rfl HS4.out.cells.1 Tryd.underlying27 rfl HSZ.out) rfl ⟨?_, ?_⟩
    · rw [HSM.out]
      simp
    · exact HS4.out.drop.drop.up1.drop
end Go.Proofs.YtaflofcnjakaaaaDoor.M

namespace Go.Proofs.YtaflofcnjakaaaaDoor.M
open Go.RowKit Go.Maps Go.Proofs.YtaflofcnjakaaaaDoorW.PrintWords Go.Proofs.YtaflofcnjakaaaaDoorW.PrintLast Go.Proofs.YtaflofcnjakaaaaDoorW.PrintMore Go.Proofs.YtaflofcnjakaaaaDoor.Wr Go.Proofs.YtaflofcnjakaaaaDoor.Pl Go.Proofs.YtaflofcnjakaaaaDoor.Z Go.Proofs.YtaflofcnjakaaaaDoor.A
set_option linter.unusedVariables false
set_option linter.unusedSimpArgs false
def twoS (is too : Bool) (a b : SL) : SL := if too = true ∧ (is = false ∨ a.c < b.c) then b else if is = true then a else noSL
def twoE (is too : Bool) : Int := if is = true ∨ too = true then 0 else 180
theorem decE0_may {b : List Int} (hb : bytes_ b) (h : decE b = 0) : (decS b).May := by
  cases hd : decB b with
  | none => rw [(decS_no hd).2] at h; cases h
  | some s => rw [(decS_yes hd).1]; exact (dec_some hb hd).2.1
theorem two_read {N : Int} {cur : Nat → List Int} (hb : ∀ j, bytes_ (cur j)) :
    readS N cur = twoS (soundM N 0 (cur 0)) (soundM N 1 (cur 1)) (decS (cur 0)) (decS (cur 1)) ∧ readE N cur = twoE (soundM N 0 (cur 0)) (soundM N 1 (cur 1)) := by
  have e0 : soundM N 0 (cur 0) = true ↔ decE (cur 0) = 0 ∧ (decS (cur 0)).a = N ∧ (decS (cur 0)).c.tmod 2 = 0 := by unfold soundM; simp
  have e1 : soundM N 1 (cur 1) = true ↔ decE (cur 1) = 0 ∧ (decS (cur 1)).a = N ∧ (decS (cur 1)).c.tmod 2 = 1 := by unfold soundM; simp
  have hbst : bestJ N cur 2 = pickS N 1 (pickS N 0 startSL (decS (cur 0)) (decE (cur 0))) (decS (cur 1)) (decE (cur 1)) := rfl
  unfold readS readE
  rw [hbst]
  cases h0 : soundM N 0 (cur 0) with
  | true =>
    obtain ⟨g1, g2, g3⟩ := e0.1 h0
    have hc0 := (decE0_may (hb 0) g1).c.1
    have p0 : pickS N 0 startSL (decS (cur 0)) (decE (cur 0)) = decS (cur 0) := by
      unfold pickS
      rw [if_pos ⟨g1, g2, g3, by show (-1 : Int) < _; omega⟩]
    rw [p0]
    cases h1 : soundM N 1 (cur 1) with
    | true =>
      obtain ⟨k1, k2, k3⟩ := e1.1 h1
      have hc1 := (decE0_may (hb 1) k1).c.1
      by_cases hl : (decS (cur 0)).c < (decS (cur 1)).c
      · have p1 : pickS N 1 (decS (cur 0)) (decS (cur 1)) (decE (cur 1)) = decS (cur 1) := by
          unfold pickS
          rw [if_pos ⟨k1, k2, k3, hl⟩]
        rw [p1, if_neg (by omega), if_neg (by omega)]
        exact ⟨by unfold twoS; rw [if_pos ⟨rfl, .inr hl⟩], by unfold twoE; simp⟩
      · have p1 : pickS N 1 (decS (cur 0)) (decS (cur 1)) (decE (cur 1)) = decS (cur 0) := by
          unfold pickS
          rw [if_neg (fun h => hl h.2.2.2)]
        rw [p1, if_neg (by omega), if_neg (by omega)]
        exact ⟨by unfold twoS; rw [if_neg (by simp [hl]), if_pos rfl], by unfold twoE; simp⟩
    | false =>
      have p1 : pickS N 1 (decS (cur 0)) (decS (cur 1)) (decE (cur 1)) = decS (cur 0) := by
        unfold pickS
        rw [if_neg (fun h => by have := e1.2 ⟨h.1, h.2.1, h.2.2.1⟩; rw [h1] at this; cases this)]
      rw [p1, if_neg (by omega), if_neg (by omega)]
      exact ⟨by unfold twoS; rw [if_neg (by simp), if_pos rfl], by unfold twoE; simp⟩
  | false =>
    have p0 : pickS N 0 startSL (decS (cur 0)) (decE (cur 0)) = startSL := by
      unfold pickS
      rw [if_neg (fun h => by have := e0.2 ⟨h.1, h.2.1, h.2.2.1⟩; rw [h0] at this; cases this)]
    rw [p0]
    cases h1 : soundM N 1 (cur 1) with
    | true =>
      obtain ⟨k1, k2, k3⟩ := e1.1 h1
      have hc1 := (decE0_may (hb 1) k1).c.1
      have p1 : pickS N 1 startSL (decS (cur 1)) (decE (cur 1)) = decS (cur 1) := by
        unfold pickS
        rw [if_pos ⟨k1, k2, k3, by show (-1 : Int) < _; omega⟩]
      rw [p1, if_neg (by omega), if_neg (by omega)]
      exact ⟨by unfold twoS; rw [if_pos ⟨rfl, .inl rfl⟩], by unfold twoE; simp⟩
    | false =>
      have p1 : pickS N 1 startSL (decS (cur 1)) (decE (cur 1)) = startSL := by
        unfold pickS
        rw [if_neg (fun h => by have := e1.2 ⟨h.1, h.2.1, h.2.2.1⟩; rw [h1] at this; cases this)]
      rw [p1, if_pos (by decide), if_pos (by decide)]
      exact ⟨by unfold twoS; rw [if_neg (by simp), if_neg (by simp)], by unfold twoE; simp⟩
set_option maxHeartbeats 8000000 in
set_option maxRecDepth 100000 in
theorem Sep.read18 {w0 w : World} {M : List Th} {A1 A2 : Option Addr} {c1 c2 p q : Nat} {l1 l2 : List S106} {D : DS} {n : Nat} {r wr fl : Int} (h : Sep w0 w (refT (.slice A1 p c1) (.slice A2 q c2) l1 l2 :: M)) (hR : Rl D l1 l2) (hn : D.n = n) (hp : l1.length = p) (hq : l2.length = q) (hl : p + q ≤ 1000) (h2 : 2 ≤ n) (hc : ∀ j, j < 2 → (D.cur j).length = 512) (hb : ∀ j, bytes_ (D.cur j)) :
    Calls Tryd.prog 29 #[.agg #[.int .i64 (n : Int), .slice A1 p c1, .slice A2 q c2, .int .i64 r, .int .i64 wr, .int .i64 fl]] w fun e w' => e = .returned (.tuple #[.agg (readS (n : Int) D.cur).V.toArray, .int .i64 (readE (n : Int) D.cur)]) ∧ Sep w0 w' (refT (.slice A1 p c1) (.slice A2 q c2) l1 l2 :: M) := by
  rw [(two_read hb).1, (two_read hb).2]
  have HS0_ := Aside0.mk (fun W (N : List Th) (h : Sep w0 W (refT (.slice A1 p c1) (.slice A2 q c2) l1 l2 :: N)) => (show Calls Tryd.prog 53 #[.agg #[.int .i64 (n : Int), .slice A1 p c1, .slice A2 q c2, .int .i64 r, .int .i64 wr, .int .i64 fl], .int .i64 0] W (fun e w' => e = .returned (.tuple #[.agg (decS (D.cur 0)).V.toArray, .bool (soundM (n : Int) 0 (D.cur 0))]) ∧ Sep w0 w' (refT (.slice A1 p c1) (.slice A2 q c2) l1 l2 :: N)) from Sep.sound h hR hn hp hq hl (i := 0) (by omega) (hc 0 (by decide)) (hb 0)))
  have HS1_ := Aside0.mk (fun W (N : List Th) (h : Sep w0 W (refT (.slice A1 p c1) (.slice A2 q c2) l1 l2 :: N)) => (show Calls Tryd.prog 53 #[.agg #[.int .i64 (n : Int), .slice A1 p c1, .slice A2 q c2, .int .i64 r, .int .i64 wr, .int .i64 fl], .int .i64 1] W (fun e w' => e = .returned (.tuple #[.agg (decS (D.cur 1)).V.toArray, .bool (soundM (n : Int) 1 (D.cur 1))]) ∧ Sep w0 w' (refT (.slice A1 p c1) (.slice A2 q c2) l1 l2 :: N)) from Sep.sound h hR hn hp hq hl (i := 1) (by omega) (hc 1 (by decide)) (hb 1)))
  have ha := decS_ok (hb 0)
  have hbk := decS_ok (hb 1)
  have HSI := Aside0.mk (h.push_alloc #[.int .i64 (n : Int), .slice A1 p c1, .slice A2 q c2, .int .i64 r, .int .i64 wr, .int .i64 fl] 43)
  clear h hR hn hp hq hl h2 hc hb
  generalize soundM (n : Int) 0 (D.cur 0) = is at *
  generalize soundM (n : Int) 1 (D.cur 1) = too at *
  generalize decS (D.cur 0) = a at *
  generalize decS (D.cur 1) = b at *
  have HZA := Aside0.mk (SlAt.sa ha)
  have HZB := Aside0.mk (SlAt.sa hbk)
  have HAA := Aside0.mk (SL.V_all a)
  have HAB := Aside0.mk (SL.V_all b)
  have hz := (zero_of_info (P := Tryd.prog) (t := 27) (v := .agg noSL.V.toArray) (n := 105) (by kernel_rfl)).1
  have HBZ := Aside0.mk (show Tryd.prog.built 27 [] = some noSL.V.toArray from built27z)
  have HSZ := Aside0.mk (SlAt.sa noSL_ok)
  have HAZ := Aside0.mk (SL.V_all noSL)
  have HQA := Aside0.mk (show noSL.V.toArray.size = a.V.toArray.size from by simp only [List.size_toArray]; rw [SL.V_len noSL_ok, SL.V_len ha])
  have HQB := Aside0.mk (show noSL.V.toArray.size = b.V.toArray.size from by simp only [List.size_toArray]; rw [SL.V_len noSL_ok, SL.V_len hbk])
  have HLV := Aside0.mk (fun (s : SL) W (M : List Th) g (h : Sep w0 W (cellsT g s.V.toArray 27 :: M)) => (show ∀ j v, s.V.toArray.toList[j]? = some v → W.cell? ((⟨g, 0, none⟩ : Addr).add j) = some v from fun j v hv => seg_at h.cells.1 0 s.V (by rw [List.drop_zero]; exact List.take_of_length_le (Nat.le_refl _)) j v (by simpa using hv)))
  have HLFa := Aside0.mk (fun W (M : List Th) g (h : Sep w0 W (cellsT g a.V.toArray 27 :: M)) => (show W.cell? ⟨g, 2, none⟩ = some (.int .i64 a.c) from (SlAt.mk h.cells.1 ha).c2))
  have HLFb := Aside0.mk (fun W (M : List Th) g (h : Sep w0 W (cellsT g b.V.toArray 27 :: M)) => (show W.cell? ⟨g, 2, none⟩ = some (.int .i64 b.c) from (SlAt.mk h.cells.1 hbk).c2))
  have HTB := Aside0.mk (show too = true → (is = false ∨ a.c < b.c) → twoS is too a b = b ∧ twoE is too = 0 from fun h1 h2 => ⟨if_pos ⟨h1, h2⟩, if_pos (.inr h1)⟩)
  have HTA := Aside0.mk (show is = true → ¬ (too = true ∧ (is = false ∨ a.c < b.c)) → twoS is too a b = a ∧ twoE is too = 0 from fun h1 h2 => ⟨by unfold twoS; rw [if_neg h2, if_pos h1], if_pos (.inl h1)⟩)
  have HTN := Aside0.mk (show is = false → too = false → twoS is too a b = noSL ∧ twoE is too = 180 from fun h1 h2 => by subst h1 h2; exact ⟨by unfold twoS; rw [if_neg (by simp), if_neg (by simp)], by unfold twoE; rw [if_neg (by simp)]⟩)
  clear ha hbk
  generalize hTS : (twoS is too a b).V.toArray = RV
  have HRVb := Aside0.mk (show twoS is too a b = b → RV = b.V.toArray from fun h => by rw [← hTS, h])
  have HRVa := Aside0.mk (show twoS is too a b = a → RV = a.V.toArray from fun h => by rw [← hTS, h])
  have HRVn := Aside0.mk (show twoS is too a b = noSL → RV = noSL.V.toArray from fun h => by rw [← hTS, h])
  clear hTS
  generalize twoE is too = RE at *
  generalize noSL.V.toArray = Z at *
  go_enter Tryd.func29, Tryd.ntmps29
  go_upto_region 1 with (fail)
  have HS0 := Aside0.mk (HSI.out.push_alloc Z 27)
  have hsz : (w.alloc (.cells #[.int .i64 (n : Int), .slice A1 p c1, .slice A2 q c2, .int .i64 r, .int .i64 wr, .int .i64 fl] 43)).heap.size = w.heap.size + 1 := by show (w.heap.push _).size = _; simp
  rw [hsz] at HS0
  generalize (w.alloc (.cells #[.int .i64 (n : Int), .slice A1 p c1, .slice A2 q c2, .int .i64 r, .int .i64 wr, .int .i64 fl] 43)).alloc (.cells Z 27) = w2 at HS0 ⊢
  generalize hg2 : w.heap.size + 1 = g2 at HS0 ⊢
  generalize w.heap.size = gs at HS0 ⊢
  clear HSI hsz hg2
  obtain ⟨y0, y1, y2, y3, y4, y5⟩ := rf_held HS0.out.up1
  go_upto_region 2 with (first
    | (go_at_call 53; (with_reducible refine (HS0_.out _ _ HS0.out.up2).mono ?_); rintro e w3 ⟨rfl, h3⟩; have HS3 := Aside0.mk h3; clear h3)
    | ((with_reducible refine gate_store (ty := 27) rfl ?_); refine Sep.store_own rfl 27 _ _ rfl rfl rfl (HS3.out.push_alloc Z 27) HZA.out HQA.out HAA.out ?_; intro w4 h4; have HS4 := Aside0.mk h4; clear h4))
  generalize w3.heap.size = g4 at HS4 ⊢
  clear y0 y1 y2 y3 y4 y5 HS0 HS3 HS0_
  obtain ⟨y0, y1, y2, y3, y4, y5⟩ := rf_held HS4.out.up3
  go_upto_region 3 with (first
    | (go_at_call 53; (with_reducible refine (HS1_.out _ _ HS4.out.up1).mono ?_); rintro e w5 ⟨rfl, h5⟩; have HS5 := Aside0.mk h5; clear h5)
    | ((with_reducible refine gate_store (ty := 27) rfl ?_); refine Sep.store_own rfl 27 _ _ rfl rfl rfl (HS5.out.push_alloc Z 27) HZB.out HQB.out HAB.out ?_; intro w6 h6; have HS6 := Aside0.mk h6; clear h6))
  generalize w5.heap.size = g6 at HS6 ⊢
  clear y0 y1 y2 y3 y4 y5 HS4 HS5 HS1_
  have ya := HLFa.out _ _ _ HS6.out.up2
  have yb := HLFb.out _ _ _ HS6.out
  cases too with
  | true =>
    cases is with
    | true =>
      by_cases hl : a.c < b.c
      · have tl : decide (a.c < b.c) = true := decide_eq_true hl
        go_wp2_with (first
          | ((with_reducible refine gate_load (ty := 27) rfl ?_); refine wpList_ldw ?_ 27 _ rfl ⟨g6, 0, none⟩ ?_ b.V.toArray _ (HLV.out b _ _ _ HS6.out) Tryd.underlying27 rfl HZB.out ?_; exact rfl; exact rfl; skip)
          | ((with_reducible refine gate_store (ty := 27) rfl ?_); refine Sep.store_own rfl 27 _ _ rfl rfl rfl HS6.out.up3 HZB.out HQB.out HAB.out ?_; intro w7 h7; have HS7 := Aside0.mk h7; clear h7))
        obtain ⟨h1, h2⟩ := HTB.out (by simp) (by simp [*])
        subst h2
        rw [HRVb.out h1]
        refine bodyPost_ret (results_row_tmp (p := 2) (u := 3) (ty := 27) rfl _ _ g2 27 b.V.toArray (0, 0) _ _ rfl rfl HS7.out.cells.1 Tryd.underlying27 rfl HZB.out) rfl ⟨rfl, ?_⟩
        exact HS7.out.drop.drop.up1.drop.up1.drop
      · have tl : decide (a.c < b.c) = false := decide_eq_false hl
        go_wp2_with (first
          | ((with_reducible refine gate_load (ty := 27) rfl ?_); refine wpList_ldw ?_ 27 _ rfl ⟨g4, 0, none⟩ ?_ a.V.toArray _ (HLV.out a _ _ _ HS6.out.up2) Tryd.underlying27 rfl HZA.out ?_; exact rfl; exact rfl; skip)
          | ((with_reducible refine gate_store (ty := 27) rfl ?_); refine Sep.store_own rfl 27 _ _ rfl rfl rfl HS6.out.up3 HZA.out HQA.out HAA.out ?_; intro w7 h7; have HS7 := Aside0.mk h7; clear h7))
        obtain ⟨h1, h2⟩ := HTA.out (by simp) (by simp [*])
        subst h2
        rw [HRVa.out h1]
        refine bodyPost_ret (results_row_tmp (p := 2) (u := 3) (ty := 27) rfl _ _ g2 27 a.V.toArray (0, 0) _ _ rfl rfl HS7.out.cells.1 Tryd.underlying27 rfl HZA.out) rfl ⟨rfl, ?_⟩
        exact HS7.out.drop.drop.up1.drop.up1.drop
    | false =>
      go_wp2_with (first
        | ((with_reducible refine gate_load (ty := 27) rfl ?_); refine wpList_ldw ?_ 27 _ rfl ⟨g6, 0, none⟩ ?_ b.V.toArray _ (HLV.out b _ _ _ HS6.out) Tryd.underlying27 rfl HZB.out ?_; exact rfl; exact rfl; skip)
        | ((with_reducible refine gate_store (ty := 27) rfl ?_); refine Sep.store_own rfl 27 _ _ rfl rfl rfl HS6.out.up3 HZB.out HQB.out HAB.out ?_; intro w7 h7; have HS7 := Aside0.mk h7; clear h7))
      obtain ⟨h1, h2⟩ := HTB.out (by simp) (by simp [*])
      subst h2
      rw [HRVb.out h1]
      refine bodyPost_ret (results_row_tmp (p := 2) (u := 3) (ty := 27) rfl _ _ g2 27 b.V.toArray (0, 0) _ _ rfl rfl HS7.out.cells.1 Tryd.underlying27 rfl HZB.out) rfl ⟨rfl, ?_⟩
      exact HS7.out.drop.drop.up1.drop.up1.drop
  | false =>
    cases is with
    | true =>
      go_wp2_with (first
        | ((with_reducible refine gate_load (ty := 27) rfl ?_); refine wpList_ldw ?_ 27 _ rfl ⟨g4, 0, none⟩ ?_ a.V.toArray _ (HLV.out a _ _ _ HS6.out.up2) Tryd.underlying27 rfl HZA.out ?_; exact rfl; exact rfl; skip)
        | ((with_reducible refine gate_store (ty := 27) rfl ?_); refine Sep.store_own rfl 27 _ _ rfl rfl rfl HS6.out.up3 HZA.out HQA.out HAA.out ?_; intro w7 h7; have HS7 := Aside0.mk h7; clear h7))
      obtain ⟨h1, h2⟩ := HTA.out (by simp) (by simp [*])
      subst h2
      rw [HRVa.out h1]
      refine bodyPost_ret (results_row_tmp (p := 2) (u := 3) (ty := 27) rfl _ _ g2 27 a.V.toArray (0, 0) _ _ rfl rfl HS7.out.cells.1 Tryd.underlying27 rfl HZA.out) rfl ⟨rfl, ?_⟩
      exact HS7.out.drop.drop.up1.drop.up1.drop
    | false =>
      go_wp2_with (first
        | ((with_reducible refine gate_build (ty := 27) rfl ?_); refine wpList_buildTo rfl 27 _ rfl (some 33) rfl Z ?aB ?_; (case aB => (simp only [List.map_toArray, List.map_nil]; exact HBZ.out)))
        | ((with_reducible refine gate_store (ty := 27) rfl ?_); refine Sep.store_own rfl 27 _ _ rfl rfl rfl HS6.out.up3 HSZ.out rfl HAZ.out ?_; intro w7 h7; have HS7 := Aside0.mk h7; clear h7))
      obtain ⟨h1, h2⟩ := HTN.out (by simp) (by simp)
      subst h2
      rw [HRVn.out h1]
      refine bodyPost_ret (results_row_tmp (p := 2) (u := 3) (ty := 27) rfl _ _ g2 27 Z (0, 0) _ _ rfl rfl HS7.out.cells.1 Tryd.underlying27 rfl HSZ.out) rfl ⟨rfl, ?_⟩
      exact HS7.out.drop.drop.up1.drop.up1.drop
end Go.Proofs.YtaflofcnjakaaaaDoor.M

namespace Go.Proofs.YtaflofcnjakaaaaDoor.M
open Go.RowKit Go.Maps Go.Proofs.YtaflofcnjakaaaaDoorW.PrintWords Go.Proofs.YtaflofcnjakaaaaDoorW.PrintLast Go.Proofs.YtaflofcnjakaaaaDoorW.PrintMore Go.Proofs.YtaflofcnjakaaaaDoor.Wr Go.Proofs.YtaflofcnjakaaaaDoor.Pl Go.Proofs.YtaflofcnjakaaaaDoor.Z Go.Proofs.YtaflofcnjakaaaaDoor.A
set_option linter.unusedVariables false
set_option linter.unusedSimpArgs false
set_option maxRecDepth 100000
def fD (n : Nat) : DS := DS.fresh n (List.replicate n zeros)
theorem all43 (n r wr fl : Int) (A1 A2 : Option Addr) (p q c1 c2 : Nat) : (#[Value.int .i64 n, .slice A1 p c1, .slice A2 q c2, .int .i64 r, .int .i64 wr, .int .i64 fl] : Array Value).all (·.oneCell') = true := by
  rw [Array.all_eq_true']
  intro v hv
  simp only [List.mem_toArray, List.mem_cons, List.not_mem_nil, or_false] at hv
  rcases hv with rfl | rfl | rfl | rfl | rfl | rfl <;> rfl
section
variable {w0 W : World} {M : List Th} {n i gd : Nat} {b : List Int} {A1 A2 Ae : Option Addr} {c1 c2 ce : Nat}
end
end Go.Proofs.YtaflofcnjakaaaaDoor.M
