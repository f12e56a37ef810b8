/- A row of slots with rising turns, each written by a writer of package root, with power failing between: what is read is the last one that was answered, or the one whose write alone was made: for every number and every row, the table of package wire as the program's text lays it. -/
import Derived.Test.YtaflofcnjakaaaaDoorPnZ1
import Derived.Laws.ResultCell
import Derived.ChangeKeysEq
import Derived.Test.YtaflofcnjakaaaaDoorRows
import Derived.ChangeSlices
import Derived.SizedLaws
import Derived.ChangeArms
import Derived.OpenShut
import Derived.WideShapes
import Derived.Test.YtaflofcnjakaaaaDoorCards
import Derived.Test.YtaflofcnjakaaaaDoorTie
import Derived.WalkKit
import Derived.ProofKit
import Derived.ShutString
import Derived.ChangeOld
import Derived.Below
import Derived.Deep.DeepHandedRow
import Derived.Lib.LaidTab
namespace Go.Proofs.YtaflofcnjakaaaaDoor.M
open Go.RowKit Go.Maps Go.Proofs.YtaflofcnjakaaaaDoorW.PrintWords Go.Proofs.YtaflofcnjakaaaaDoorW.PrintLast Go.Proofs.YtaflofcnjakaaaaDoorW.PrintMore Go.Proofs.YtaflofcnjakaaaaDoor.Wr Go.Proofs.YtaflofcnjakaaaaDoor.Pl Go.Proofs.YtaflofcnjakaaaaDoor.P Go.Proofs.YtaflofcnjakaaaaDoor.A
set_option linter.unusedVariables false
set_option linter.unusedSimpArgs false
set_option maxHeartbeats 8000000 in
set_option maxRecDepth 100000 in
theorem encode_no (s : SL) (hs : s.Ok) (hm : mayM s = false) (w : World) : Calls Tryd.prog 12 #[.agg s.V.toArray] w fun e w' => e = .returned (.tuple #[.slice none 0 0, .int .i64 180]) ∧ Below w.heap.size w w' := by
  have HB0 := Aside0.mk (below_alloc (Below.refl w.heap.size w) (.cells s.V.toArray 27))
  have HLD := Aside0.mk (SlAt.all (SlAt.mk (heap_alloc_new w (.cells s.V.toArray 27)) hs))
  have HMAY := Aside0.mk (fun W => (show Calls Tryd.prog 35 #[.agg s.V.toArray] W (fun e w' => e = .returned (.bool false) ∧ Below W.heap.size W w') from by have h := may_calls s hs W; rw [hm] at h; exact h))
  have HSA := Aside0.mk (SlAt.sa hs)
  clear hs hm
  generalize s.V.toArray = V at HB0 HLD HMAY HSA ⊢
  go_enter Tryd.func12, Tryd.ntmps12
  go_upto_region 1 with (fail)
  generalize w.alloc (.cells V 27) = w1 at HB0 HLD ⊢
  generalize w.heap.size = g0 at HLD ⊢
  go_wp2_with (first
    | ((with_reducible refine gate_load (ty := 27) rfl ?_); refine wpList_ldw ?_ 27 _ rfl ⟨g0, 0, none⟩ ?_ V _ HLD.out Tryd.underlying27 rfl HSA.out ?_; exact rfl; exact rfl; skip)
    | (go_at_call 35; (with_reducible refine (HMAY.out _).mono ?_); rintro e w2 ⟨rfl, hb⟩; have HB1 := Aside0.mk (below_step HB0.out hb); clear hb))
  go_ret2
  exact ⟨rfl, HB1.out⟩
theorem readF_at {b : List Int} (hb : bytes_ b) (hl : b.length = 512) (p n : Nat) (h1 : 1 ≤ n) (h8 : n ≤ 8) (hp : p + n ≤ 512) : ∃ k, wire_ReadFixed.f k b (p : Int) (n : Int) = some (((leV ((b.drop p).take n) : Nat) : Int), ((p + n : Nat) : Int), 0) := by
  obtain ⟨K, hK⟩ := readF_ev hb (by omega) (p : Int) (n : Int)
  have h2 : wire_ReadFixed.f K b (p : Int) (n : Int) = some (readFR b (p : Int) (n : Int)) := hK K (Nat.le_refl _)
  refine ⟨K, ?_⟩
  rw [h2]
  unfold readFR
  rw [if_neg (by omega), if_neg (by omega), Int.toNat_natCast, Int.toNat_natCast]
  rfl
def ReadsB (w0 : World) (L : List Th) (A : Option Addr) (b : List Int) : Prop := ∀ (W : World) (M : List Th), Sub L M → Sep w0 W M → (Kd.int .u8).C W A 512 b
def num1_T : Bool × List (List Nat × List Nat) := (true, [([], []), ([0], [0]), ([1], [1]), ([2], [2]), ([], []), ([4], [4]), ([5], [5]), ([6], [6]), ([], []), ([3, 7, 8], [3, 7, 8]), ([9], [9]), ([10], [10]), ([10], [10]), ([10], [10]), ([11, 9, 0, 1, 2, 3, 4, 5, 6, 7, 8, 9, 10, 11], [11]), ([12, 14, 0, 1, 2, 3, 4, 5, 6, 7, 8, 9, 10, 11, 12, 14], [12]), ([13, 15, 0, 1, 2, 3, 4, 5, 6, 7, 8, 9, 10, 11, 12, 13, 14, 15], [13])])
def num1_B : List Nat := [0, 1, 3, 7, 0, 16, 48, 112, 0, 511, 1023, 2047, 2047, 2047, 4095, 24575, 65535]
theorem num1_tab : rtab .any (opsOf Tryd.f56 1) = num1_T := by kernel_rfl
theorem num1_bits : waitsOk num1_T.2 num1_B = true := by kernel_rfl
set_option maxHeartbeats 8000000 in
set_option maxRecDepth 100000 in
theorem Sep.number {w0 w : World} {L : List Th} {gc : Nat} {A : Option Addr} {c p : Nat} {b : List Int} (h : Sep w0 w (cellsT gc #[.slice A 512 c, .int .i64 (p : Int)] 117 :: L)) (hR : ReadsB w0 L A b) (hb : bytes_ b) (hl : b.length = 512) (hc : 512 ≤ c) (n : Nat) (h1 : 1 ≤ n) (h8 : n ≤ 8) (hp : p + n ≤ 512) :
    Calls Tryd.prog 56 #[.pointer (some ⟨gc, 0, none⟩), .int .i64 (n : Int)] w fun e w' => e = .returned (.int .i64 (numAt b p n)) ∧ Sep w0 w' (cellsT gc #[.slice A 512 c, .int .i64 ((p + n : Nat) : Int)] 117 :: L) := by
  have HS0 := Aside0.mk h
  have HC0 := Aside0.mk (hR w _ (Sub.c (Sub.r _)) h)
  obtain ⟨k, hk⟩ := readF_at hb hl p n h1 h8 hp
  have HRF := Aside0.mk (fun W (hC : (Kd.int .u8).C W A 512 b) => (show Calls Tryd.prog 71 #[.slice A 512 c, .int .i64 (p : Int), .int .i64 (n : Int)] W _ from by
    have h := wire_ReadFixed.calls k A c b (p : Int) (n : Int) _ _ _ W (by rw [hl]; exact hC) (by omega) hk
    rw [hl] at h
    exact h))
  have HNA := Aside0.mk (show numAt b p n = wrap64 ((leV ((b.drop p).take n) : Nat) : Int) from rfl)
  have hv : leV ((b.drop p).take n) < 18446744073709551616 := by
    have h2 := leV_lt ((b.drop p).take n) (bytes_take (bytes_drop hb _) _)
    have h3 : ((b.drop p).take n).length = n := by rw [List.length_take, List.length_drop]; omega
    rw [h3] at h2
    have h4 : 256 ^ n ≤ 256 ^ 8 := Nat.pow_le_pow_right (by decide) h8
    have h5 : (256 : Nat) ^ 8 = 18446744073709551616 := by decide
    omega
  generalize leV ((b.drop p).take n) = v at HRF HNA hv
  generalize hnv : numAt b p n = nv at HNA ⊢
  have HNP := Aside0.mk (show ((p + n : Nat) : Int) = ((p + n : Nat) : Int) from rfl)
  generalize ((p + n : Nat) : Int) = pn at HRF HNP ⊢
  clear h hR hb hl hc h1 h8 hp hk hnv
  go_enter Tryd.func56, Tryd.ntmps56
  go_upto_region 1 with (fail)
  have HS1 := Aside0.mk (HS0.out.step (below_drew1 (Below.refl w.heap.size w)))
  have HC1 := Aside0.mk (Kd.C_below HC0.out (below_drew1 (Below.refl w.heap.size w)))
  refine start_ (n := 17) (S := fun W => W.cell? ⟨gc, 0, none⟩ = some (.slice A 512 c) ∧ W.cell? ⟨gc, 1, none⟩ = some (.int .i64 (p : Int))) (ds := [16]) (bb 17 0) (by kernel_rfl) rfl rfl (⟨blk_cell HS1.out.cells.1 0, blk_cell HS1.out.cells.1 1⟩) (fun hHeld => ?_); refine with_tabW num1_tab num1_bits (fun HT_ HW_ => ?_)
  generalize w.drew = wd at hHeld HS1 HC1 ⊢
  refine pure_ (i := 0) (N := (some 9)) (v := ?_) (a' := ?_) (bb 17 1) rfl rfl (any_of HT_.out (by kernel_rfl)) (fun _ _ _ h => h) (Or.inl ⟨by rfl, ?_⟩) ?_ ?_
  rotate_left
  · intro w'
    go_simp
    with_reducible rfl
  rotate_left
  · simp only [Act.put, List.setIfInBounds_toArray, List.set_cons_zero, List.set_cons_succ, i64_w, i32_w]
    rfl
  refine pure_ (i := 1) (N := (some 10)) (v := ?_) (a' := ?_) (bb 17 3) rfl rfl (any_of HT_.out (by kernel_rfl)) (fun _ _ _ h => h) (Or.inl ⟨by rfl, ?_⟩) ?_ ?_
  rotate_left
  · intro w'
    go_simp
    with_reducible rfl
  rotate_left
  · simp only [Act.put, List.setIfInBounds_toArray, List.set_cons_zero, List.set_cons_succ, i64_w, i32_w]
    rfl
  refine pure_ (i := 2) (N := (some 11)) (v := ?_) (a' := ?_) (bb 17 7) rfl rfl (any_of HT_.out (by kernel_rfl)) (fun _ _ _ h => h) (Or.inl ⟨by rfl, ?_⟩) ?_ ?_
  rotate_left
  · intro w'
    go_simp
    with_reducible rfl
  rotate_left
  · simp only [Act.put, List.setIfInBounds_toArray, List.set_cons_zero, List.set_cons_succ, i64_w, i32_w]
    rfl
  refine take_ (i := 3) (N := (some 12)) (v := ?_) (a' := ?_) (bb 17 15) rfl rfl (take_ofW HT_.out HW_.out (by kernel_rfl)) (fun _ _ _ h => h) (Or.inl ⟨by rfl, ?_⟩) hHeld ?_ ?_
  rotate_left
  · intro w' s0
    (try dsimp only at s0)
    go_simp
    with_reducible rfl
  rotate_left
  · simp only [Act.put, List.setIfInBounds_toArray, List.set_cons_zero, List.set_cons_succ, i64_w, i32_w]
    rfl
  refine pure_ (i := 4) (N := (some 13)) (v := ?_) (a' := ?_) (bb 17 31) rfl rfl (any_of HT_.out (by kernel_rfl)) (fun _ _ _ h => h) (Or.inl ⟨by rfl, ?_⟩) ?_ ?_
  rotate_left
  · intro w'
    go_simp
    with_reducible rfl
  rotate_left
  · simp only [Act.put, List.setIfInBounds_toArray, List.set_cons_zero, List.set_cons_succ, i64_w, i32_w]
    rfl
  refine pure_ (i := 5) (N := (some 14)) (v := ?_) (a' := ?_) (bb 17 63) rfl rfl (any_of HT_.out (by kernel_rfl)) (fun _ _ _ h => h) (Or.inl ⟨by rfl, ?_⟩) ?_ ?_
  rotate_left
  · intro w'
    go_simp
    with_reducible rfl
  rotate_left
  · simp only [Act.put, List.setIfInBounds_toArray, List.set_cons_zero, List.set_cons_succ, i64_w, i32_w]
    rfl
  refine pure_ (i := 6) (N := (some 15)) (v := ?_) (a' := ?_) (bb 17 127) rfl rfl (any_of HT_.out (by kernel_rfl)) (fun _ _ _ h => h) (Or.inl ⟨by rfl, ?_⟩) ?_ ?_
  rotate_left
  · intro w'
    go_simp
    with_reducible rfl
  rotate_left
  · simp only [Act.put, List.setIfInBounds_toArray, List.set_cons_zero, List.set_cons_succ, i64_w, i32_w]
    rfl
  refine take_ (i := 7) (N := (some 16)) (v := ?_) (a' := ?_) (bb 17 255) rfl rfl (take_ofW HT_.out HW_.out (by kernel_rfl)) (fun _ _ _ h => h) (Or.inl ⟨by rfl, ?_⟩) hHeld ?_ ?_
  rotate_left
  · intro w' s0
    (try dsimp only at s0)
    go_simp
    with_reducible rfl
  rotate_left
  · simp only [Act.put, List.setIfInBounds_toArray, List.set_cons_zero, List.set_cons_succ, i64_w, i32_w]
    rfl
  refine pure_ (i := 8) (N := (some 17)) (v := ?_) (a' := ?_) (bb 17 511) rfl rfl (any_of HT_.out (by kernel_rfl)) (fun _ _ _ h => h) (Or.inl ⟨by rfl, ?_⟩) ?_ ?_
  rotate_left
  · intro w'
    go_simp
    with_reducible rfl
  rotate_left
  · simp only [Act.put, List.setIfInBounds_toArray, List.set_cons_zero, List.set_cons_succ, i64_w, i32_w]
    rfl
  refine one_ (i := 9) (N := (some 18)) (bb 17 1023) rfl rfl (one_of HT_.out (by kernel_rfl)) (by decide) (fun K hK => ?_)
  refine goes_ Tryd.func71 (by kernel_rfl) rfl #[.slice A 512 c, .int .i64 (p : Int), .int .i64 (n : Int)] (by rfl) rfl rfl (by (try simp only [List.map_toArray, List.map_cons, List.map_nil]); first | done | rfl) ?_
  refine (HRF.out _ HC1.out).mono ?_
  rintro e w3 ⟨rfl, hd⟩
  have HB3 := Aside0.mk hd
  clear hd
  refine ⟨_, rfl, ?_⟩
  refine hK.out _ _ ((by obtain ⟨nd, rfl⟩ := HB3.out; exact hHeld)) (fun hHeld => ?_)
  clear hK K
  refine norm_ (a' := ?_) ?_ ?_
  rotate_left
  · show Act.put _ (some 18) _ = _
    simp only [Act.put, List.setIfInBounds_toArray, List.set_cons_zero, List.set_cons_succ, i64_w, i32_w]
    rfl
  refine pure_ (i := 10) (N := (some 8)) (v := ?_) (a' := ?_) (bb 17 2047) rfl rfl (any_of HT_.out (by kernel_rfl)) (fun _ _ _ h => h) (Or.inl ⟨by rfl, ?_⟩) ?_ ?_
  rotate_left
  · intro w'
    go_simp
    with_reducible rfl
  rotate_left
  · simp only [Act.put, List.setIfInBounds_toArray, List.set_cons_zero, List.set_cons_succ, i64_w, i32_w]
    rfl
  refine pure_ (i := 11) (N := (some 19)) (v := ?_) (a' := ?_) (bb 17 4095) rfl rfl (any_of HT_.out (by kernel_rfl)) (fun _ _ _ h => h) (Or.inl ⟨by rfl, ?_⟩) ?_ ?_
  rotate_left
  · intro w'
    go_simp
    with_reducible rfl
  rotate_left
  · simp only [Act.put, List.setIfInBounds_toArray, List.set_cons_zero, List.set_cons_succ, i64_w, i32_w]
    rfl
  refine pure_ (i := 12) (N := (some 20)) (v := ?_) (a' := ?_) (bb 17 8191) rfl rfl (any_of HT_.out (by kernel_rfl)) (fun _ _ _ h => h) (Or.inl ⟨by rfl, ?_⟩) ?_ ?_
  rotate_left
  · intro w'
    go_simp
    with_reducible rfl
  rotate_left
  · simp only [Act.put, List.setIfInBounds_toArray, List.set_cons_zero, List.set_cons_succ, i64_w, i32_w]
    rfl
  refine pure_ (i := 13) (N := (some 21)) (v := ?_) (a' := ?_) (bb 17 16383) rfl rfl (any_of HT_.out (by kernel_rfl)) (fun _ _ _ h => h) (Or.inl ⟨by rfl, ?_⟩) ?_ ?_
  rotate_left
  · intro w'
    go_simp
    with_reducible rfl
  rotate_left
  · simp only [Act.put, List.setIfInBounds_toArray, List.set_cons_zero, List.set_cons_succ, i64_w, i32_w]
    rfl
  refine pure_ (i := 14) (N := (some 5)) (v := ?_) (a' := ?_) (bb 17 32767) rfl rfl (any_of HT_.out (by kernel_rfl)) (fun _ _ _ h => h) (Or.inl ⟨by rfl, ?_⟩) ?_ ?_
  rotate_left
  · intro w'
    go_simp
    with_reducible rfl
  rotate_left
  · simp only [Act.put, List.setIfInBounds_toArray, List.set_cons_zero, List.set_cons_succ, i64_w, i32_w]
    rfl
  refine pure_ (i := 15) (N := (some 6)) (v := ?_) (a' := ?_) (bb 17 65535) rfl rfl (any_of HT_.out (by kernel_rfl)) (fun _ _ _ h => h) (Or.inl ⟨by rfl, ?_⟩) ?_ ?_
  rotate_left
  · intro w'
    go_simp
    with_reducible rfl
  rotate_left
  · simp only [Act.put, List.setIfInBounds_toArray, List.set_cons_zero, List.set_cons_succ, i64_w, i32_w]
    rfl
  refine pure_ (i := 16) (N := (some 7)) (v := ?_) (a' := ?_) (bb 17 131071) rfl rfl (any_of HT_.out (by kernel_rfl)) (fun _ _ _ h => h) (Or.inl ⟨by rfl, ?_⟩) ?_ ?_
  rotate_left
  · intro w'
    go_simp
    with_reducible rfl
  rotate_left
  · simp only [Act.put, List.setIfInBounds_toArray, List.set_cons_zero, List.set_cons_succ, i64_w, i32_w]
    rfl
  refine done_ (done_of HT_.out (by kernel_rfl)) ?_
  have HS3 := Aside0.mk (HS1.out.step (show Below wd.heap.size wd w3 from by obtain ⟨nd, rfl⟩ := HB3.out; exact pw_below_drewN (Below.refl _ _) nd))
  clear HS0 HS1 HC0 HC1 HRF hHeld HB3 HT_ HW_
  have x1 : w3.cell? ⟨gc, 1, none⟩ = some (.int .i64 (p : Int)) := blk_cell HS3.out.cells.1 1
  have f1 : w3.frozen? ⟨gc, 1, none⟩ = false := blk_frozen HS3.out.cells.1 1
  have hv0 : (0 : Int) ≤ (v : Int) := by omega
  go_wp2
  go_ret
  exact ⟨by rw [HNA.out]; rfl, HS3.out.cset 1 (.int .i64 pn)⟩
end Go.Proofs.YtaflofcnjakaaaaDoor.M

namespace Go.Proofs.YtaflofcnjakaaaaDoor.M
open Go.RowKit Go.Maps Go.Proofs.YtaflofcnjakaaaaDoorW.PrintWords Go.Proofs.YtaflofcnjakaaaaDoorW.PrintLast Go.Proofs.YtaflofcnjakaaaaDoorW.PrintMore Go.Proofs.YtaflofcnjakaaaaDoor.Wr Go.Proofs.YtaflofcnjakaaaaDoor.Pl Go.Proofs.YtaflofcnjakaaaaDoor.P Go.Proofs.YtaflofcnjakaaaaDoor.A
set_option linter.unusedVariables false
set_option linter.unusedSimpArgs false
theorem arr23 (ad : Addr) (c : Nat) (W : World) : (Instr.arrayAt 23 (.slice (some ad) 32 c)).run Tryd.prog W = .ok (.pointer (some ad)) W := by
  simp [Instr.arrayAt, Sem.run_bind, run_underlying Tryd.underlying23]
def key1_T : Bool × List (List Nat × List Nat) := (true, [([], []), ([0], [0]), ([1], [1]), ([2], [2]), ([], []), ([4], [4]), ([5], [5]), ([6], [6]), ([], []), ([8], [8]), ([9], [9]), ([10], [10]), ([11], [11]), ([3, 7, 12], [3, 7, 12]), ([13], [13]), ([14], [14]), ([], []), ([16, 15, 0, 1, 2, 3, 4, 5, 6, 7, 8, 9, 10, 11, 12, 13, 14, 15, 16], [15, 16])])
def key1_B : List Nat := [0, 1, 3, 7, 0, 16, 48, 112, 0, 256, 768, 1792, 3840, 8191, 16383, 32767, 0, 131071]
theorem key1_tab : rtab .any (opsOf Tryd.f57 1) = key1_T := by kernel_rfl
theorem key1_bits : waitsOk key1_T.2 key1_B = true := by kernel_rfl
set_option maxHeartbeats 8000000 in
set_option maxRecDepth 100000 in
theorem Sep.key {w0 w : World} {L : List Th} {gc : Nat} {A : Option Addr} {c p : Nat} {b : List Int} (h : Sep w0 w (cellsT gc #[.slice A 512 c, .int .i64 (p : Int)] 117 :: L)) (hR : ReadsB w0 L A b) (hb : bytes_ b) (hl : b.length = 512) (hc : 512 ≤ c) (hp : p + 32 ≤ 512) :
    Calls Tryd.prog 57 #[.pointer (some ⟨gc, 0, none⟩)] w fun e w' => e = .returned (.agg (nums .u8 (keyAt b p)).toArray) ∧ Sep w0 w' (cellsT gc #[.slice A 512 c, .int .i64 ((p + 32 : Nat) : Int)] 117 :: L) := by
  obtain ⟨ad, rfl, _⟩ := (hR w _ (Sub.c (Sub.r _)) h).2.2 (by decide)
  have HCK := Aside0.mk (fun W (M : List Th) (hs : Sub L M) (h : Sep w0 W M) => (show ∀ j v, (nums .u8 (keyAt b p))[j]? = some v → W.cell? ((ad.add p).add j) = some v from by
    intro j v hv
    have hj : j < 32 := by have := (List.getElem?_eq_some_iff.1 hv).1; rwa [nums_length, keyAt_len hl hp] at this
    have h1 := C_cells (hR W M hs h) (p + j) v (by
      unfold keyAt nums at hv
      unfold nums
      rw [List.getElem?_map, List.getElem?_take, if_pos hj, List.getElem?_drop] at hv
      rw [List.getElem?_map]
      exact hv)
    rwa [Addr.add_add]))
  have HKL := Aside0.mk (keyAt_len hl hp)
  generalize keyAt b p = ky at HCK HKL ⊢
  have HSZ := Aside0.mk (show (Tryd.prog.info? 23).map (·.size) = some (nums .u8 ky).toArray.size from size23 (by simpa [nums_length] using HKL.out))
  have HS0 := Aside0.mk h
  clear h hR hb hl
  have hz := (zero_of_info (P := Tryd.prog) (t := 23) (v := .agg (nums .u8 (List.replicate 32 0)).toArray) (n := 32) (by kernel_rfl)).1
  generalize hZ : (nums .u8 (List.replicate 32 0)).toArray = Z at hz
  have HZ := Aside0.mk hZ
  clear hZ
  go_enter Tryd.func57, Tryd.ntmps57
  go_upto_region 1 with (fail)
  have HSa := Aside0.mk (HS0.out.push_alloc Z 23)
  generalize w.alloc (.cells Z 23) = w2 at HSa ⊢
  generalize w.heap.size = gr at HSa ⊢
  have HS1 := Aside0.mk (HSa.out.step (below_drew1 (Below.refl w2.heap.size w2)))
  clear HS0
  have hp0 : (0 : Int) ≤ (p : Int) := by omega
  have hp1 : (p : Int) + 32 ≤ (c : Int) := by omega
  have hp2 : IntKind.i64.wrap ((p : Int) + 32) = (p : Int) + 32 := by unfold IntKind.wrap; simp [IntKind.signed, IntKind.bits]; omega
  have hcp : ¬ c = p := by omega
  have harr := arr23 (ad.add p) (c - p)
  have hq1 : (0 : Int) ≤ (p : Int) + 32 := by omega
  have hq2 : ((p : Int) + 32).toNat = p + 32 := by omega
  have hq3 : p + 32 - p = 32 := by omega
  have hq4 : p ≤ p + 32 := by omega
  refine start_ (n := 18) (S := fun W => W.cell? ⟨gc, 0, none⟩ = some (.slice (some ad) 512 c) ∧ W.cell? ⟨gc, 1, none⟩ = some (.int .i64 (p : Int)) ∧ (∀ j v, (nums .u8 ky)[j]? = some v → W.cell? ((ad.add p).add j) = some v)) (ds := [17]) (bb 18 0) (by kernel_rfl) rfl rfl (⟨blk_cell HS1.out.up1.cells.1 0, blk_cell HS1.out.up1.cells.1 1, HCK.out _ _ (Sub.c (Sub.c (Sub.r _))) HS1.out⟩) (fun hHeld => ?_); refine with_tabW key1_tab key1_bits (fun HT_ HW_ => ?_)
  generalize w2.drew = wd at hHeld HS1 ⊢
  refine pure_ (i := 0) (N := (some 4)) (v := ?_) (a' := ?_) (bb 18 1) rfl rfl (any_of HT_.out (by kernel_rfl)) (fun _ _ _ h => h) (Or.inl ⟨by rfl, ?_⟩) ?_ ?_
  rotate_left
  · intro w'
    go_simp
    with_reducible rfl
  rotate_left
  · simp only [Act.put, List.setIfInBounds_toArray, List.set_cons_zero, List.set_cons_succ, i64_w, i32_w]
    rfl
  refine pure_ (i := 1) (N := (some 5)) (v := ?_) (a' := ?_) (bb 18 3) rfl rfl (any_of HT_.out (by kernel_rfl)) (fun _ _ _ h => h) (Or.inl ⟨by rfl, ?_⟩) ?_ ?_
  rotate_left
  · intro w'
    go_simp
    with_reducible rfl
  rotate_left
  · simp only [Act.put, List.setIfInBounds_toArray, List.set_cons_zero, List.set_cons_succ, i64_w, i32_w]
    rfl
  refine pure_ (i := 2) (N := (some 6)) (v := ?_) (a' := ?_) (bb 18 7) rfl rfl (any_of HT_.out (by kernel_rfl)) (fun _ _ _ h => h) (Or.inl ⟨by rfl, ?_⟩) ?_ ?_
  rotate_left
  · intro w'
    go_simp
    with_reducible rfl
  rotate_left
  · simp only [Act.put, List.setIfInBounds_toArray, List.set_cons_zero, List.set_cons_succ, i64_w, i32_w]
    rfl
  refine take_ (i := 3) (N := (some 7)) (v := ?_) (a' := ?_) (bb 18 15) rfl rfl (take_ofW HT_.out HW_.out (by kernel_rfl)) (fun _ _ _ h => h) (Or.inl ⟨by rfl, ?_⟩) hHeld ?_ ?_
  rotate_left
  · intro w' s0
    (try dsimp only at s0)
    go_simp
    with_reducible rfl
  rotate_left
  · simp only [Act.put, List.setIfInBounds_toArray, List.set_cons_zero, List.set_cons_succ, i64_w, i32_w]
    rfl
  refine pure_ (i := 4) (N := (some 8)) (v := ?_) (a' := ?_) (bb 18 31) rfl rfl (any_of HT_.out (by kernel_rfl)) (fun _ _ _ h => h) (Or.inl ⟨by rfl, ?_⟩) ?_ ?_
  rotate_left
  · intro w'
    go_simp
    with_reducible rfl
  rotate_left
  · simp only [Act.put, List.setIfInBounds_toArray, List.set_cons_zero, List.set_cons_succ, i64_w, i32_w]
    rfl
  refine pure_ (i := 5) (N := (some 9)) (v := ?_) (a' := ?_) (bb 18 63) rfl rfl (any_of HT_.out (by kernel_rfl)) (fun _ _ _ h => h) (Or.inl ⟨by rfl, ?_⟩) ?_ ?_
  rotate_left
  · intro w'
    go_simp
    with_reducible rfl
  rotate_left
  · simp only [Act.put, List.setIfInBounds_toArray, List.set_cons_zero, List.set_cons_succ, i64_w, i32_w]
    rfl
  refine pure_ (i := 6) (N := (some 10)) (v := ?_) (a' := ?_) (bb 18 127) rfl rfl (any_of HT_.out (by kernel_rfl)) (fun _ _ _ h => h) (Or.inl ⟨by rfl, ?_⟩) ?_ ?_
  rotate_left
  · intro w'
    go_simp
    with_reducible rfl
  rotate_left
  · simp only [Act.put, List.setIfInBounds_toArray, List.set_cons_zero, List.set_cons_succ, i64_w, i32_w]
    rfl
  refine take_ (i := 7) (N := (some 11)) (v := ?_) (a' := ?_) (bb 18 255) rfl rfl (take_ofW HT_.out HW_.out (by kernel_rfl)) (fun _ _ _ h => h) (Or.inl ⟨by rfl, ?_⟩) hHeld ?_ ?_
  rotate_left
  · intro w' s0
    (try dsimp only at s0)
    go_simp
    with_reducible rfl
  rotate_left
  · simp only [Act.put, List.setIfInBounds_toArray, List.set_cons_zero, List.set_cons_succ, i64_w, i32_w]
    rfl
  refine pure_ (i := 8) (N := (some 12)) (v := ?_) (a' := ?_) (bb 18 511) rfl rfl (any_of HT_.out (by kernel_rfl)) (fun _ _ _ h => h) (Or.inl ⟨by rfl, ?_⟩) ?_ ?_
  rotate_left
  · intro w'
    go_simp
    with_reducible rfl
  rotate_left
  · simp only [Act.put, List.setIfInBounds_toArray, List.set_cons_zero, List.set_cons_succ, i64_w, i32_w]
    rfl
  refine pure_ (i := 9) (N := (some 13)) (v := ?_) (a' := ?_) (bb 18 1023) rfl rfl (any_of HT_.out (by kernel_rfl)) (fun _ _ _ h => h) (Or.inl ⟨by rfl, ?_⟩) ?_ ?_
  rotate_left
  · intro w'
    go_simp
    with_reducible rfl
  rotate_left
  · simp only [Act.put, List.setIfInBounds_toArray, List.set_cons_zero, List.set_cons_succ, i64_w, i32_w]
    rfl
  refine pure_ (i := 10) (N := (some 14)) (v := ?_) (a' := ?_) (bb 18 2047) rfl rfl (any_of HT_.out (by kernel_rfl)) (fun _ _ _ h => h) (Or.inl ⟨by rfl, ?_⟩) ?_ ?_
  rotate_left
  · intro w'
    go_simp
    with_reducible rfl
  rotate_left
  · simp only [Act.put, List.setIfInBounds_toArray, List.set_cons_zero, List.set_cons_succ, i64_w, i32_w]
    rfl
  refine take_ (i := 11) (N := (some 15)) (v := ?_) (a' := ?_) (bb 18 4095) rfl rfl (take_ofW HT_.out HW_.out (by kernel_rfl)) (fun _ _ _ h => h) (Or.inl ⟨by rfl, ?_⟩) hHeld ?_ ?_
  rotate_left
  · intro w' s0
    (try dsimp only at s0)
    go_simp
    with_reducible rfl
  rotate_left
  · simp only [Act.put, List.setIfInBounds_toArray, List.set_cons_zero, List.set_cons_succ, i64_w, i32_w]
    rfl
  refine pure_ (i := 12) (N := (some 16)) (v := ?_) (a' := ?_) (bb 18 8191) rfl rfl (any_of HT_.out (by kernel_rfl)) (fun _ _ _ h => h) (Or.inl ⟨by rfl, ?_⟩) ?_ ?_
  rotate_left
  · intro w'
    go_simp
    with_reducible rfl
  rotate_left
  · simp only [Act.put, List.setIfInBounds_toArray, List.set_cons_zero, List.set_cons_succ, i64_w, i32_w]
    rfl
  refine pure_ (i := 13) (N := (some 17)) (v := ?_) (a' := ?_) (bb 18 16383) rfl rfl (any_of HT_.out (by kernel_rfl)) (fun _ _ _ h => h) (Or.inl ⟨by rfl, ?_⟩) ?_ ?_
  rotate_left
  · intro w'
    go_simp
    with_reducible rfl
  rotate_left
  · simp only [Act.put, List.setIfInBounds_toArray, List.set_cons_zero, List.set_cons_succ, i64_w, i32_w]
    rfl
  refine pure_ (i := 14) (N := (some 18)) (v := ?_) (a' := ?_) (bb 18 32767) rfl rfl (any_of HT_.out (by kernel_rfl)) (fun _ _ _ h => h) (Or.inl ⟨by rfl, ?_⟩) ?_ ?_
  rotate_left
  · intro w'
    go_simp
    with_reducible rfl
  rotate_left
  · simp only [Act.put, List.setIfInBounds_toArray, List.set_cons_zero, List.set_cons_succ, i64_w, i32_w]
    rfl
  refine take_ (i := 15) (N := (some 19)) (v := .agg (nums .u8 ky).toArray) (a' := ?_) (bb 18 65535) rfl rfl (take_ofW HT_.out HW_.out (by kernel_rfl)) (fun _ _ _ h => h) (Or.inl ⟨by rfl, fun w' s0 => yields_ld 23 _ rfl (ad.add p) rfl (nums .u8 ky).toArray _ s0.2.2 Tryd.underlying23 rfl HSZ.out⟩) hHeld ?_ ?_
  rotate_left
  · simp only [Act.put, List.setIfInBounds_toArray, List.set_cons_zero, List.set_cons_succ, i64_w, i32_w]
    rfl
  refine one_ (i := 16) (N := (some 3)) (bb 18 131071) rfl rfl (one_of HT_.out (by kernel_rfl)) (by decide) (fun K hK => ?_)
  refine value_ (w1 := ?_) (v := ?_) (by rfl) rfl ?_ ?_
  rotate_left 2
  · go_simp
    constructor
    · rfl
    · rfl
  have HSb := Aside0.mk (HS1.out.push_alloc Z 23)
  generalize wd.alloc (.cells Z 23) = w3 at HSb ⊢
  generalize wd.heap.size = gk at HSb ⊢
  refine hK.out _ _ (⟨blk_cell HSb.out.up2.cells.1 0, blk_cell HSb.out.up2.cells.1 1, HCK.out _ _ (Sub.c (Sub.c (Sub.c (Sub.r _)))) HSb.out⟩) (fun hHeld => ?_)
  clear hK K
  refine norm_ (a' := ?_) ?_ ?_
  rotate_left
  · show Act.put _ (some 3) _ = _
    simp only [Act.put, List.setIfInBounds_toArray, List.set_cons_zero, List.set_cons_succ, i64_w, i32_w]
    rfl
  refine last_ (i := 17) (N := none) (bb 18 262143) rfl rfl (one_of HT_.out (by kernel_rfl)) (by decide) (fun K hK => ?_)
  rw [if_pos (by rfl)]
  refine Sep.store_wp 23 _ _ rfl rfl rfl HSb.out HSZ.out (show Z.size = (nums .u8 ky).toArray.size from by rw [← HZ.out]; simp [nums_length, HKL.out]) (nums_all ky) (fun w4 h4 => ?_)
  have HS4 := Aside0.mk h4
  clear h4
  refine hK.out _ _ ?_
  clear hK K
  refine norm_ (a' := ?_) ?_ ?_
  rotate_left
  · show Act.put _ none _ = _
    simp only [Act.put, List.setIfInBounds_toArray, List.set_cons_zero, List.set_cons_succ, i64_w, i32_w]
    rfl
  refine done_ (done_of HT_.out (by kernel_rfl)) ?_
  have HS2 := Aside0.mk (show Sep w0 w4 (cellsT gc #[.slice (some ad) 512 c, .int .i64 (p : Int)] 117 :: cellsT gk (nums .u8 ky).toArray 23 :: cellsT gr Z 23 :: L) from HS4.out.up2)
  clear HSa HS1 HSb HS4 hHeld harr hq1 hq2 hq3 hq4 hp2 hp1 hcp HT_ HW_ hz
  have x1 : w4.cell? ⟨gc, 1, none⟩ = some (.int .i64 (p : Int)) := blk_cell HS2.out.cells.1 1
  have f1 : w4.frozen? ⟨gc, 1, none⟩ = false := blk_frozen HS2.out.cells.1 1
  have hp32 : (p : Int) + 32 ≤ 600 := by omega
  go_upto_region 3 with (fail)
  have HS5 := Aside0.mk (show Sep w0 (w4.setCell ⟨gc, 1, none⟩ (.int .i64 ((p : Int) + 32))) (cellsT gc #[.slice (some ad) 512 c, .int .i64 ((p : Int) + 32)] 117 :: cellsT gk (nums .u8 ky).toArray 23 :: cellsT gr Z 23 :: L) from HS2.out.cset 1 (.int .i64 ((p : Int) + 32)))
  clear HS2 x1 f1
  generalize w4.setCell ⟨gc, 1, none⟩ (.int .i64 ((p : Int) + 32)) = w5 at HS5 ⊢
  have HK5 := Aside0.mk (show ∀ j v, (nums .u8 ky).toArray.toList[j]? = some v → w5.cell? ((⟨gk, 0, none⟩ : Addr).add j) = some v from fun j v hv => seg_at HS5.out.up1.cells.1 0 (nums .u8 ky) (by rw [List.drop_zero]; exact List.take_of_length_le (Nat.le_refl _)) j v (by simpa using hv))
  have HZs := Aside0.mk (show Z.size = (nums .u8 ky).toArray.size from by rw [← HZ.out]; simp [nums_length, HKL.out])
  go_wp2_with (first
    | ((with_reducible refine gate_load (ty := 23) rfl ?_); refine wpList_ldw ?_ 23 _ rfl ⟨gk, 0, none⟩ ?_ (nums .u8 ky).toArray _ HK5.out Tryd.underlying23 rfl HSZ.out ?_; exact rfl; exact rfl; skip)
    | ((with_reducible refine gate_store (ty := 23) rfl ?_); refine Sep.store_own rfl 23 _ _ rfl rfl rfl HS5.out.up2 HSZ.out HZs.out (nums_all ky) ?_; intro w6 h6; have HS6 := Aside0.mk h6; clear h6))
  refine bodyPost_ret (results_cell_row (p := 2) (ty := 23) rfl _ _ gr 23 (nums .u8 ky).toArray (0, 0) _ rfl HS6.out.cells.1 Tryd.underlying23 rfl HSZ.out) rfl ⟨rfl, ?_⟩
  exact HS6.out.drop.up1.drop
end Go.Proofs.YtaflofcnjakaaaaDoor.M

namespace Go.Proofs.YtaflofcnjakaaaaDoor.M
open Go.RowKit Go.Maps Go.Proofs.YtaflofcnjakaaaaDoorW.PrintWords Go.Proofs.YtaflofcnjakaaaaDoorW.PrintLast Go.Proofs.YtaflofcnjakaaaaDoorW.PrintMore Go.Proofs.YtaflofcnjakaaaaDoor.Wr Go.Proofs.YtaflofcnjakaaaaDoor.Pl Go.Proofs.YtaflofcnjakaaaaDoor.P Go.Proofs.YtaflofcnjakaaaaDoor.A
set_option linter.unusedVariables false
set_option linter.unusedSimpArgs false
theorem list32 (l : List Int) (h : l.length = 32) : ∃ x0 x1 x2 x3 x4 x5 x6 x7 x8 x9 x10 x11 x12 x13 x14 x15 x16 x17 x18 x19 x20 x21 x22 x23 x24 x25 x26 x27 x28 x29 x30 x31 : Int, l = [x0, x1, x2, x3, x4, x5, x6, x7, x8, x9, x10, x11, x12, x13, x14, x15, x16, x17, x18, x19, x20, x21, x22, x23, x24, x25, x26, x27, x28, x29, x30, x31] := by
  rcases l with _ | ⟨x0, l⟩
  · simp at h
  rcases l with _ | ⟨x1, l⟩
  · simp at h
  rcases l with _ | ⟨x2, l⟩
  · simp at h
  rcases l with _ | ⟨x3, l⟩
  · simp at h
  rcases l with _ | ⟨x4, l⟩
  · simp at h
  rcases l with _ | ⟨x5, l⟩
  · simp at h
  rcases l with _ | ⟨x6, l⟩
  · simp at h
  rcases l with _ | ⟨x7, l⟩
  · simp at h
  rcases l with _ | ⟨x8, l⟩
  · simp at h
  rcases l with _ | ⟨x9, l⟩
  · simp at h
  rcases l with _ | ⟨x10, l⟩
  · simp at h
  rcases l with _ | ⟨x11, l⟩
  · simp at h
  rcases l with _ | ⟨x12, l⟩
  · simp at h
  rcases l with _ | ⟨x13, l⟩
  · simp at h
  rcases l with _ | ⟨x14, l⟩
  · simp at h
  rcases l with _ | ⟨x15, l⟩
  · simp at h
  rcases l with _ | ⟨x16, l⟩
  · simp at h
  rcases l with _ | ⟨x17, l⟩
  · simp at h
  rcases l with _ | ⟨x18, l⟩
  · simp at h
  rcases l with _ | ⟨x19, l⟩
  · simp at h
  rcases l with _ | ⟨x20, l⟩
  · simp at h
  rcases l with _ | ⟨x21, l⟩
  · simp at h
  rcases l with _ | ⟨x22, l⟩
  · simp at h
  rcases l with _ | ⟨x23, l⟩
  · simp at h
  rcases l with _ | ⟨x24, l⟩
  · simp at h
  rcases l with _ | ⟨x25, l⟩
  · simp at h
  rcases l with _ | ⟨x26, l⟩
  · simp at h
  rcases l with _ | ⟨x27, l⟩
  · simp at h
  rcases l with _ | ⟨x28, l⟩
  · simp at h
  rcases l with _ | ⟨x29, l⟩
  · simp at h
  rcases l with _ | ⟨x30, l⟩
  · simp at h
  rcases l with _ | ⟨x31, l⟩
  · simp at h
  rcases l with _ | ⟨y, l⟩
  · exact ⟨x0, x1, x2, x3, x4, x5, x6, x7, x8, x9, x10, x11, x12, x13, x14, x15, x16, x17, x18, x19, x20, x21, x22, x23, x24, x25, x26, x27, x28, x29, x30, x31, rfl⟩
  · simp at h
set_option maxRecDepth 100000 in
theorem built25 (ky : List Int) (h : ky.length = 32) (f l : Int) : Tryd.prog.built 25 [(0, .agg (nums .u8 ky).toArray), (1, .int .i64 f), (2, .int .i64 l)] = some (refV ky f l).toArray := by
  obtain ⟨x0, x1, x2, x3, x4, x5, x6, x7, x8, x9, x10, x11, x12, x13, x14, x15, x16, x17, x18, x19, x20, x21, x22, x23, x24, x25, x26, x27, x28, x29, x30, x31, rfl⟩ := list32 ky h
  kernel_rfl
theorem gate_build {P : Program} {ops : Array Oper} {rest : List Oper} {o : Oper} {a : Act} {w : World} {Q : Exit → Act → World → Prop} {ty : TypeId} {ps : Array (Nat × Operand)} (_ho : o.op = .build ty ps) (h : wpList P ops Q (o :: rest) a w) : wpList P ops Q (o :: rest) a w := h
def z32 : List Int := List.replicate 32 0
set_option maxRecDepth 100000 in
theorem built27 (ky : List Int) (h : ky.length = 32) (a b c d e : Int) : Tryd.prog.built 27 [(0, .int .i64 a), (1, .int .i64 b), (2, .int .i64 c), (3, .int .i64 d), (4, .int .i64 e), (5, .agg (nums .u8 ky).toArray)] = some (SL.V ⟨a, b, c, d, e, ky, z32, 0, 0, z32, 0, 0⟩).toArray := by
  obtain ⟨x0, x1, x2, x3, x4, x5, x6, x7, x8, x9, x10, x11, x12, x13, x14, x15, x16, x17, x18, x19, x20, x21, x22, x23, x24, x25, x26, x27, x28, x29, x30, x31, rfl⟩ := list32 ky h
  kernel_rfl
set_option maxRecDepth 100000 in
theorem built27z : Tryd.prog.built 27 [] = some (SL.V ⟨0, 0, 0, 0, 0, z32, z32, 0, 0, z32, 0, 0⟩).toArray := by kernel_rfl
theorem refV_all (h : List Int) (f l : Int) : (refV h f l).toArray.all (·.oneCell') = true := by
  rw [Array.all_eq_true']
  intro v hv
  unfold refV at hv
  simp only [List.mem_toArray, List.mem_append, List.mem_cons, List.not_mem_nil, or_false] at hv
  rcases hv with hv | rfl | rfl
  · exact nums_ones h v hv
  · rfl
  · rfl
theorem SL.V_all (s : SL) : s.V.toArray.all (·.oneCell') = true := by
  rw [Array.all_eq_true']
  intro v hv
  unfold SL.V at hv
  simp only [List.mem_toArray, List.mem_append, List.mem_cons, List.not_mem_nil, or_false] at hv
  rcases hv with hv | hv | hv | hv
  · rcases hv with rfl | rfl | rfl | rfl | rfl <;> rfl
  · exact nums_ones _ v hv
  · exact Array.all_eq_true'.1 (refV_all s.rh s.rf s.rl) v (by simpa using hv)
  · exact Array.all_eq_true'.1 (refV_all s.mh s.mf s.ml) v (by simpa using hv)
theorem Sep.store_part {w0 w : World} {L : List Th} {ops : Array Oper} {rest : List Oper} {o : Oper} {a : Act} {Q : Exit → Act → World → Prop} (hgd : o.guard = none) (ty : TypeId) (x y : Operand) (ho : o.op = .store ty x y) {g e p : Nat} {old cs : List Value} (hx : a.eval x = .pointer (some ⟨g, p, none⟩)) (hy : a.eval y = .agg cs.toArray) (h : Sep w0 w (cellsT g old.toArray e :: L)) (hi : (Tryd.prog.info? ty).map (·.size) = some cs.toArray.size) (hp : p + cs.length ≤ old.length) (h1 : cs.toArray.all (·.oneCell') = true)
    (hk : ∀ w1, Sep w0 w1 (cellsT g (old.take p ++ cs ++ old.drop (p + cs.length)).toArray e :: L) → wpList Tryd.prog ops Q rest (a.put o.dst undef) w1) : wpList Tryd.prog ops Q (o :: rest) a w :=
  wpList_plain hgd fun K hK => by
    have hr := run_storeCells_at (P := Tryd.prog) g p e cs 0 old.toArray w h.cells.1 (by simpa using hp) (fun v hv => Array.all_eq_true'.1 h1 v (by simpa using hv))
    have hst : (storeVar ty ⟨g, p, none⟩ (.agg cs.toArray)).run Tryd.prog w = .ok () (w.setRow g (old.take p ++ cs ++ old.drop (p + cs.length)).toArray) := by
      cases hq : Tryd.prog.info? ty with
      | none => simp [hq] at hi
      | some i =>
        have hs : cs.length = i.size := by simp [hq] at hi; omega
        simp only [Nat.add_zero] at hr
        simp [storeVar, sizeOf, typeInfo, hq, Value.cells, hs]
        simpa [hs] using hr
    unfold Oper.wp execOp
    simp only [ho, hx, hy, Instr.storeAt, Instr.sureAddr, Sem.run_bind, Sem.run_pure, Result.andThen_ok, hst]
    exact hK _ _ (hk _ (h.setRow _))
theorem V_set_root {s : SL} (h : s.Ok) (rh : List Int) (rf rl : Int) (hl : rh.length = 32) : s.V.take 37 ++ refV rh rf rl ++ s.V.drop (37 + (refV rh rf rl).length) = SL.V { s with rh := rh, rf := rf, rl := rl } := by
  rw [refV_len hl, show 37 + 34 = 71 from rfl, s.V_d71 h]
  have e : s.V.take 37 = [.int .i64 s.a, .int .i64 s.b, .int .i64 s.c, .int .i64 s.d, .int .i64 s.e] ++ nums .u8 s.key := by
    unfold SL.V
    rw [← List.append_assoc]
    exact take_app (by rw [List.length_append, nums_length, h.k]; rfl)
  rw [e]
  unfold SL.V
  simp only [List.append_assoc]
theorem V_set_memo {s : SL} (h : s.Ok) (mh : List Int) (mf ml : Int) (hl : mh.length = 32) : s.V.take 71 ++ refV mh mf ml ++ s.V.drop (71 + (refV mh mf ml).length) = SL.V { s with mh := mh, mf := mf, ml := ml } := by
  rw [refV_len hl, List.drop_eq_nil_of_le (by rw [s.V_len h]; decide), List.append_nil]
  have e : s.V.take 71 = [.int .i64 s.a, .int .i64 s.b, .int .i64 s.c, .int .i64 s.d, .int .i64 s.e] ++ (nums .u8 s.key ++ refV s.rh s.rf s.rl) := by
    unfold SL.V
    rw [← List.append_assoc (nums .u8 s.key), ← List.append_assoc]
    exact take_app (by rw [List.length_append, List.length_append, nums_length, h.k, refV_len h.r]; rfl)
  rw [e]
  unfold SL.V
  simp only [List.append_assoc]
theorem ReadsB.r {w0 : World} {L : List Th} {A : Option Addr} {b : List Int} (h : ReadsB w0 L A b) (t : Th) : ReadsB w0 (t :: L) A b := fun W M hs hS => h W M (by
  obtain ⟨pre, rfl⟩ := hs
  exact ⟨pre ++ [t], by simp⟩) hS
theorem Sep.number4 {w0 w : World} {L : List Th} {gc : Nat} {A : Option Addr} {c : Nat} (p q : Nat) {b : List Int} (h : Sep w0 w (cellsT gc #[.slice A 512 c, .int .i64 (p : Int)] 117 :: L)) (hR : ReadsB w0 L A b) (hb : bytes_ b) (hl : b.length = 512) (hc : 512 ≤ c) (hq : p + 4 = q) (hp : q ≤ 512) :
    Calls Tryd.prog 56 #[.pointer (some ⟨gc, 0, none⟩), .int .i64 4] w fun e w' => e = .returned (.int .i64 (numAt b p 4)) ∧ Sep w0 w' (cellsT gc #[.slice A 512 c, .int .i64 (q : Int)] 117 :: L) := by
  subst hq
  exact Sep.number h hR hb hl hc 4 (by decide) (by decide) hp
set_option maxHeartbeats 8000000 in
set_option maxRecDepth 100000 in
theorem Sep.ref {w0 w : World} {L : List Th} {gc : Nat} {A : Option Addr} {c p : Nat} {b : List Int} (h : Sep w0 w (cellsT gc #[.slice A 512 c, .int .i64 (p : Int)] 117 :: L)) (hR : ReadsB w0 L A b) (hb : bytes_ b) (hl : b.length = 512) (hc : 512 ≤ c) (hp : p + 40 ≤ 512) :
    Calls Tryd.prog 58 #[.pointer (some ⟨gc, 0, none⟩)] w fun e w' => e = .returned (.agg (refV (keyAt b p) (numAt b (p + 32) 4) (numAt b (p + 36) 4)).toArray) ∧ Sep w0 w' (cellsT gc #[.slice A 512 c, .int .i64 ((p + 40 : Nat) : Int)] 117 :: L) := by
  have HKY := Aside0.mk (fun W gr Z (h : Sep w0 W (cellsT gc #[.slice A 512 c, .int .i64 (p : Int)] 117 :: cellsT gr Z 25 :: L)) => Sep.key h (ReadsB.r hR _) hb hl hc (by omega))
  have HN1 := Aside0.mk (fun W gr Z (h : Sep w0 W (cellsT gc #[.slice A 512 c, .int .i64 ((p + 32 : Nat) : Int)] 117 :: cellsT gr Z 25 :: L)) => Sep.number4 _ (p + 36) h (ReadsB.r hR _) hb hl hc (by omega) (by omega))
  have HN2 := Aside0.mk (fun W gr Z (h : Sep w0 W (cellsT gc #[.slice A 512 c, .int .i64 ((p + 36 : Nat) : Int)] 117 :: cellsT gr Z 25 :: L)) => Sep.number4 _ (p + 40) h (ReadsB.r hR _) hb hl hc (by omega) (by omega))
  have HKL := Aside0.mk (keyAt_len (b := b) hl (p := p) (by omega))
  generalize keyAt b p = ky at HKY HKL ⊢
  generalize numAt b (p + 32) 4 = n1 at HN1 ⊢
  generalize numAt b (p + 36) 4 = n2 at HN2 ⊢
  have HSZ := Aside0.mk (show (Tryd.prog.info? 25).map (·.size) = some (refV ky n1 n2).toArray.size from size25 (by simpa using refV_len HKL.out n1 n2))
  have HBL := Aside0.mk (built25 ky HKL.out n1 n2)
  have HAL := Aside0.mk (refV_all ky n1 n2)
  have hz := (zero_of_info (P := Tryd.prog) (t := 25) (v := .agg (refV z32 0 0).toArray) (n := 34) (by kernel_rfl)).1
  generalize hZ : (refV z32 0 0).toArray = Z at hz
  have HZs := Aside0.mk (show Z.size = (refV ky n1 n2).toArray.size from by rw [← hZ]; simp only [List.size_toArray]; rw [refV_len HKL.out, refV_len (by rfl)])
  have HS0 := Aside0.mk h
  clear h hR hb hl hZ
  go_enter Tryd.func58, Tryd.ntmps58
  go_upto_region 1 with (fail)
  have HSa := Aside0.mk (HS0.out.push_alloc Z 25).up1
  generalize w.alloc (.cells Z 25) = w2 at HSa ⊢
  generalize w.heap.size = gr at HSa ⊢
  clear HS0 hz
  go_wp2_with (first
    | (go_at_call 57; (with_reducible refine (HKY.out _ _ _ HSa.out).mono ?_); rintro e w3 ⟨rfl, h3⟩; have HS3 := Aside0.mk h3; clear h3)
    | (go_at_call 56; (with_reducible refine (HN1.out _ _ _ HS3.out).mono ?_); rintro e w4 ⟨rfl, h4⟩; have HS4 := Aside0.mk h4; clear h4 HS3)
    | (go_at_call 56; (with_reducible refine (HN2.out _ _ _ HS4.out).mono ?_); rintro e w5 ⟨rfl, h5⟩; have HS5 := Aside0.mk h5.up1; clear h5 HS4; rename_i hKK; refine hKK _ _ ?_; clear hKK; refine wpList_buildTo rfl 25 _ rfl (some 9) rfl (refV ky n1 n2).toArray ?aB ?_; (case aB => (simp only [List.map_toArray, List.map_cons, List.map_nil]; exact HBL.out)))
    | ((with_reducible refine gate_build (ty := 25) rfl ?_); refine wpList_buildTo rfl 25 _ rfl (some 9) rfl (refV ky n1 n2).toArray ?aB ?_; (case aB => (simp only [List.map_toArray, List.map_cons, List.map_nil]; exact HBL.out)))
    | ((with_reducible refine gate_store (ty := 25) rfl ?_); refine Sep.store_own rfl 25 _ _ rfl rfl rfl HS5.out HSZ.out HZs.out HAL.out ?_; intro w6 h6; have HS6 := Aside0.mk h6; clear h6))
  refine bodyPost_ret (results_cell_row (p := 2) (ty := 25) rfl _ _ gr 25 (refV ky n1 n2).toArray (0, 0) _ rfl HS6.out.cells.1 Tryd.underlying25 rfl HSZ.out) rfl ⟨rfl, ?_⟩
  exact HS6.out.drop
end Go.Proofs.YtaflofcnjakaaaaDoor.M

namespace Go.Proofs.YtaflofcnjakaaaaDoor.M
open Go.RowKit Go.Maps Go.Proofs.YtaflofcnjakaaaaDoorW.PrintWords Go.Proofs.YtaflofcnjakaaaaDoorW.PrintLast Go.Proofs.YtaflofcnjakaaaaDoorW.PrintMore Go.Proofs.YtaflofcnjakaaaaDoor.Wr Go.Proofs.YtaflofcnjakaaaaDoor.Pl Go.Proofs.YtaflofcnjakaaaaDoor.P Go.Proofs.YtaflofcnjakaaaaDoor.A
set_option linter.unusedVariables false
set_option linter.unusedSimpArgs false
theorem results_row_tmp {P : Program} {fn : Func} {p u : Tmp} {ty : TypeId} (h : fn.results = #[.cell p ty, .tmp u]) (tmps : Array Value) (w : World) (g : Nat) (t : TypeId) (cs : Array Value) (fr : Nat × Nat) (d : TypeDesc) (v : Value)
    (hp : tmps.getD p undef = .pointer (some ⟨g, 0, none⟩)) (hv : tmps.getD u undef = v) (hg : w.heap[g]? = some (.cells cs t fr))
    (hu : P.underlying ty = some d) (hd : (match d with | .struct _ | .array _ _ => true | _ => false) = true) (hi : (P.info? ty).map (·.size) = some cs.size) :
    (results fn tmps).run P w = .ok (.tuple #[.agg cs, v]) w := by
  rw [results_cell_tmp h, hp, hv]
  simp [asAddr, run_loadVar_row w g t ty cs fr d hg hu hd hi, Sem.run_bind]
theorem str_inj {x y : List Int} (hx : bytes_ x) (hy : bytes_ y) : ((strOfNums x).toList != (strOfNums y).toList) = decide (x ≠ y) := by
  rw [strOfNums_toList, strOfNums_toList]
  have e : (x.map (fun n => UInt8.ofNat n.toNat) = y.map (fun n => UInt8.ofNat n.toNat)) ↔ x = y := by
    constructor
    · intro h
      induction x generalizing y with
      | nil => cases y with
        | nil => rfl
        | cons b y => simp at h
      | cons a x ih => cases y with
        | nil => simp at h
        | cons b y =>
          simp only [List.map_cons, List.cons.injEq] at h
          have ha := hx a (by simp)
          have hb := hy b (by simp)
          have h1 : a.toNat % 256 = b.toNat % 256 := by
            have := congrArg UInt8.toNat h.1
            simpa [UInt8.toNat_ofNat'] using this
          have hab : a = b := by omega
          rw [hab, ih (fun z hz => hx z (by simp [hz])) (fun z hz => hy z (by simp [hz])) h.2]
    · rintro rfl; rfl
  by_cases hxy : x = y
  · subst hxy; simp
  · have : ¬ (x.map (fun n => UInt8.ofNat n.toNat) = y.map (fun n => UInt8.ofNat n.toNat)) := fun h => hxy (e.1 h)
    rw [bne_iff_ne.2 this]
    simp [hxy]
def noSL : SL := ⟨0, 0, 0, 0, 0, z32, z32, 0, 0, z32, 0, 0⟩
theorem z32_ok : z32.length = 32 ∧ bytes_ z32 := ⟨rfl, fun x hx => by rw [List.eq_of_mem_replicate hx]; omega⟩
theorem noSL_ok : noSL.Ok := ⟨z32_ok.1, z32_ok.1, z32_ok.1, z32_ok.2, z32_ok.2, z32_ok.2⟩
def decS (b : List Int) : SL := (decB b).getD noSL
def decE (b : List Int) : Int := if (decB b).isSome then 0 else 180
theorem decS_no {b : List Int} (h : decB b = none) : decS b = noSL ∧ decE b = 180 := by unfold decS decE; rw [h]; exact ⟨rfl, rfl⟩
theorem decS_yes {b : List Int} {s : SL} (h : decB b = some s) : decS b = s ∧ decE b = 0 := by unfold decS decE; rw [h]; exact ⟨rfl, rfl⟩
theorem decS_ok {b : List Int} (hb : bytes_ b) : (decS b).Ok := by
  cases h : decB b with
  | none => rw [(decS_no h).1]; exact noSL_ok
  | some s => rw [(decS_yes h).1]; exact (dec_some hb h).1
theorem Sep.num_ {w0 w : World} {L : List Th} {gc : Nat} {A : Option Addr} {c : Nat} (n p q : Nat) (N P' Q : Int) {b : List Int} (h : Sep w0 w (cellsT gc #[.slice A 512 c, .int .i64 P'] 117 :: L)) (hR : ReadsB w0 L A b) (hb : bytes_ b) (hl : b.length = 512) (hc : 512 ≤ c) (hN : (n : Int) = N) (hP : (p : Int) = P') (hQ : ((p + n : Nat) : Int) = Q) (h1 : 1 ≤ n) (h8 : n ≤ 8) (hp : p + n ≤ 512) :
    Calls Tryd.prog 56 #[.pointer (some ⟨gc, 0, none⟩), .int .i64 N] w fun e w' => e = .returned (.int .i64 (numAt b p n)) ∧ Sep w0 w' (cellsT gc #[.slice A 512 c, .int .i64 Q] 117 :: L) := by
  subst hN hP hQ
  exact Sep.number h hR hb hl hc n h1 h8 hp
theorem Sep.key_ {w0 w : World} {L : List Th} {gc : Nat} {A : Option Addr} {c : Nat} (p : Nat) (P' Q : Int) {b : List Int} (h : Sep w0 w (cellsT gc #[.slice A 512 c, .int .i64 P'] 117 :: L)) (hR : ReadsB w0 L A b) (hb : bytes_ b) (hl : b.length = 512) (hc : 512 ≤ c) (hP : (p : Int) = P') (hQ : ((p + 32 : Nat) : Int) = Q) (hp : p + 32 ≤ 512) :
    Calls Tryd.prog 57 #[.pointer (some ⟨gc, 0, none⟩)] w fun e w' => e = .returned (.agg (nums .u8 (keyAt b p)).toArray) ∧ Sep w0 w' (cellsT gc #[.slice A 512 c, .int .i64 Q] 117 :: L) := by
  subst hP hQ
  exact Sep.key h hR hb hl hc hp
theorem Sep.ref_ {w0 w : World} {L : List Th} {gc : Nat} {A : Option Addr} {c : Nat} (p : Nat) (P' Q : Int) {b : List Int} (h : Sep w0 w (cellsT gc #[.slice A 512 c, .int .i64 P'] 117 :: L)) (hR : ReadsB w0 L A b) (hb : bytes_ b) (hl : b.length = 512) (hc : 512 ≤ c) (hP : (p : Int) = P') (hQ : ((p + 40 : Nat) : Int) = Q) (hp : p + 40 ≤ 512) :
    Calls Tryd.prog 58 #[.pointer (some ⟨gc, 0, none⟩)] w fun e w' => e = .returned (.agg (refV (keyAt b p) (numAt b (p + 32) 4) (numAt b (p + 36) 4)).toArray) ∧ Sep w0 w' (cellsT gc #[.slice A 512 c, .int .i64 Q] 117 :: L) := by
  subst hP hQ
  exact Sep.ref h hR hb hl hc hp
set_option maxHeartbeats 16000000 in
set_option maxRecDepth 100000 in
theorem Sep.decode {w0 w : World} {L : List Th} {A : Option Addr} {c : Nat} {b : List Int} (h : Sep w0 w L) (hH : Wr.Half w0) (hR : ReadsB w0 L A b) (hb : bytes_ b) (hl : b.length = 512) (hc : 512 ≤ c) :
    Calls Tryd.prog 32 #[.slice A 512 c] w fun e w' => e = .returned (.tuple #[.agg (decS b).V.toArray, .int .i64 (decE b)]) ∧ Sep w0 w' L := by
  have HN0 := Aside0.mk (fun W (t : Th) gc (h : Sep w0 W (cellsT gc #[.slice A 512 c, .int .i64 4] 117 :: t :: L)) => Sep.num_ 4 4 8 4 4 8 h (ReadsB.r hR _) hb hl hc rfl rfl rfl (by decide) (by decide) (by decide))
  have HN1 := Aside0.mk (fun W (t : Th) gc (h : Sep w0 W (cellsT gc #[.slice A 512 c, .int .i64 8] 117 :: t :: L)) => Sep.num_ 4 8 12 4 8 12 h (ReadsB.r hR _) hb hl hc rfl rfl rfl (by decide) (by decide) (by decide))
  have HN2 := Aside0.mk (fun W (t : Th) gc (h : Sep w0 W (cellsT gc #[.slice A 512 c, .int .i64 12] 117 :: t :: L)) => Sep.num_ 8 12 20 8 12 20 h (ReadsB.r hR _) hb hl hc rfl rfl rfl (by decide) (by decide) (by decide))
  have HN3 := Aside0.mk (fun W (t : Th) gc (h : Sep w0 W (cellsT gc #[.slice A 512 c, .int .i64 20] 117 :: t :: L)) => Sep.num_ 8 20 28 8 20 28 h (ReadsB.r hR _) hb hl hc rfl rfl rfl (by decide) (by decide) (by decide))
  have HN4 := Aside0.mk (fun W (t : Th) gc (h : Sep w0 W (cellsT gc #[.slice A 512 c, .int .i64 28] 117 :: t :: L)) => Sep.num_ 8 28 36 8 28 36 h (ReadsB.r hR _) hb hl hc rfl rfl rfl (by decide) (by decide) (by decide))
  have HKY := Aside0.mk (fun W (t : Th) gc (h : Sep w0 W (cellsT gc #[.slice A 512 c, .int .i64 36] 117 :: t :: L)) => Sep.key_ 36 36 68 h (ReadsB.r hR _) hb hl hc rfl rfl (by decide))
  have HRR := Aside0.mk (fun W (t u : Th) gc (h : Sep w0 W (cellsT gc #[.slice A 512 c, .int .i64 68] 117 :: t :: u :: L)) => (show Calls Tryd.prog 58 _ W fun e w' => e = .returned (.agg (refV (keyAt b 68) (numAt b 100 4) (numAt b 104 4)).toArray) ∧ Sep w0 w' (cellsT gc #[.slice A 512 c, .int .i64 108] 117 :: t :: u :: L) from Sep.ref_ 68 68 108 h (ReadsB.r (ReadsB.r hR _) _) hb hl hc rfl rfl (by decide)))
  have HRM := Aside0.mk (fun W (t u : Th) gc (h : Sep w0 W (cellsT gc #[.slice A 512 c, .int .i64 108] 117 :: t :: u :: L)) => (show Calls Tryd.prog 58 _ W fun e w' => e = .returned (.agg (refV (keyAt b 108) (numAt b 140 4) (numAt b 144 4)).toArray) ∧ Sep w0 w' (cellsT gc #[.slice A 512 c, .int .i64 148] 117 :: t :: u :: L) from Sep.ref_ 108 108 148 h (ReadsB.r (ReadsB.r hR _) _) hb hl hc rfl rfl (by decide)))
  have HR0 := Aside0.mk (read_ok hl hb)
  have HDS := Aside0.mk (show mayM (readL b) = true → encB (readL b) = b → decS b = readL b ∧ decE b = 0 from fun h1 h2 => decS_yes (by unfold decB; rw [if_pos ⟨hl, h1, h2⟩]))
  have HDN := Aside0.mk (show (mayM (readL b) = true → encB (readL b) ≠ b) → decS b = noSL ∧ decE b = 180 from fun h1 => decS_no (by unfold decB; rw [if_neg (fun h2 => h1 h2.2.1 h2.2.2)]))
  have HRD := Aside0.mk (show readL b = ⟨numAt b 4 4, numAt b 8 4, numAt b 12 8, numAt b 20 8, numAt b 28 8, keyAt b 36, keyAt b 68, numAt b 100 4, numAt b 104 4, keyAt b 108, numAt b 140 4, numAt b 144 4⟩ from rfl)
  have HKL := Aside0.mk (show (keyAt b 36).length = 32 ∧ (keyAt b 68).length = 32 ∧ (keyAt b 108).length = 32 from ⟨keyAt_len hl (by decide), keyAt_len hl (by decide), keyAt_len hl (by decide)⟩)
  have HKB := Aside0.mk (show bytes_ (keyAt b 36) ∧ bytes_ (keyAt b 68) ∧ bytes_ (keyAt b 108) from ⟨bytes_take (bytes_drop hb _) _, bytes_take (bytes_drop hb _) _, bytes_take (bytes_drop hb _) _⟩)
  have HS0 := Aside0.mk h
  have HCV := Aside0.mk (fun W (M : List Th) (hs : Sub L M) (h : Sep w0 W M) => (show (convert 28 9 (.slice A 512 c)).run Tryd.prog W = .ok (.string (strOfNums b)) W from Kd.C_string (P := Tryd.prog) Tryd.underlying28 Tryd.underlying5 Tryd.underlying9 (hR W M hs h)))
  generalize numAt b 4 4 = n0 at HN0 HRD
  generalize numAt b 8 4 = n1 at HN1 HRD
  generalize numAt b 12 8 = n2 at HN2 HRD
  generalize numAt b 20 8 = n3 at HN3 HRD
  generalize numAt b 28 8 = n4 at HN4 HRD
  generalize keyAt b 36 = k at HKY HRD HKL HKB
  generalize keyAt b 68 = rh at HRR HRD HKL HKB
  generalize numAt b 100 4 = rf at HRR HRD
  generalize numAt b 104 4 = rl at HRR HRD
  generalize keyAt b 108 = mh at HRM HRD HKL HKB
  generalize numAt b 140 4 = mf at HRM HRD
  generalize numAt b 144 4 = ml at HRM HRD
  have HEN := Aside0.mk (fun W (M : List Th) (hm : mayM (readL b) = true) (h : Sep w0 W M) => Sep.encode h hH (readL b) HR0.out hm)
  have HEX := Aside0.mk (fun W (hm : mayM (readL b) = false) => encode_no (readL b) HR0.out hm W)
  have HSI := Aside0.mk (str_inj (bytes_encB HR0.out) hb)
  have HEL := Aside0.mk (encB_len HR0.out)
  have HCE := Aside0.mk (fun W g (M : List Th) (h : Sep w0 W (cellsT g (nums .u8 (encB (readL b))).toArray 89 :: M)) => (show (convert 28 9 (.slice (some ⟨g, 0, none⟩) 512 512)).run Tryd.prog W = .ok (.string (strOfNums (encB (readL b)))) W from Kd.C_string (P := Tryd.prog) Tryd.underlying28 Tryd.underlying5 Tryd.underlying9 (C_segn h.cells.1 0 (encB (readL b)) 512 HEL.out (by rw [List.drop_zero]; exact List.take_of_length_le (by rw [nums_length, HEL.out]; exact Nat.le_refl _)) (by decide))))
  generalize readL b = sr at *
  generalize encB sr = eb at *
  generalize strOfNums b = sb at HCV HSI
  generalize strOfNums eb = se at HCE HSI
  have HB1 := Aside0.mk (built27 k HKL.out.1 n0 n1 n2 n3 n4)
  have HO1 := Aside0.mk (show SL.Ok ⟨n0, n1, n2, n3, n4, k, z32, 0, 0, z32, 0, 0⟩ from ⟨HKL.out.1, z32_ok.1, z32_ok.1, HKB.out.1, z32_ok.2, z32_ok.2⟩)
  have HO2 := Aside0.mk (show SL.Ok ⟨n0, n1, n2, n3, n4, k, rh, rf, rl, z32, 0, 0⟩ from ⟨HKL.out.1, HKL.out.2.1, z32_ok.1, HKB.out.1, HKB.out.2.1, z32_ok.2⟩)
  have HV2 := Aside0.mk (V_set_root HO1.out rh rf rl HKL.out.2.1)
  have HV3 := Aside0.mk (V_set_memo HO2.out mh mf ml HKL.out.2.2)
  have HL1 := Aside0.mk (SL.V_len HO1.out)
  have HL2 := Aside0.mk (SL.V_len HO2.out)
  have HA1 := Aside0.mk (SL.V_all ⟨n0, n1, n2, n3, n4, k, z32, 0, 0, z32, 0, 0⟩)
  have HVR := Aside0.mk (show SL.V ⟨n0, n1, n2, n3, n4, k, rh, rf, rl, mh, mf, ml⟩ = sr.V from by rw [HRD.out])
  have HOK := Aside0.mk (SL.V_len HR0.out)
  have HAV := Aside0.mk (SL.V_all sr)
  have HV3b := HV3.out
  dsimp only at HV3b
  rw [HVR.out] at HV3b
  have HV2b := HV2.out
  dsimp only at HV2b
  clear HV2 HV3 HVR HRD HO1 HO2 HKB
  have HV2 := Aside0.mk HV2b
  have HV3 := Aside0.mk HV3b
  clear HV2b HV3b
  generalize SL.V ⟨n0, n1, n2, n3, n4, k, z32, 0, 0, z32, 0, 0⟩ = V1 at HB1 HV2 HL1 HA1
  generalize SL.V ⟨n0, n1, n2, n3, n4, k, rh, rf, rl, z32, 0, 0⟩ = V2 at HV2 HV3 HL2
  have HSR := Aside0.mk (refV_len HKL.out.2.1 rf rl)
  have HSM := Aside0.mk (refV_len HKL.out.2.2 mf ml)
  have HAR := Aside0.mk (refV_all rh rf rl)
  have HAM := Aside0.mk (refV_all mh mf ml)
  generalize refV rh rf rl = VR at HV2 HSR HAR HRR
  generalize refV mh mf ml = VM at HV3 HSM HAM HRM
  have HSR2 := Aside0.mk (show (Tryd.prog.info? 25).map (·.size) = some VR.toArray.size from size25 (by simpa using HSR.out))
  have HSM2 := Aside0.mk (show (Tryd.prog.info? 25).map (·.size) = some VM.toArray.size from size25 (by simpa using HSM.out))
  have HS1_ := Aside0.mk (show (Tryd.prog.info? 27).map (·.size) = some V1.toArray.size from size27 (by simpa using HL1.out))
  have hz := (zero_of_info (P := Tryd.prog) (t := 27) (v := .agg noSL.V.toArray) (n := 105) (by kernel_rfl)).1
  have HBZ := Aside0.mk (show Tryd.prog.built 27 [] = some noSL.V.toArray from built27z)
  have HSZ := Aside0.mk (show (Tryd.prog.info? 27).map (·.size) = some noSL.V.toArray.size from size27 (by simpa using SL.V_len noSL_ok))
  have HSV := Aside0.mk (show (Tryd.prog.info? 27).map (·.size) = some sr.V.toArray.size from size27 (by simpa using HOK.out))
  have HZA := Aside0.mk (SL.V_all noSL)
  have HZN := Aside0.mk (show noSL.V.toArray.size = 105 from by simpa using SL.V_len noSL_ok)
  have HVN := Aside0.mk (show sr.V.toArray.size = 105 from by simpa using HOK.out)
  generalize hV : sr.V = V at HEN HEX HSV HAV HVN HV3 HOK
  have HV := Aside0.mk hV
  clear hV
  generalize hZ : noSL.V.toArray = Z at hz HBZ HSZ HZA HZN
  have HZ := Aside0.mk hZ
  clear hZ
  clear h hH hR hb hl hc HKL
  generalize decS b = ds at *
  generalize decE b = de at *
  have HZ1 := Aside0.mk (show Z.size = V1.toArray.size from by rw [HZN.out]; simpa using HL1.out.symm)
  have HZV := Aside0.mk (show Z.size = V.toArray.size from by rw [HZN.out, HVN.out])
  go_enter Tryd.func32, Tryd.ntmps32
  go_upto_region 1 with (fail)
  have HS1 := Aside0.mk (HS0.out.push_alloc Z 27)
  generalize w.alloc (.cells Z 27) = w1 at HS1 ⊢
  generalize w.heap.size = gr at HS1 ⊢
  clear HS0
  go_upto_region 4 with (fail)
  have HS2 := Aside0.mk (HS1.out.push_alloc #[.slice A 512 c, .int .i64 4] 117)
  generalize w1.alloc (.cells #[.slice A 512 c, .int .i64 4] 117) = w2 at HS2 ⊢
  generalize w1.heap.size = gc at HS2 ⊢
  clear HS1
  go_upto_region 5 with (first
    | (go_at_call 56; (with_reducible refine (HN0.out _ _ _ HS2.out).mono ?_); rintro e w3 ⟨rfl, h3⟩; have HS3 := Aside0.mk h3; clear h3 HS2)
    | (go_at_call 56; (with_reducible refine (HN1.out _ _ _ HS3.out).mono ?_); rintro e w4 ⟨rfl, h4⟩; have HS4 := Aside0.mk h4; clear h4 HS3)
    | (go_at_call 56; (with_reducible refine (HN2.out _ _ _ HS4.out).mono ?_); rintro e w5 ⟨rfl, h5⟩; have HS5 := Aside0.mk h5; clear h5 HS4)
    | (go_at_call 56; (with_reducible refine (HN3.out _ _ _ HS5.out).mono ?_); rintro e w6 ⟨rfl, h6⟩; have HS6 := Aside0.mk h6; clear h6 HS5)
    | (go_at_call 56; (with_reducible refine (HN4.out _ _ _ HS6.out).mono ?_); rintro e w7 ⟨rfl, h7⟩; have HS7 := Aside0.mk h7; clear h7 HS6)
    | (go_at_call 57; (with_reducible refine (HKY.out _ _ _ HS7.out).mono ?_); rintro e w8 ⟨rfl, h8⟩; have HS8 := Aside0.mk h8; clear h8 HS7)
    | ((with_reducible refine gate_build (ty := 27) rfl ?_); refine wpList_buildTo rfl 27 _ rfl (some 27) rfl V1.toArray ?aB ?_; (case aB => (simp only [List.map_toArray, List.map_cons, List.map_nil]; exact HB1.out)))
    | ((with_reducible refine gate_store (ty := 27) rfl ?_); refine Sep.store_own rfl 27 _ _ rfl rfl rfl (HS8.out.push_alloc Z 27) HS1_.out HZ1.out HA1.out ?_; intro w9 h9; have HS9 := Aside0.mk h9.up1; clear h9))
  generalize w8.heap.size = gs at HS9 ⊢
  clear HS8 HN0 HN1 HN2 HN3 HN4 HKY
  go_upto_region 6 with (first
    | (go_at_call 58; (with_reducible refine (HRR.out _ _ _ _ HS9.out).mono ?_); rintro e w10 ⟨rfl, h10⟩; have HS10 := Aside0.mk h10.up1; clear h10 HS9)
    | ((with_reducible refine gate_store (ty := 25) rfl ?_); refine Sep.store_part (p := 37) rfl 25 _ _ rfl rfl rfl HS10.out HSR2.out ?aP HAR.out ?_; (case aP => (rw [HSR.out, HL1.out]; decide)); intro w11 h11; have HS11 := Aside0.mk (show Sep w0 w11 _ from (by rw [HV2.out] at h11; exact h11.up1)); clear h11 HS10))
  go_upto_region 7 with (first
    | (go_at_call 58; (with_reducible refine (HRM.out _ _ _ _ HS11.out).mono ?_); rintro e w12 ⟨rfl, h12⟩; have HS12 := Aside0.mk h12.up1; clear h12 HS11)
    | ((with_reducible refine gate_store (ty := 25) rfl ?_); refine Sep.store_part (p := 71) rfl 25 _ _ rfl rfl rfl HS12.out HSM2.out ?aP HAM.out ?_; (case aP => (rw [HSM.out, HL2.out]; decide)); intro w13 h13; have HS13 := Aside0.mk (show Sep w0 w13 _ from (by rw [HV3.out] at h13; exact h13)); clear h13 HS12))
  have HLD := Aside0.mk (fun W (M : List Th) (h : Sep w0 W (cellsT gs V.toArray 27 :: M)) => (show ∀ j v, V.toArray.toList[j]? = some v → W.cell? ((⟨gs, 0, none⟩ : Addr).add j) = some v from fun j v hv => seg_at h.cells.1 0 V (by rw [List.drop_zero]; exact List.take_of_length_le (Nat.le_refl _)) j v (by simpa using hv)))
  cases hm : mayM sr with
  | false =>
    go_upto_region 8 with (first
      | ((with_reducible refine gate_load (ty := 27) rfl ?_); refine wpList_ldw ?_ 27 _ rfl ⟨gs, 0, none⟩ ?_ V.toArray _ (HLD.out _ _ HS13.out) Tryd.underlying27 rfl HSV.out ?_; exact rfl; exact rfl; skip)
      | (go_at_call 12; (with_reducible refine (HEX.out _ hm).mono ?_); rintro e w14 ⟨rfl, hb⟩; have HS14 := Aside0.mk (HS13.out.step hb); clear hb))
    go_wp2_with (first
      | ((with_reducible refine gate_build (ty := 27) rfl ?_); refine wpList_buildTo rfl 27 _ rfl (some 48) rfl Z ?aB ?_; (case aB => (simp only [List.map_toArray, List.map_nil]; exact HBZ.out)))
      | ((with_reducible refine gate_store (ty := 27) rfl ?_); refine Sep.store_own rfl 27 _ _ rfl rfl rfl HS14.out.up2 HSZ.out rfl HZA.out ?_; intro w15 h15; have HS15 := Aside0.mk h15; clear h15))
    obtain ⟨rfl, rfl⟩ := HDN.out (fun h => by rw [hm] at h; cases h)
    rw [HZ.out]
    refine bodyPost_ret (results_row_tmp (p := 2) (u := 3) (ty := 27) rfl _ _ gr 27 Z (0, 0) _ _ rfl rfl HS15.out.cells.1 Tryd.underlying27 rfl HSZ.out) rfl ⟨rfl, ?_⟩
    exact HS15.out.drop.drop.drop
  | true =>
    go_upto_region 8 with (first
      | ((with_reducible refine gate_load (ty := 27) rfl ?_); refine wpList_ldw ?_ 27 _ rfl ⟨gs, 0, none⟩ ?_ V.toArray _ (HLD.out _ _ HS13.out) Tryd.underlying27 rfl HSV.out ?_; exact rfl; exact rfl; skip)
      | (go_at_call 12; (with_reducible refine (HEN.out _ _ hm HS13.out).mono ?_); rintro e w14 ⟨ge, rfl, h14⟩; have HS14 := Aside0.mk h14; clear h14))
    have hc1 := HCE.out _ _ _ HS14.out
    have hc2 := HCV.out _ _ (Sub.c (Sub.c (Sub.c (Sub.c (Sub.r _))))) HS14.out
    have hsi := HSI.out
    by_cases hq : eb = b
    · have hsi2 : (se.toList != sb.toList) = false := by rw [hsi, hq]; simp
      have hsi3 : (se.toList == sb.toList) = true := by cases h : (se.toList == sb.toList) with
        | true => rfl
        | false => rw [bne, h] at hsi2; cases hsi2
      clear hsi
      go_upto_region 10 with (fail)
      clear hc1 hc2 HCV
      go_wp2_with (first
        | ((with_reducible refine gate_load (ty := 27) rfl ?_); refine wpList_ldw ?_ 27 _ rfl ⟨gs, 0, none⟩ ?_ V.toArray _ (HLD.out _ _ HS14.out.up1) Tryd.underlying27 rfl HSV.out ?_; exact rfl; exact rfl; skip)
        | ((with_reducible refine gate_store (ty := 27) rfl ?_); refine Sep.store_own rfl 27 _ _ rfl rfl rfl HS14.out.up3 HSV.out HZV.out HAV.out ?_; intro w15 h15; have HS15 := Aside0.mk h15; clear h15))
      obtain ⟨rfl, rfl⟩ := HDS.out hm hq
      rw [HV.out]
      refine bodyPost_ret (results_row_tmp (p := 2) (u := 3) (ty := 27) rfl _ _ gr 27 V.toArray (0, 0) _ _ rfl rfl HS15.out.cells.1 Tryd.underlying27 rfl HSV.out) rfl ⟨rfl, ?_⟩
      exact HS15.out.drop.drop.drop.drop
    · have hsi2 : (se.toList != sb.toList) = true := by rw [hsi]; simp [hq]
      have hsi3 : (se.toList == sb.toList) = false := by cases h : (se.toList == sb.toList) with
        | false => rfl
        | true => rw [bne, h] at hsi2; cases hsi2
      clear hsi
      go_upto_region 9 with (fail)
      clear hc1 hc2 HCV
      go_wp2_with (first
        | ((with_reducible refine gate_build (ty := 27) rfl ?_); refine wpList_buildTo rfl 27 _ rfl (some 48) rfl Z ?aB ?_; (case aB => (simp only [List.map_toArray, List.map_nil]; exact HBZ.out)))
        | ((with_reducible refine gate_store (ty := 27) rfl ?_); refine Sep.store_own rfl 27 _ _ rfl rfl rfl HS14.out.up3 HSZ.out rfl HZA.out ?_; intro w15 h15; have HS15 := Aside0.mk h15; clear h15))
      obtain ⟨rfl, rfl⟩ := HDN.out (fun _ => hq)
      rw [HZ.out]
      refine bodyPost_ret (results_row_tmp (p := 2) (u := 3) (ty := 27) rfl _ _ gr 27 Z (0, 0) _ _ rfl rfl HS15.out.cells.1 Tryd.underlying27 rfl HSZ.out) rfl ⟨rfl, ?_⟩
      exact HS15.out.drop.drop.drop.drop
end Go.Proofs.YtaflofcnjakaaaaDoor.M

namespace Go.Proofs.YtaflofcnjakaaaaDoor.M
open Go.RowKit Go.Maps Go.Proofs.YtaflofcnjakaaaaDoorW.PrintWords Go.Proofs.YtaflofcnjakaaaaDoorW.PrintLast Go.Proofs.YtaflofcnjakaaaaDoorW.PrintMore Go.Proofs.YtaflofcnjakaaaaDoor.Wr Go.Proofs.YtaflofcnjakaaaaDoor.Pl Go.Proofs.YtaflofcnjakaaaaDoor.P Go.Proofs.YtaflofcnjakaaaaDoor.A
set_option linter.unusedVariables false
set_option linter.unusedSimpArgs false
def nwb_T : Bool × List (List Nat × List Nat) := (true, [([], []), ([0], [0]), ([1], [1]), ([2], [2]), ([3, 2], [2, 3]), ([2], [2]), ([5, 2, 2], [2, 5]), ([4, 6, 2], [2, 4, 6]), ([2, 7], [2, 7])])
def nwb_B : List Nat := [0, 1, 3, 7, 15, 7, 39, 127, 255]
theorem nwb_tab : rtab .any (opsOf Tryd.f17 4) = nwb_T := by kernel_rfl
theorem nwb_bits : waitsOk nwb_T.2 nwb_B = true := by kernel_rfl
def st19_T : Bool × List (List Nat × List Nat) := (true, [([], []), ([0], [0]), ([1], [1]), ([2], [2]), ([], []), ([4], [4]), ([5], [5]), ([6], [6]), ([], []), ([8], [8]), ([9], [9]), ([10], [10]), ([3, 7, 11], [3, 7, 11])])
def st19_B : List Nat := [0, 1, 3, 7, 0, 16, 48, 112, 0, 256, 768, 1792, 4095]
theorem st19_tab : rtab .any (opsOf Tryd.f19 3) = st19_T := by kernel_rfl
theorem st19_bits : waitsOk st19_T.2 st19_B = true := by kernel_rfl
def wrT (gx ge gd : Nat) (n : Int) (b : List Int) (st : Int) : List Th := [cellsT gx #[.pointer (some ⟨gd, 0, none⟩), .int .i64 n, .slice (some ⟨ge, 0, none⟩) 512 512, .int .i64 st] 104, cellsT ge (nums .u8 b).toArray 89]
set_option maxHeartbeats 8000000 in
set_option maxRecDepth 100000 in
theorem Sep.writer {w0 w : World} {L : List Th} {gd : Nat} {D : DS} (h : Sep w0 w (dkT gd D :: L)) (hH : Wr.Half w0) (s : SL) (hs : s.Ok) (hm : mayM s = true) (hsec : s.a = (D.n : Int)) :
    Calls Tryd.prog 17 #[.pointer (some ⟨gd, 0, none⟩), .agg s.V.toArray] w fun e w' => ∃ gx ge, e = .returned (.tuple #[.pointer (some ⟨gx, 0, none⟩), .int .i64 0]) ∧ Sep w0 w' (wrT gx ge gd (s.c.tmod 2) (encB s) 0 ++ dkT gd D :: L) := by
  have HSA := Aside0.mk (show (Tryd.prog.info? 27).map (·.size) = some s.V.toArray.size from size27 (by simpa using SL.V_len hs))
  have HEN := Aside0.mk (fun W (M : List Th) (h : Sep w0 W M) => Sep.encode h hH s hs hm)
  have HSA0 := Aside0.mk (show s.V.toArray[0]? = some (.int .i64 s.a) from by simpa using s.V0)
  have HSA2 := Aside0.mk (show s.V.toArray[2]? = some (.int .i64 s.c) from by simpa using s.V2)
  have HS0 := Aside0.mk (h.push_alloc s.V.toArray 27)
  have HLV := Aside0.mk (fun W (M : List Th) g (h : Sep w0 W (cellsT g s.V.toArray 27 :: M)) => (show ∀ j v, s.V.toArray.toList[j]? = some v → W.cell? ((⟨g, 0, none⟩ : Addr).add j) = some v from fun j v hv => seg_at h.cells.1 0 s.V (by rw [List.drop_zero]; exact List.take_of_length_le (Nat.le_refl _)) j v (by simpa using hv)))
  have HSC := Aside0.mk (fun W (M : List Th) (h : Sep w0 W (dkT gd D :: M)) => (show Calls Tryd.prog 47 #[.pointer (some ⟨gd, 0, none⟩)] W (fun e w' => e = .returned (.int .i64 s.a) ∧ w' = W) from by rw [hsec]; exact Sep.sectors h))
  clear h hs hm hH hsec
  generalize s.V.toArray = V at HS0 HEN HSA HLV HSA0 HSA2 ⊢
  generalize encB s = eb at HEN ⊢
  generalize s.a = sa at *
  generalize s.c = sc at *
  go_enter Tryd.func17, Tryd.ntmps17
  go_upto_region 1 with (fail)
  generalize w.alloc (.cells V 27) = w1 at HS0 ⊢
  generalize w.heap.size = g0 at HS0 ⊢
  go_upto_region 4 with (first
    | ((with_reducible refine gate_load (ty := 27) rfl ?_); refine wpList_ldw ?_ 27 _ rfl ⟨g0, 0, none⟩ ?_ V _ (HLV.out _ _ _ HS0.out) Tryd.underlying27 rfl HSA.out ?_; exact rfl; exact rfl; skip)
    | (go_at_call 12; (with_reducible refine (HEN.out _ _ HS0.out).mono ?_); rintro e w2 ⟨ge, rfl, h2⟩; have HSx := Aside0.mk h2; clear h2))
  have HSy := Aside0.mk (HSx.out.step (below_drew1 (Below.refl w2.heap.size w2)))
  clear HS0 HSx HEN HLV
  refine start_ (n := 9) (S := fun W => W.cell? ⟨g0, 0, none⟩ = some (.int .i64 sa)) (ds := []) (bb 9 0) (by kernel_rfl) rfl rfl (blk_cell HSy.out.up1.cells.1 0 |>.trans HSA0.out) (fun hHeld => ?_); refine with_tabW nwb_tab nwb_bits (fun HT_ HW_ => ?_)
  generalize w2.drew = wd at hHeld HSy ⊢
  refine pure_ (i := 0) (N := (some 15)) (v := ?_) (a' := ?_) (bb 9 1) rfl rfl (any_of HT_.out (by kernel_rfl)) (fun _ _ _ h => h) (Or.inl ⟨by rfl, ?_⟩) ?_ ?_
  rotate_left
  · intro w'
    go_simp
    with_reducible rfl
  rotate_left
  · simp only [Act.put, List.setIfInBounds_toArray, List.set_cons_zero, List.set_cons_succ, i64_w, i32_w]
    rfl
  refine pure_ (i := 1) (N := (some 16)) (v := ?_) (a' := ?_) (bb 9 3) rfl rfl (any_of HT_.out (by kernel_rfl)) (fun _ _ _ h => h) (Or.inl ⟨by rfl, ?_⟩) ?_ ?_
  rotate_left
  · intro w'
    go_simp
    with_reducible rfl
  rotate_left
  · simp only [Act.put, List.setIfInBounds_toArray, List.set_cons_zero, List.set_cons_succ, i64_w, i32_w]
    rfl
  refine pure_ (i := 2) (N := (some 17)) (v := ?_) (a' := ?_) (bb 9 7) rfl rfl (any_of HT_.out (by kernel_rfl)) (fun _ _ _ h => h) (Or.inl ⟨by rfl, ?_⟩) ?_ ?_
  rotate_left
  · intro w'
    go_simp
    with_reducible rfl
  rotate_left
  · simp only [Act.put, List.setIfInBounds_toArray, List.set_cons_zero, List.set_cons_succ, i64_w, i32_w]
    rfl
  refine pure_ (i := 3) (N := (some 18)) (v := ?_) (a' := ?_) (bb 9 15) rfl rfl (any_of HT_.out (by kernel_rfl)) (fun _ _ _ h => h) (Or.inl ⟨by rfl, ?_⟩) ?_ ?_
  rotate_left
  · intro w'
    go_simp
    with_reducible rfl
  rotate_left
  · simp only [Act.put, List.setIfInBounds_toArray, List.set_cons_zero, List.set_cons_succ, i64_w, i32_w]
    rfl
  refine take_ (i := 4) (N := (some 19)) (v := ?_) (a' := ?_) (bb 9 31) rfl rfl (take_ofW HT_.out HW_.out (by kernel_rfl)) (fun _ _ _ h => h) (Or.inl ⟨by rfl, ?_⟩) hHeld ?_ ?_
  rotate_left
  · intro w' s0
    (try dsimp only at s0)
    go_simp
    with_reducible rfl
  rotate_left
  · simp only [Act.put, List.setIfInBounds_toArray, List.set_cons_zero, List.set_cons_succ, i64_w, i32_w]
    rfl
  refine pure_ (i := 5) (N := (some 20)) (v := ?_) (a' := ?_) (bb 9 63) rfl rfl (any_of HT_.out (by kernel_rfl)) (fun _ _ _ h => h) (Or.inl ⟨by rfl, ?_⟩) ?_ ?_
  rotate_left
  · intro w'
    go_simp
    with_reducible rfl
  rotate_left
  · simp only [Act.put, List.setIfInBounds_toArray, List.set_cons_zero, List.set_cons_succ, i64_w, i32_w]
    rfl
  refine one_ (i := 6) (N := (some 21)) (bb 9 127) rfl rfl (one_of HT_.out (by kernel_rfl)) (by decide) (fun K hK => ?_)
  refine goes_ Tryd.func47 (by kernel_rfl) rfl #[.pointer (some ⟨gd, 0, none⟩)] (by rfl) rfl rfl (by (try simp only [List.map_toArray, List.map_cons, List.map_nil]); first | done | rfl) ?_
  refine (HSC.out _ _ HSy.out.up2).mono ?_
  rintro e w3 ⟨rfl, rfl⟩
  refine ⟨_, rfl, ?_⟩
  refine hK.out _ _ (blk_cell HSy.out.up1.cells.1 0 |>.trans HSA0.out) (fun hHeld => ?_)
  clear hK K
  refine norm_ (a' := ?_) ?_ ?_
  rotate_left
  · show Act.put _ (some 21) _ = _
    simp only [Act.put, List.setIfInBounds_toArray, List.set_cons_zero, List.set_cons_succ, i64_w, i32_w]
    rfl
  refine pure_ (i := 7) (N := (some 22)) (v := ?_) (a' := ?_) (bb 9 255) rfl rfl (any_of HT_.out (by kernel_rfl)) (fun _ _ _ h => h) (Or.inl ⟨by rfl, ?_⟩) ?_ ?_
  rotate_left
  · intro w'
    go_simp
    with_reducible rfl
  rotate_left
  · simp only [Act.put, List.setIfInBounds_toArray, List.set_cons_zero, List.set_cons_succ, i64_w, i32_w]
    rfl
  refine pure_ (i := 8) (N := (some 23)) (v := ?_) (a' := ?_) (bb 9 511) rfl rfl (any_of HT_.out (by kernel_rfl)) (fun _ _ _ h => h) (Or.inl ⟨by rfl, ?_⟩) ?_ ?_
  rotate_left
  · intro w'
    go_simp
    with_reducible rfl
  rotate_left
  · simp only [Act.put, List.setIfInBounds_toArray, List.set_cons_zero, List.set_cons_succ, i64_w, i32_w]
    rfl
  refine done_ (done_of HT_.out (by kernel_rfl)) ?_
  clear hHeld HT_ HW_
  go_upto_region 6 with (fail)
  have x2 : w3.cell? ⟨g0, 2, none⟩ = some (.int .i64 sc) := blk_cell HSy.out.up1.cells.1 2 |>.trans HSA2.out
  go_wp2
  go_ret2
  exact ⟨_, _, rfl, (HSy.out.up1.drop.push_alloc _ 104)⟩
theorem Sep.write_cells {w0 w : World} {L : List Th} {g ge ty : Nat} {s : DS} {b : List Int} (h : Sep w0 w (cellsT ge (nums .u8 b).toArray ty :: dkT g s :: L)) (i : Nat) (hi : i < s.n) (hc : s.c < 1073741824) (hb : b.length = 512) :
    Calls Tryd.prog 25 #[.pointer (some ⟨g, 0, none⟩), .int .i64 (i : Int), .slice (some ⟨ge, 0, none⟩) 512 512] w fun e w' => e = .returned (.int .i64 0) ∧ Sep w0 w' (cellsT ge (nums .u8 b).toArray ty :: dkT g (s.put i b) :: L) := by
  have hC : (Kd.int .u8).C w (some ⟨ge, 0, none⟩) 512 b := C_segn h.cells.1 0 b 512 hb (by rw [List.drop_zero]; exact List.take_of_length_le (by rw [nums_length, hb]; exact Nat.le_refl _)) (by decide)
  obtain ⟨G, ⟨hG1, hG2⟩, hG3, hG4⟩ := h.open_
  obtain ⟨U, ⟨F0, h1, h2, F, ⟨base, h4⟩, h5, _⟩, h6, h7⟩ := Sep.split (M := [cellsT ge (nums .u8 b).toArray ty, dkT g s]) h
  refine (write_at g i (some ⟨ge, 0, none⟩) 512 b w base F s h4 hi hC (fun ad e hF => ?_) hc).mono ?_
  · cases e
    exact (h5 _ hF).2 ((h1.2 ge).2 rfl)
  · rintro e w' ⟨he, F', hd, hF, hch⟩
    refine ⟨he, h7 [cellsT ge (nums .u8 b).toArray ty, dkT g (s.put i b)] w' ⟨F0, Th.step _ h1 (fun x hx => hch.block x (Th.foot _ h1 x hx) (fun hF => (h5 x hF).2 hx)), fun x hx => .inl (h2 x hx), F', ⟨base, hd⟩, fun x hx => ?_, trivial⟩ (hch.mono (fun x hx => (h5 x hx).1))⟩
    rcases hF x hx with hx1 | hx1
    · exact ⟨.inl (h5 x hx1).1, (h5 x hx1).2⟩
    · exact ⟨.inr hx1, fun hx2 => Nat.not_lt.2 hx1 (Th.foot _ h1 x hx2)⟩
set_option maxHeartbeats 8000000 in
set_option maxRecDepth 100000 in
theorem Sep.step0 {w0 w : World} {L : List Th} {gx ge gd i : Nat} {n : Int} {b : List Int} {D : DS} (h : Sep w0 w (wrT gx ge gd n b 0 ++ dkT gd D :: L)) (hn : n = (i : Int)) (hi : i < D.n) (hc : D.c < 1073741824) (hb : b.length = 512) :
    Calls Tryd.prog 19 #[.pointer (some ⟨gx, 0, none⟩)] w fun e w' => e = .returned (.tuple #[.bool false, .int .i64 0]) ∧ Sep w0 w' (wrT gx ge gd n b 1 ++ dkT gd (D.put i b) :: L) := by
  have HS0 := Aside0.mk (show Sep w0 w (cellsT gx #[.pointer (some ⟨gd, 0, none⟩), .int .i64 n, .slice (some ⟨ge, 0, none⟩) 512 512, .int .i64 0] 104 :: cellsT ge (nums .u8 b).toArray 89 :: dkT gd D :: L) from h)
  have HWR := Aside0.mk (fun W (M : List Th) (h : Sep w0 W (cellsT ge (nums .u8 b).toArray 89 :: dkT gd D :: M)) => (show Calls Tryd.prog 25 #[.pointer (some ⟨gd, 0, none⟩), .int .i64 n, .slice (some ⟨ge, 0, none⟩) 512 512] W _ from by rw [hn]; exact Sep.write_cells h i hi hc hb))
  have x0 : w.cell? ⟨gx, 3, none⟩ = some (.int .i64 0) := blk_cell HS0.out.cells.1 3
  clear h hn hi hc hb
  go_enter Tryd.func19, Tryd.ntmps19
  go_upto_region 3 with (fail)
  have HSy := Aside0.mk (HS0.out.step (below_drew1 (Below.refl w.heap.size w)))
  clear x0 HS0
  refine start_ (n := 13) (S := fun W => W.cell? ⟨gx, 0, none⟩ = some (.pointer (some ⟨gd, 0, none⟩)) ∧ W.cell? ⟨gx, 1, none⟩ = some (.int .i64 n) ∧ W.cell? ⟨gx, 2, none⟩ = some (.slice (some ⟨ge, 0, none⟩) 512 512)) (ds := [12]) (bb 13 0) (by kernel_rfl) rfl rfl (⟨blk_cell HSy.out.cells.1 0, blk_cell HSy.out.cells.1 1, blk_cell HSy.out.cells.1 2⟩) (fun hHeld => ?_); refine with_tabW st19_tab st19_bits (fun HT_ HW_ => ?_)
  generalize w.drew = wd at hHeld HSy ⊢
  refine pure_ (i := 0) (N := (some 10)) (v := ?_) (a' := ?_) (bb 13 1) rfl rfl (any_of HT_.out (by kernel_rfl)) (fun _ _ _ h => h) (Or.inl ⟨by rfl, ?_⟩) ?_ ?_
  rotate_left
  · intro w'
    go_simp
    with_reducible rfl
  rotate_left
  · simp only [Act.put, List.setIfInBounds_toArray, List.set_cons_zero, List.set_cons_succ, i64_w, i32_w]
    rfl
  refine pure_ (i := 1) (N := (some 11)) (v := ?_) (a' := ?_) (bb 13 3) rfl rfl (any_of HT_.out (by kernel_rfl)) (fun _ _ _ h => h) (Or.inl ⟨by rfl, ?_⟩) ?_ ?_
  rotate_left
  · intro w'
    go_simp
    with_reducible rfl
  rotate_left
  · simp only [Act.put, List.setIfInBounds_toArray, List.set_cons_zero, List.set_cons_succ, i64_w, i32_w]
    rfl
  refine pure_ (i := 2) (N := (some 12)) (v := ?_) (a' := ?_) (bb 13 7) rfl rfl (any_of HT_.out (by kernel_rfl)) (fun _ _ _ h => h) (Or.inl ⟨by rfl, ?_⟩) ?_ ?_
  rotate_left
  · intro w'
    go_simp
    with_reducible rfl
  rotate_left
  · simp only [Act.put, List.setIfInBounds_toArray, List.set_cons_zero, List.set_cons_succ, i64_w, i32_w]
    rfl
  refine take_ (i := 3) (N := (some 13)) (v := ?_) (a' := ?_) (bb 13 15) rfl rfl (take_ofW HT_.out HW_.out (by kernel_rfl)) (fun _ _ _ h => h) (Or.inl ⟨by rfl, ?_⟩) hHeld ?_ ?_
  rotate_left
  · intro w' s0
    (try dsimp only at s0)
    go_simp
    with_reducible rfl
  rotate_left
  · simp only [Act.put, List.setIfInBounds_toArray, List.set_cons_zero, List.set_cons_succ, i64_w, i32_w]
    rfl
  refine pure_ (i := 4) (N := (some 14)) (v := ?_) (a' := ?_) (bb 13 31) rfl rfl (any_of HT_.out (by kernel_rfl)) (fun _ _ _ h => h) (Or.inl ⟨by rfl, ?_⟩) ?_ ?_
  rotate_left
  · intro w'
    go_simp
    with_reducible rfl
  rotate_left
  · simp only [Act.put, List.setIfInBounds_toArray, List.set_cons_zero, List.set_cons_succ, i64_w, i32_w]
    rfl
  refine pure_ (i := 5) (N := (some 15)) (v := ?_) (a' := ?_) (bb 13 63) rfl rfl (any_of HT_.out (by kernel_rfl)) (fun _ _ _ h => h) (Or.inl ⟨by rfl, ?_⟩) ?_ ?_
  rotate_left
  · intro w'
    go_simp
    with_reducible rfl
  rotate_left
  · simp only [Act.put, List.setIfInBounds_toArray, List.set_cons_zero, List.set_cons_succ, i64_w, i32_w]
    rfl
  refine pure_ (i := 6) (N := (some 16)) (v := ?_) (a' := ?_) (bb 13 127) rfl rfl (any_of HT_.out (by kernel_rfl)) (fun _ _ _ h => h) (Or.inl ⟨by rfl, ?_⟩) ?_ ?_
  rotate_left
  · intro w'
    go_simp
    with_reducible rfl
  rotate_left
  · simp only [Act.put, List.setIfInBounds_toArray, List.set_cons_zero, List.set_cons_succ, i64_w, i32_w]
    rfl
  refine take_ (i := 7) (N := (some 17)) (v := ?_) (a' := ?_) (bb 13 255) rfl rfl (take_ofW HT_.out HW_.out (by kernel_rfl)) (fun _ _ _ h => h) (Or.inl ⟨by rfl, ?_⟩) hHeld ?_ ?_
  rotate_left
  · intro w' s0
    (try dsimp only at s0)
    go_simp
    with_reducible rfl
  rotate_left
  · simp only [Act.put, List.setIfInBounds_toArray, List.set_cons_zero, List.set_cons_succ, i64_w, i32_w]
    rfl
  refine pure_ (i := 8) (N := (some 18)) (v := ?_) (a' := ?_) (bb 13 511) rfl rfl (any_of HT_.out (by kernel_rfl)) (fun _ _ _ h => h) (Or.inl ⟨by rfl, ?_⟩) ?_ ?_
  rotate_left
  · intro w'
    go_simp
    with_reducible rfl
  rotate_left
  · simp only [Act.put, List.setIfInBounds_toArray, List.set_cons_zero, List.set_cons_succ, i64_w, i32_w]
    rfl
  refine pure_ (i := 9) (N := (some 19)) (v := ?_) (a' := ?_) (bb 13 1023) rfl rfl (any_of HT_.out (by kernel_rfl)) (fun _ _ _ h => h) (Or.inl ⟨by rfl, ?_⟩) ?_ ?_
  rotate_left
  · intro w'
    go_simp
    with_reducible rfl
  rotate_left
  · simp only [Act.put, List.setIfInBounds_toArray, List.set_cons_zero, List.set_cons_succ, i64_w, i32_w]
    rfl
  refine pure_ (i := 10) (N := (some 20)) (v := ?_) (a' := ?_) (bb 13 2047) rfl rfl (any_of HT_.out (by kernel_rfl)) (fun _ _ _ h => h) (Or.inl ⟨by rfl, ?_⟩) ?_ ?_
  rotate_left
  · intro w'
    go_simp
    with_reducible rfl
  rotate_left
  · simp only [Act.put, List.setIfInBounds_toArray, List.set_cons_zero, List.set_cons_succ, i64_w, i32_w]
    rfl
  refine take_ (i := 11) (N := (some 21)) (v := ?_) (a' := ?_) (bb 13 4095) rfl rfl (take_ofW HT_.out HW_.out (by kernel_rfl)) (fun _ _ _ h => h) (Or.inl ⟨by rfl, ?_⟩) hHeld ?_ ?_
  rotate_left
  · intro w' s0
    (try dsimp only at s0)
    go_simp
    with_reducible rfl
  rotate_left
  · simp only [Act.put, List.setIfInBounds_toArray, List.set_cons_zero, List.set_cons_succ, i64_w, i32_w]
    rfl
  refine last_ (i := 12) (N := (some 22)) (bb 13 8191) rfl rfl (one_of HT_.out (by kernel_rfl)) (by decide) (fun K hK => ?_)
  refine goes_ Tryd.func25 (by kernel_rfl) rfl #[.pointer (some ⟨gd, 0, none⟩), .int .i64 n, .slice (some ⟨ge, 0, none⟩) 512 512] (by rfl) rfl rfl (by (try simp only [List.map_toArray, List.map_cons, List.map_nil]); first | done | rfl) ?_
  refine (HWR.out _ _ HSy.out.up2.up2).mono ?_
  rintro e w3 ⟨rfl, h3⟩
  have HS3 := Aside0.mk h3
  clear h3
  refine ⟨_, rfl, ?_⟩
  refine hK.out _ _ ?_
  clear hK K
  refine norm_ (a' := ?_) ?_ ?_
  rotate_left
  · show Act.put _ (some 22) _ = _
    simp only [Act.put, List.setIfInBounds_toArray, List.set_cons_zero, List.set_cons_succ, i64_w, i32_w]
    rfl
  refine done_ (done_of HT_.out (by kernel_rfl)) ?_
  clear hHeld HT_ HW_ HSy
  have HS4 := Aside0.mk HS3.out.up2
  clear HS3
  have x3 : w3.cell? ⟨gx, 3, none⟩ = some (.int .i64 0) := blk_cell HS4.out.cells.1 3
  have f3 : w3.frozen? ⟨gx, 3, none⟩ = false := blk_frozen HS4.out.cells.1 3
  go_wp2
  go_ret2
  exact ⟨rfl, HS4.out.cset 3 (.int .i64 1)⟩
set_option maxHeartbeats 8000000 in
set_option maxRecDepth 100000 in
theorem Sep.step1 {w0 w : World} {L : List Th} {gx ge gd : Nat} {n : Int} {b : List Int} {D : DS} (h : Sep w0 w (wrT gx ge gd n b 1 ++ dkT gd D :: L)) :
    Calls Tryd.prog 19 #[.pointer (some ⟨gx, 0, none⟩)] w fun e w' => e = .returned (.tuple #[.bool true, .int .i64 0]) ∧ Sep w0 w' (wrT gx ge gd n b 2 ++ dkT gd D.flush :: L) := by
  have HS0 := Aside0.mk (show Sep w0 w (cellsT gx #[.pointer (some ⟨gd, 0, none⟩), .int .i64 n, .slice (some ⟨ge, 0, none⟩) 512 512, .int .i64 1] 104 :: cellsT ge (nums .u8 b).toArray 89 :: dkT gd D :: L) from h)
  have x0 : w.cell? ⟨gx, 3, none⟩ = some (.int .i64 1) := blk_cell HS0.out.cells.1 3
  have x1 : w.cell? ⟨gx, 0, none⟩ = some (.pointer (some ⟨gd, 0, none⟩)) := blk_cell HS0.out.cells.1 0
  clear h
  go_enter Tryd.func19, Tryd.ntmps19
  go_upto_region 8 with (go_at_call 27; (with_reducible refine (Sep.flush HS0.out.up2).mono ?_); rintro e w3 ⟨⟨v3, rfl⟩, h3⟩; have HS4 := Aside0.mk h3.up2.up2; clear h3)
  clear x0 x1 HS0
  have x3 : w3.cell? ⟨gx, 3, none⟩ = some (.int .i64 1) := blk_cell HS4.out.cells.1 3
  have f3 : w3.frozen? ⟨gx, 3, none⟩ = false := blk_frozen HS4.out.cells.1 3
  go_wp2
  go_ret2
  exact ⟨rfl, (HS4.out.cset 3 (.int .i64 2))⟩
set_option maxHeartbeats 8000000 in
set_option maxRecDepth 100000 in
theorem Sep.step2 {w0 w : World} {L : List Th} {gx ge gd : Nat} {n : Int} {b : List Int} (h : Sep w0 w (wrT gx ge gd n b 2 ++ L)) :
    Calls Tryd.prog 19 #[.pointer (some ⟨gx, 0, none⟩)] w fun e w' => e = .returned (.tuple #[.bool true, .int .i64 0]) ∧ w' = w := by
  have HS0 := Aside0.mk (show Sep w0 w (cellsT gx #[.pointer (some ⟨gd, 0, none⟩), .int .i64 n, .slice (some ⟨ge, 0, none⟩) 512 512, .int .i64 2] 104 :: cellsT ge (nums .u8 b).toArray 89 :: L) from h)
  have x0 : w.cell? ⟨gx, 3, none⟩ = some (.int .i64 2) := blk_cell HS0.out.cells.1 3
  clear h
  go_enter Tryd.func19, Tryd.ntmps19
  go_wp2
  go_ret2
  exact ⟨rfl, rfl⟩
end Go.Proofs.YtaflofcnjakaaaaDoor.M

namespace Go.Proofs.YtaflofcnjakaaaaDoor.M
open Go.RowKit Go.Maps Go.Proofs.YtaflofcnjakaaaaDoorW.PrintWords Go.Proofs.YtaflofcnjakaaaaDoorW.PrintLast Go.Proofs.YtaflofcnjakaaaaDoorW.PrintMore Go.Proofs.YtaflofcnjakaaaaDoor.Wr Go.Proofs.YtaflofcnjakaaaaDoor.Pl Go.Proofs.YtaflofcnjakaaaaDoor.P Go.Proofs.YtaflofcnjakaaaaDoor.A
set_option linter.unusedVariables false
set_option linter.unusedSimpArgs false
def startSL : SL := ⟨0, 0, -1, 0, 0, z32, z32, 0, 0, z32, 0, 0⟩
def rda_T : Bool × List (List Nat × List Nat) := (true, [([], []), ([0], [0]), ([1], [1]), ([2], [2]), ([3, 2], [2, 3]), ([2], [2]), ([5, 2, 2], [2, 5]), ([4, 6, 2], [2, 4, 6]), ([2, 7], [2, 7]), ([8, 6], [8]), ([9], [9]), ([10, 9], [9, 10]), ([11, 9], [9, 11]), ([9], [9]), ([12, 13, 9], [9, 12, 13]), ([9, 14], [9, 14]), ([15, 9], [15]), ([16], [16]), ([17, 16], [16, 17]), ([16], [16]), ([19, 16], [16, 19]), ([18, 20, 16], [16, 18, 20]), ([16, 21], [16, 21])])
def rda_B : List Nat := [0, 1, 3, 7, 15, 7, 39, 127, 255, 511, 1023, 2047, 4095, 1023, 16383, 32767, 65535, 131071, 262143, 131071, 655359, 2097151, 4194303]
theorem rda_tab : rtab .any (opsOf Tryd.f28 9) = rda_T := by kernel_rfl
theorem rda_bits : waitsOk rda_T.2 rda_B = true := by kernel_rfl
def rdb_T : Bool × List (List Nat × List Nat) := (true, [([], []), ([0], [0]), ([1], [1]), ([2], [2]), ([3, 2], [2, 3]), ([2], [2]), ([5, 2, 2], [2, 5]), ([4, 6, 2], [2, 4, 6]), ([2, 7], [2, 7]), ([8, 6], [8]), ([9], [9]), ([10, 9], [9, 10]), ([11, 9], [9, 11]), ([9], [9]), ([12, 13, 9], [9, 12, 13]), ([9, 14], [9, 14]), ([15, 9], [15]), ([16], [16]), ([17, 16], [16, 17]), ([16], [16]), ([19, 16], [16, 19]), ([18, 20, 16], [16, 18, 20]), ([16, 21], [16, 21])])
def rdb_B : List Nat := [0, 1, 3, 7, 15, 7, 39, 127, 255, 511, 1023, 2047, 4095, 1023, 16383, 32767, 65535, 131071, 262143, 131071, 655359, 2097151, 4194303]
theorem rdb_tab : rtab .any (opsOf Tryd.f28 9) = rdb_T := by kernel_rfl
theorem rdb_bits : waitsOk rdb_T.2 rdb_B = true := by kernel_rfl
def rdc_T : Bool × List (List Nat × List Nat) := (true, [([], []), ([0], [0]), ([1], [1]), ([2], [2]), ([3, 2], [2, 3]), ([2], [2]), ([5, 2, 2], [2, 5]), ([4, 6, 2], [2, 4, 6]), ([2, 7], [2, 7]), ([8, 6], [8]), ([9], [9]), ([10, 9], [9, 10]), ([11, 9], [9, 11]), ([9], [9]), ([12, 13, 9], [9, 12, 13]), ([9, 14], [9, 14]), ([15, 9], [15]), ([16], [16]), ([17, 16], [16, 17]), ([16], [16]), ([19, 16], [16, 19]), ([18, 20, 16], [16, 18, 20]), ([16, 21], [16, 21])])
def rdc_B : List Nat := [0, 1, 3, 7, 15, 7, 39, 127, 255, 511, 1023, 2047, 4095, 1023, 16383, 32767, 65535, 131071, 262143, 131071, 655359, 2097151, 4194303]
theorem rdc_tab : rtab .any (opsOf Tryd.f28 9) = rdc_T := by kernel_rfl
theorem rdc_bits : waitsOk rdc_T.2 rdc_B = true := by kernel_rfl
def rdd_T : Bool × List (List Nat × List Nat) := (true, [([], []), ([0], [0]), ([1], [1]), ([2], [2]), ([3, 2], [2, 3]), ([2], [2]), ([5, 2, 2], [2, 5]), ([4, 6, 2], [2, 4, 6]), ([2, 7], [2, 7]), ([8, 6], [8]), ([9], [9]), ([10, 9], [9, 10]), ([11, 9], [9, 11]), ([9], [9]), ([12, 13, 9], [9, 12, 13]), ([9, 14], [9, 14]), ([15, 9], [15]), ([16], [16]), ([17, 16], [16, 17]), ([16], [16]), ([19, 16], [16, 19]), ([18, 20, 16], [16, 18, 20]), ([16, 21], [16, 21])])
def rdd_B : List Nat := [0, 1, 3, 7, 15, 7, 39, 127, 255, 511, 1023, 2047, 4095, 1023, 16383, 32767, 65535, 131071, 262143, 131071, 655359, 2097151, 4194303]
theorem rdd_tab : rtab .any (opsOf Tryd.f28 9) = rdd_T := by kernel_rfl
theorem rdd_bits : waitsOk rdd_T.2 rdd_B = true := by kernel_rfl
theorem startSL_ok : startSL.Ok := ⟨z32_ok.1, z32_ok.1, z32_ok.1, z32_ok.2, z32_ok.2, z32_ok.2⟩
def pickS (N n : Int) (best s : SL) (e : Int) : SL := if e = 0 ∧ s.a = N ∧ s.c.tmod 2 = n ∧ best.c < s.c then s else best
def bestJ (N : Int) (cur : Nat → List Int) : Nat → SL
  | 0 => startSL
  | j + 1 => pickS N (j : Int) (bestJ N cur j) (decS (cur j)) (decE (cur j))
theorem bestJ_ok {N : Int} {cur : Nat → List Int} (h : ∀ j, bytes_ (cur j)) : ∀ j, (bestJ N cur j).Ok
  | 0 => startSL_ok
  | j + 1 => by
    unfold bestJ pickS
    split
    · exact decS_ok (h j)
    · exact bestJ_ok h j
def DS.readsJ (s : DS) : Nat → DS
  | 0 => s
  | j + 1 => (s.readsJ j).reads
theorem DS.readsJ_cur (s : DS) : ∀ j, (s.readsJ j).cur = s.cur ∧ (s.readsJ j).n = s.n
  | 0 => ⟨rfl, rfl⟩
  | j + 1 => ⟨(show (s.readsJ j).reads.cur = _ from (s.readsJ_cur j).1), (s.readsJ_cur j).2⟩
def readS (N : Int) (cur : Nat → List Int) : SL := if (bestJ N cur 2).c < 0 then noSL else bestJ N cur 2
def readE (N : Int) (cur : Nat → List Int) : Int := if (bestJ N cur 2).c < 0 then 180 else 0
set_option maxRecDepth 100000 in
theorem built27m : Tryd.prog.built 27 [(2, .int .i64 (-1))] = some startSL.V.toArray := by kernel_rfl
theorem ReadsB.own {w0 : World} {L : List Th} {A : Option Addr} {n c : Nat} {b : List Int} (hl : b.length = 512) : ReadsB w0 (ownT (Kd.int .u8) 5 (.slice A n c) b :: L) A b := fun W M hs h => by
  have := (hs.sep h).own_C.1
  rwa [hl] at this
theorem decE_or (b : List Int) : decE b = 0 ∨ decE b = 180 := by unfold decE; split <;> simp
set_option maxHeartbeats 8000000 in
set_option maxRecDepth 100000 in
theorem Sep.readSlot {w0 w : World} {L : List Th} {gd : Nat} {D : DS} (h : Sep w0 w (dkT gd D :: L)) (hH : Wr.Half w0) (h2 : 2 ≤ D.n) (hb : ∀ j, bytes_ (D.cur j)) (hl : ∀ j, j < 2 → (D.cur j).length = 512) :
    Calls Tryd.prog 28 #[.pointer (some ⟨gd, 0, none⟩)] w fun e w' => e = .returned (.tuple #[.agg (readS D.n D.cur).V.toArray, .int .i64 (readE D.n D.cur)]) ∧ Sep w0 w' (dkT gd (D.readsJ 2) :: L) := by
  have HS0 := Aside0.mk h
  have HRD := Aside0.mk (fun W (M : List Th) j (hj : j < 2) (h : Sep w0 W (dkT gd (D.readsJ j) :: M)) => (show Calls Tryd.prog 52 #[.pointer (some ⟨gd, 0, none⟩), .int .i64 (j : Int)] W (fun e w' => ∃ A c, e = .returned (.tuple #[.slice A 512 c, .int .i64 0]) ∧ 512 ≤ c ∧ Sep w0 w' (ownT (Kd.int .u8) 5 (.slice A 512 c) (D.cur j) :: dkT gd (D.readsJ (j + 1)) :: M)) from by
    refine (Sep.read h j (by rw [(D.readsJ_cur j).2]; omega)).mono ?_
    rintro e w' ⟨v, rfl, h3⟩
    rw [(D.readsJ_cur j).1] at h3
    obtain ⟨A, c, rfl⟩ := h3.own_slice
    rw [hl j hj] at h3 ⊢
    have h4 := h3.own_C
    rw [hl j hj] at h4
    exact ⟨A, c, rfl, h4.2, h3⟩))
  have HDC := Aside0.mk (fun W (M : List Th) A c j (hj : j < 2) (hc : 512 ≤ c) (h : Sep w0 W (ownT (Kd.int .u8) 5 (.slice A 512 c) (D.cur j) :: M)) => Sep.decode h hH (ReadsB.own (hl j hj)) (hb j) (hl j hj) hc)
  have HSC := Aside0.mk (fun W (M : List Th) j (h : Sep w0 W (dkT gd (D.readsJ j) :: M)) => (show Calls Tryd.prog 47 #[.pointer (some ⟨gd, 0, none⟩)] W (fun e w' => e = .returned (.int .i64 (D.n : Int)) ∧ w' = W) from by have h3 := Sep.sectors h; rwa [(D.readsJ_cur j).2] at h3))
  have HOK := Aside0.mk (bestJ_ok (N := (D.n : Int)) hb)
  have HDO := Aside0.mk (fun j => decS_ok (hb j))
  have hz := (zero_of_info (P := Tryd.prog) (t := 27) (v := .agg noSL.V.toArray) (n := 105) (by kernel_rfl)).1
  have HBZ := Aside0.mk (show Tryd.prog.built 27 [] = some noSL.V.toArray from built27z)
  have HBM := Aside0.mk built27m
  have HSZ := Aside0.mk (fun s (hs : SL.Ok s) => (show (Tryd.prog.info? 27).map (·.size) = some s.V.toArray.size from size27 (by simpa using SL.V_len hs)))
  have HSQ := Aside0.mk (fun s (hs : SL.Ok s) => (show s.V.toArray.size = 105 from by simpa using SL.V_len hs))
  clear h hH h2 hb hl
  generalize hZ : noSL.V.toArray = Z at hz HBZ
  have HZ := Aside0.mk hZ
  have HZS := Aside0.mk (show Z.size = 105 from by rw [← hZ]; exact HSQ.out _ noSL_ok)
  clear hZ
  generalize hM : startSL.V.toArray = Zm at HBM
  have HZM := Aside0.mk hM
  have HMS := Aside0.mk (show (Tryd.prog.info? 27).map (·.size) = some Zm.size from by rw [← hM]; exact HSZ.out _ startSL_ok)
  have HMQ := Aside0.mk (show Z.size = Zm.size from by rw [HZS.out, ← hM, HSQ.out _ startSL_ok])
  have HMA := Aside0.mk (show Zm.all (·.oneCell') = true from by rw [← hM]; exact SL.V_all _)
  clear hM
  generalize hN : (D.n : Int) = N at HSC HOK ⊢
  clear hN
  generalize hcu : D.cur = cur at HRD HDC HOK HDO ⊢
  clear hcu
  go_enter Tryd.func28, Tryd.ntmps28
  go_upto_region 1 with (fail)
  have HS1 := Aside0.mk (HS0.out.push_alloc Z 27)
  generalize w.alloc (.cells Z 27) = w1 at HS1 ⊢
  generalize w.heap.size = gr at HS1 ⊢
  clear HS0
  go_upto_region 4 with (first
    | ((with_reducible refine gate_build (ty := 27) rfl ?_); refine wpList_buildTo rfl 27 _ rfl (some 13) rfl Zm ?aB ?_; (case aB => (simp only [List.map_toArray, List.map_cons, List.map_nil]; exact HBM.out)))
    | ((with_reducible refine gate_store (ty := 27) rfl ?_); refine Sep.store_own rfl 27 _ _ rfl rfl rfl (HS1.out.push_alloc Z 27) HMS.out HMQ.out HMA.out ?_; intro w2 h2; have HS2 := Aside0.mk (show Sep w0 w2 (cellsT w1.heap.size (bestJ N cur 0).V.toArray 27 :: dkT gd (D.readsJ 0) :: cellsT gr Z 27 :: L) from by have h3 := h2.sw12; rw [← HZM.out] at h3; exact h3); clear h2))
  generalize w1.heap.size = gb at HS2 ⊢
  clear HS1
  go_wp2
  go_loopg [14] 2 (fun kq v14 wr => ∃ j : Nat, v14 = .int .i64 j ∧ Aside0 (j + kq = 2) ∧ Aside0 (Sep w0 wr (cellsT gb (bestJ N cur j).V.toArray 27 :: dkT gd (D.readsJ j) :: cellsT gr Z 27 :: L)))
  case atStart => exact ⟨0, rfl, ⟨rfl⟩, HS2⟩
  case round =>
    obtain ⟨j, rfl, HJ, hS⟩ := hrel
    clear HS2
    by_cases hj : j < 2
    · have HPK := Aside0.mk (show bestJ N cur (j + 1) = pickS N (j : Int) (bestJ N cur j) (decS (cur j)) (decE (cur j)) from rfl)
      have HO1 := Aside0.mk (HOK.out j)
      have HO2 := Aside0.mk (HDO.out j)
      have HDC1 := Aside0.mk (fun W M A c hc h => HDC.out W M A c j hj hc h)
      have HDE := Aside0.mk (decE_or (cur j))
      generalize hbj : bestJ N cur j = bj at HPK HO1 hS
      clear hbj
      generalize hsj : decS (cur j) = sj at HPK HO2 HDC1
      clear hsj
      generalize hej : decE (cur j) = ej at HPK HDC1 HDE
      clear hej
      have HE0 := Aside0.mk (show sj.V.toArray[0]? = some (.int .i64 sj.a) from by simpa using sj.V0)
      have HE2 := Aside0.mk (show sj.V.toArray[2]? = some (.int .i64 sj.c) from by simpa using sj.V2)
      have HB2 := Aside0.mk (show bj.V.toArray[2]? = some (.int .i64 bj.c) from by simpa using bj.V2)
      go_upto_region 9 with (first
        | (go_at_call 52; (with_reducible refine (HRD.out _ _ j hj hS.out.up1).mono ?_); rintro e w3 ⟨A, c, rfl, hc, h3⟩; have HS3 := Aside0.mk h3; clear h3)
        | (go_at_call 32; (with_reducible refine (HDC1.out _ _ _ _ hc HS3.out).mono ?_); rintro e w4 ⟨rfl, h4⟩; have HS4 := Aside0.mk h4.drop; clear h4 HS3)
        | ((with_reducible refine gate_store (ty := 27) rfl ?_); refine Sep.store_own rfl 27 _ _ rfl rfl rfl (HS4.out.push_alloc Z 27) (HSZ.out _ HO2.out) ?aS (SL.V_all _) ?_; (case aS => rw [HZS.out, HSQ.out _ HO2.out]); intro w5 h5; have HS5 := Aside0.mk h5; clear h5))
      generalize w4.heap.size = gs at HS5 ⊢
      clear HS4 hS
      have HSy := Aside0.mk (HS5.out.step (below_drew1 (Below.refl w5.heap.size w5)))
      clear HS5
      have HLD := Aside0.mk (fun W (M : List Th) (h : Sep w0 W (cellsT gs sj.V.toArray 27 :: M)) => (show ∀ j v, sj.V.toArray.toList[j]? = some v → W.cell? ((⟨gs, 0, none⟩ : Addr).add j) = some v from fun j v hv => seg_at h.cells.1 0 sj.V (by rw [List.drop_zero]; exact List.take_of_length_le (Nat.le_refl _)) j v (by simpa using hv)))
      rcases HDE.out with h0 | h0
      · have hz0 : ej = 0 := h0
        subst hz0
        by_cases ha : sj.a = N
        · by_cases hp : sj.c.tmod 2 = (j : Int)
          · have hpb : (sj.c.tmod 2 == (j : Int)) = true := by simpa using hp
            by_cases ht : bj.c < sj.c
            · refine start_ (n := 23) (S := fun W => W.cell? ⟨gs, 0, none⟩ = some (.int .i64 sj.a) ∧ W.cell? ⟨gs, 2, none⟩ = some (.int .i64 sj.c) ∧ W.cell? ⟨gb, 2, none⟩ = some (.int .i64 bj.c)) (ds := []) (bb 23 0) (by kernel_rfl) rfl rfl (⟨blk_cell HSy.out.cells.1 0 |>.trans HE0.out, blk_cell HSy.out.cells.1 2 |>.trans HE2.out, blk_cell HSy.out.up2.cells.1 2 |>.trans HB2.out⟩) (fun hHeld => ?_); refine with_tabW rdd_tab rdd_bits (fun HT_ HW_ => ?_)
              generalize w5.drew = wd at hHeld HSy ⊢
              refine pure_ (i := 0) (N := (some 28)) (v := ?_) (a' := ?_) (bb 23 1) rfl rfl (any_of HT_.out (by kernel_rfl)) (fun _ _ _ h => h) (Or.inl ⟨by rfl, ?_⟩) ?_ ?_
              rotate_left
              · intro w'
                go_simp
                with_reducible rfl
              rotate_left
              · simp only [Act.put, List.setIfInBounds_toArray, List.set_cons_zero, List.set_cons_succ, i64_w, i32_w]
                rfl
              refine pure_ (i := 1) (N := (some 29)) (v := ?_) (a' := ?_) (bb 23 3) rfl rfl (any_of HT_.out (by kernel_rfl)) (fun _ _ _ h => h) (Or.inl ⟨by rfl, ?_⟩) ?_ ?_
              rotate_left
              · intro w'
                go_simp
                with_reducible rfl
              rotate_left
              · simp only [Act.put, List.setIfInBounds_toArray, List.set_cons_zero, List.set_cons_succ, i64_w, i32_w]
                rfl
              refine pure_ (i := 2) (N := (some 30)) (v := ?_) (a' := ?_) (bb 23 7) rfl rfl (any_of HT_.out (by kernel_rfl)) (fun _ _ _ h => h) (Or.inl ⟨by rfl, ?_⟩) ?_ ?_
              rotate_left
              · intro w'
                go_simp
                with_reducible rfl
              rotate_left
              · simp only [Act.put, List.setIfInBounds_toArray, List.set_cons_zero, List.set_cons_succ, i64_w, i32_w]
                rfl
              refine pure_ (i := 3) (N := (some 31)) (v := ?_) (a' := ?_) (bb 23 15) rfl rfl (any_of HT_.out (by kernel_rfl)) (fun _ _ _ h => h) (Or.inl ⟨by rfl, ?_⟩) ?_ ?_
              rotate_left
              · intro w'
                go_simp
                with_reducible rfl
              rotate_left
              · simp only [Act.put, List.setIfInBounds_toArray, List.set_cons_zero, List.set_cons_succ, i64_w, i32_w]
                rfl
              refine take_ (i := 4) (N := (some 32)) (v := ?_) (a' := ?_) (bb 23 31) rfl rfl (take_ofW HT_.out HW_.out (by kernel_rfl)) (fun _ _ _ h => h) (Or.inl ⟨by rfl, ?_⟩) hHeld ?_ ?_
              rotate_left
              · intro w' s0
                (try dsimp only at s0)
                go_simp
                with_reducible rfl
              rotate_left
              · simp only [Act.put, List.setIfInBounds_toArray, List.set_cons_zero, List.set_cons_succ, i64_w, i32_w]
                rfl
              refine pure_ (i := 5) (N := (some 33)) (v := ?_) (a' := ?_) (bb 23 63) rfl rfl (any_of HT_.out (by kernel_rfl)) (fun _ _ _ h => h) (Or.inl ⟨by rfl, ?_⟩) ?_ ?_
              rotate_left
              · intro w'
                go_simp
                with_reducible rfl
              rotate_left
              · simp only [Act.put, List.setIfInBounds_toArray, List.set_cons_zero, List.set_cons_succ, i64_w, i32_w]
                rfl
              refine one_ (i := 6) (N := (some 34)) (bb 23 127) rfl rfl (one_of HT_.out (by kernel_rfl)) (by decide) (fun K hK => ?_)
              refine goes_ Tryd.func47 (by kernel_rfl) rfl #[.pointer (some ⟨gd, 0, none⟩)] (by rfl) rfl rfl (by (try simp only [List.map_toArray, List.map_cons, List.map_nil]); first | done | rfl) ?_
              refine (HSC.out _ _ _ HSy.out.up1).mono ?_
              rintro e w6 ⟨rfl, rfl⟩
              refine ⟨_, rfl, ?_⟩
              refine hK.out _ _ (⟨blk_cell HSy.out.cells.1 0 |>.trans HE0.out, blk_cell HSy.out.cells.1 2 |>.trans HE2.out, blk_cell HSy.out.up2.cells.1 2 |>.trans HB2.out⟩) (fun hHeld => ?_)
              clear hK K
              refine norm_ (a' := ?_) ?_ ?_
              rotate_left
              · show Act.put _ (some 34) _ = _
                simp only [Act.put, List.setIfInBounds_toArray, List.set_cons_zero, List.set_cons_succ, i64_w, i32_w]
                rfl
              refine pure_ (i := 7) (N := (some 35)) (v := ?_) (a' := ?_) (bb 23 255) rfl rfl (any_of HT_.out (by kernel_rfl)) (fun _ _ _ h => h) (Or.inl ⟨by rfl, ?_⟩) ?_ ?_
              rotate_left
              · intro w'
                go_simp
                with_reducible rfl
              rotate_left
              · simp only [Act.put, List.setIfInBounds_toArray, List.set_cons_zero, List.set_cons_succ, i64_w, i32_w]
                rfl
              refine pure_ (i := 8) (N := (some 36)) (v := ?_) (a' := ?_) (bb 23 511) rfl rfl (any_of HT_.out (by kernel_rfl)) (fun _ _ _ h => h) (Or.inl ⟨by rfl, ?_⟩) ?_ ?_
              rotate_left
              · intro w'
                go_simp
                with_reducible rfl
              rotate_left
              · simp only [Act.put, List.setIfInBounds_toArray, List.set_cons_zero, List.set_cons_succ, i64_w, i32_w]
                rfl
              refine pure_ (i := 9) (N := (some 37)) (v := ?_) (a' := ?_) (bb 23 1023) rfl rfl (any_of HT_.out (by kernel_rfl)) (fun _ _ _ h => h) (Or.inl ⟨by rfl, ?_⟩) ?_ ?_
              rotate_left
              · intro w'
                go_simp
                with_reducible rfl
              rotate_left
              · simp only [Act.put, List.setIfInBounds_toArray, List.set_cons_zero, List.set_cons_succ, i64_w, i32_w]
                rfl
              refine pure_ (i := 10) (N := (some 38)) (v := ?_) (a' := ?_) (bb 23 2047) rfl rfl (any_of HT_.out (by kernel_rfl)) (fun _ _ _ h => h) (Or.inl ⟨by rfl, ?_⟩) ?_ ?_
              rotate_left
              · intro w'
                go_simp
                with_reducible rfl
              rotate_left
              · simp only [Act.put, List.setIfInBounds_toArray, List.set_cons_zero, List.set_cons_succ, i64_w, i32_w]
                rfl
              refine take_ (i := 11) (N := (some 39)) (v := ?_) (a' := ?_) (bb 23 4095) rfl rfl (take_ofW HT_.out HW_.out (by kernel_rfl)) (fun _ _ _ h => h) (Or.inl ⟨by rfl, ?_⟩) hHeld ?_ ?_
              rotate_left
              · intro w' s0
                (try dsimp only at s0)
                go_simp
                with_reducible rfl
              rotate_left
              · simp only [Act.put, List.setIfInBounds_toArray, List.set_cons_zero, List.set_cons_succ, i64_w, i32_w]
                rfl
              refine pure_ (i := 12) (N := (some 40)) (v := ?_) (a' := ?_) (bb 23 8191) rfl rfl (any_of HT_.out (by kernel_rfl)) (fun _ _ _ h => h) (Or.inl ⟨by rfl, ?_⟩) ?_ ?_
              rotate_left
              · intro w'
                go_simp
                with_reducible rfl
              rotate_left
              · simp only [Act.put, List.setIfInBounds_toArray, List.set_cons_zero, List.set_cons_succ, i64_w, i32_w]
                rfl
              refine pure_ (i := 13) (N := (some 41)) (v := ?_) (a' := ?_) (bb 23 16383) rfl rfl (any_of HT_.out (by kernel_rfl)) (fun _ _ _ h => h) (Or.inl ⟨by rfl, ?_⟩) ?_ ?_
              rotate_left
              · intro w'
                go_simp
                with_reducible rfl
              rotate_left
              · simp only [Act.put, List.setIfInBounds_toArray, List.set_cons_zero, List.set_cons_succ, i64_w, i32_w]
                rfl
              refine pure_ (i := 14) (N := (some 42)) (v := ?_) (a' := ?_) (bb 23 32767) rfl rfl (any_of HT_.out (by kernel_rfl)) (fun _ _ _ h => h) (Or.inl ⟨by rfl, ?_⟩) ?_ ?_
              rotate_left
              · intro w'
                go_simp
                with_reducible rfl
              rotate_left
              · simp only [Act.put, List.setIfInBounds_toArray, List.set_cons_zero, List.set_cons_succ, i64_w, i32_w]
                rfl
              refine pure_ (i := 15) (N := (some 43)) (v := ?_) (a' := ?_) (bb 23 65535) rfl rfl (any_of HT_.out (by kernel_rfl)) (fun _ _ _ h => h) (Or.inl ⟨by rfl, ?_⟩) ?_ ?_
              rotate_left
              · intro w'
                go_simp
                with_reducible rfl
              rotate_left
              · simp only [Act.put, List.setIfInBounds_toArray, List.set_cons_zero, List.set_cons_succ, i64_w, i32_w]
                rfl
              refine pure_ (i := 16) (N := (some 44)) (v := ?_) (a' := ?_) (bb 23 131071) rfl rfl (any_of HT_.out (by kernel_rfl)) (fun _ _ _ h => h) (Or.inl ⟨by rfl, ?_⟩) ?_ ?_
              rotate_left
              · intro w'
                go_simp
                with_reducible rfl
              rotate_left
              · simp only [Act.put, List.setIfInBounds_toArray, List.set_cons_zero, List.set_cons_succ, i64_w, i32_w]
                rfl
              refine pure_ (i := 17) (N := (some 45)) (v := ?_) (a' := ?_) (bb 23 262143) rfl rfl (any_of HT_.out (by kernel_rfl)) (fun _ _ _ h => h) (Or.inl ⟨by rfl, ?_⟩) ?_ ?_
              rotate_left
              · intro w'
                go_simp
                with_reducible rfl
              rotate_left
              · simp only [Act.put, List.setIfInBounds_toArray, List.set_cons_zero, List.set_cons_succ, i64_w, i32_w]
                rfl
              refine take_ (i := 18) (N := (some 46)) (v := ?_) (a' := ?_) (bb 23 524287) rfl rfl (take_ofW HT_.out HW_.out (by kernel_rfl)) (fun _ _ _ h => h) (Or.inl ⟨by rfl, ?_⟩) hHeld ?_ ?_
              rotate_left
              · intro w' s0
                (try dsimp only at s0)
                go_simp
                with_reducible rfl
              rotate_left
              · simp only [Act.put, List.setIfInBounds_toArray, List.set_cons_zero, List.set_cons_succ, i64_w, i32_w]
                rfl
              refine pure_ (i := 19) (N := (some 47)) (v := ?_) (a' := ?_) (bb 23 1048575) rfl rfl (any_of HT_.out (by kernel_rfl)) (fun _ _ _ h => h) (Or.inl ⟨by rfl, ?_⟩) ?_ ?_
              rotate_left
              · intro w'
                go_simp
                with_reducible rfl
              rotate_left
              · simp only [Act.put, List.setIfInBounds_toArray, List.set_cons_zero, List.set_cons_succ, i64_w, i32_w]
                rfl
              refine take_ (i := 20) (N := (some 48)) (v := ?_) (a' := ?_) (bb 23 2097151) rfl rfl (take_ofW HT_.out HW_.out (by kernel_rfl)) (fun _ _ _ h => h) (Or.inl ⟨by rfl, ?_⟩) hHeld ?_ ?_
              rotate_left
              · intro w' s0
                (try dsimp only at s0)
                go_simp
                with_reducible rfl
              rotate_left
              · simp only [Act.put, List.setIfInBounds_toArray, List.set_cons_zero, List.set_cons_succ, i64_w, i32_w]
                rfl
              refine pure_ (i := 21) (N := (some 49)) (v := ?_) (a' := ?_) (bb 23 4194303) rfl rfl (any_of HT_.out (by kernel_rfl)) (fun _ _ _ h => h) (Or.inl ⟨by rfl, ?_⟩) ?_ ?_
              rotate_left
              · intro w'
                go_simp
                with_reducible rfl
              rotate_left
              · simp only [Act.put, List.setIfInBounds_toArray, List.set_cons_zero, List.set_cons_succ, i64_w, i32_w]
                rfl
              refine pure_ (i := 22) (N := (some 50)) (v := ?_) (a' := ?_) (bb 23 8388607) rfl rfl (any_of HT_.out (by kernel_rfl)) (fun _ _ _ h => h) (Or.inl ⟨by rfl, ?_⟩) ?_ ?_
              rotate_left
              · intro w'
                go_simp
                with_reducible rfl
              rotate_left
              · simp only [Act.put, List.setIfInBounds_toArray, List.set_cons_zero, List.set_cons_succ, i64_w, i32_w]
                rfl
              refine done_ (done_of HT_.out (by kernel_rfl)) ?_
              clear hHeld HT_ HW_
              go_wp2_with (first
                | ((with_reducible refine gate_load (ty := 27) rfl ?_); refine wpList_ldw ?_ 27 _ rfl ⟨gs, 0, none⟩ ?_ sj.V.toArray _ (HLD.out _ _ HSy.out) Tryd.underlying27 rfl (HSZ.out _ HO2.out) ?_; exact rfl; exact rfl; skip)
                | ((with_reducible refine gate_store (ty := 27) rfl ?_); refine Sep.store_own rfl 27 _ _ rfl rfl rfl HSy.out.up2 (HSZ.out _ HO2.out) ?aS (SL.V_all _) ?_; (case aS => rw [HSQ.out _ HO1.out, HSQ.out _ HO2.out]); intro w7 h7; have HS7 := Aside0.mk h7; clear h7))
              go_roundg (gk - 1)
              case measure => have := HJ.out; omega
              case rel => exact ⟨j + 1, by simp, ⟨by have := HJ.out; omega⟩, ⟨by rw [HPK.out]; unfold pickS; rw [if_pos ⟨rfl, ha, hp, ht⟩]; exact HS7.out.up1.drop⟩⟩
            · refine start_ (n := 23) (S := fun W => W.cell? ⟨gs, 0, none⟩ = some (.int .i64 sj.a) ∧ W.cell? ⟨gs, 2, none⟩ = some (.int .i64 sj.c) ∧ W.cell? ⟨gb, 2, none⟩ = some (.int .i64 bj.c)) (ds := []) (bb 23 0) (by kernel_rfl) rfl rfl (⟨blk_cell HSy.out.cells.1 0 |>.trans HE0.out, blk_cell HSy.out.cells.1 2 |>.trans HE2.out, blk_cell HSy.out.up2.cells.1 2 |>.trans HB2.out⟩) (fun hHeld => ?_); refine with_tabW rdd_tab rdd_bits (fun HT_ HW_ => ?_)
              generalize w5.drew = wd at hHeld HSy ⊢
              refine pure_ (i := 0) (N := (some 28)) (v := ?_) (a' := ?_) (bb 23 1) rfl rfl (any_of HT_.out (by kernel_rfl)) (fun _ _ _ h => h) (Or.inl ⟨by rfl, ?_⟩) ?_ ?_
              rotate_left
              · intro w'
                go_simp
                with_reducible rfl
              rotate_left
              · simp only [Act.put, List.setIfInBounds_toArray, List.set_cons_zero, List.set_cons_succ, i64_w, i32_w]
                rfl
              refine pure_ (i := 1) (N := (some 29)) (v := ?_) (a' := ?_) (bb 23 3) rfl rfl (any_of HT_.out (by kernel_rfl)) (fun _ _ _ h => h) (Or.inl ⟨by rfl, ?_⟩) ?_ ?_
              rotate_left
              · intro w'
                go_simp
                with_reducible rfl
              rotate_left
              · simp only [Act.put, List.setIfInBounds_toArray, List.set_cons_zero, List.set_cons_succ, i64_w, i32_w]
                rfl
              refine pure_ (i := 2) (N := (some 30)) (v := ?_) (a' := ?_) (bb 23 7) rfl rfl (any_of HT_.out (by kernel_rfl)) (fun _ _ _ h => h) (Or.inl ⟨by rfl, ?_⟩) ?_ ?_
              rotate_left
              · intro w'
                go_simp
                with_reducible rfl
              rotate_left
              · simp only [Act.put, List.setIfInBounds_toArray, List.set_cons_zero, List.set_cons_succ, i64_w, i32_w]
                rfl
              refine pure_ (i := 3) (N := (some 31)) (v := ?_) (a' := ?_) (bb 23 15) rfl rfl (any_of HT_.out (by kernel_rfl)) (fun _ _ _ h => h) (Or.inl ⟨by rfl, ?_⟩) ?_ ?_
              rotate_left
              · intro w'
                go_simp
                with_reducible rfl
              rotate_left
              · simp only [Act.put, List.setIfInBounds_toArray, List.set_cons_zero, List.set_cons_succ, i64_w, i32_w]
                rfl
              refine take_ (i := 4) (N := (some 32)) (v := ?_) (a' := ?_) (bb 23 31) rfl rfl (take_ofW HT_.out HW_.out (by kernel_rfl)) (fun _ _ _ h => h) (Or.inl ⟨by rfl, ?_⟩) hHeld ?_ ?_
              rotate_left
              · intro w' s0
                (try dsimp only at s0)
                go_simp
                with_reducible rfl
              rotate_left
              · simp only [Act.put, List.setIfInBounds_toArray, List.set_cons_zero, List.set_cons_succ, i64_w, i32_w]
                rfl
              refine pure_ (i := 5) (N := (some 33)) (v := ?_) (a' := ?_) (bb 23 63) rfl rfl (any_of HT_.out (by kernel_rfl)) (fun _ _ _ h => h) (Or.inl ⟨by rfl, ?_⟩) ?_ ?_
              rotate_left
              · intro w'
                go_simp
                with_reducible rfl
              rotate_left
              · simp only [Act.put, List.setIfInBounds_toArray, List.set_cons_zero, List.set_cons_succ, i64_w, i32_w]
                rfl
              refine one_ (i := 6) (N := (some 34)) (bb 23 127) rfl rfl (one_of HT_.out (by kernel_rfl)) (by decide) (fun K hK => ?_)
              refine goes_ Tryd.func47 (by kernel_rfl) rfl #[.pointer (some ⟨gd, 0, none⟩)] (by rfl) rfl rfl (by (try simp only [List.map_toArray, List.map_cons, List.map_nil]); first | done | rfl) ?_
              refine (HSC.out _ _ _ HSy.out.up1).mono ?_
              rintro e w6 ⟨rfl, rfl⟩
              refine ⟨_, rfl, ?_⟩
              refine hK.out _ _ (⟨blk_cell HSy.out.cells.1 0 |>.trans HE0.out, blk_cell HSy.out.cells.1 2 |>.trans HE2.out, blk_cell HSy.out.up2.cells.1 2 |>.trans HB2.out⟩) (fun hHeld => ?_)
              clear hK K
              refine norm_ (a' := ?_) ?_ ?_
              rotate_left
              · show Act.put _ (some 34) _ = _
                simp only [Act.put, List.setIfInBounds_toArray, List.set_cons_zero, List.set_cons_succ, i64_w, i32_w]
                rfl
              refine pure_ (i := 7) (N := (some 35)) (v := ?_) (a' := ?_) (bb 23 255) rfl rfl (any_of HT_.out (by kernel_rfl)) (fun _ _ _ h => h) (Or.inl ⟨by rfl, ?_⟩) ?_ ?_
              rotate_left
              · intro w'
                go_simp
                with_reducible rfl
              rotate_left
              · simp only [Act.put, List.setIfInBounds_toArray, List.set_cons_zero, List.set_cons_succ, i64_w, i32_w]
                rfl
              refine pure_ (i := 8) (N := (some 36)) (v := ?_) (a' := ?_) (bb 23 511) rfl rfl (any_of HT_.out (by kernel_rfl)) (fun _ _ _ h => h) (Or.inl ⟨by rfl, ?_⟩) ?_ ?_
              rotate_left
              · intro w'
                go_simp
                with_reducible rfl
              rotate_left
              · simp only [Act.put, List.setIfInBounds_toArray, List.set_cons_zero, List.set_cons_succ, i64_w, i32_w]
                rfl
              refine pure_ (i := 9) (N := (some 37)) (v := ?_) (a' := ?_) (bb 23 1023) rfl rfl (any_of HT_.out (by kernel_rfl)) (fun _ _ _ h => h) (Or.inl ⟨by rfl, ?_⟩) ?_ ?_
              rotate_left
              · intro w'
                go_simp
                with_reducible rfl
              rotate_left
              · simp only [Act.put, List.setIfInBounds_toArray, List.set_cons_zero, List.set_cons_succ, i64_w, i32_w]
                rfl
              refine pure_ (i := 10) (N := (some 38)) (v := ?_) (a' := ?_) (bb 23 2047) rfl rfl (any_of HT_.out (by kernel_rfl)) (fun _ _ _ h => h) (Or.inl ⟨by rfl, ?_⟩) ?_ ?_
              rotate_left
              · intro w'
                go_simp
                with_reducible rfl
              rotate_left
              · simp only [Act.put, List.setIfInBounds_toArray, List.set_cons_zero, List.set_cons_succ, i64_w, i32_w]
                rfl
              refine take_ (i := 11) (N := (some 39)) (v := ?_) (a' := ?_) (bb 23 4095) rfl rfl (take_ofW HT_.out HW_.out (by kernel_rfl)) (fun _ _ _ h => h) (Or.inl ⟨by rfl, ?_⟩) hHeld ?_ ?_
              rotate_left
              · intro w' s0
                (try dsimp only at s0)
                go_simp
                with_reducible rfl
              rotate_left
              · simp only [Act.put, List.setIfInBounds_toArray, List.set_cons_zero, List.set_cons_succ, i64_w, i32_w]
                rfl
              refine pure_ (i := 12) (N := (some 40)) (v := ?_) (a' := ?_) (bb 23 8191) rfl rfl (any_of HT_.out (by kernel_rfl)) (fun _ _ _ h => h) (Or.inl ⟨by rfl, ?_⟩) ?_ ?_
              rotate_left
              · intro w'
                go_simp
                with_reducible rfl
              rotate_left
              · simp only [Act.put, List.setIfInBounds_toArray, List.set_cons_zero, List.set_cons_succ, i64_w, i32_w]
                rfl
              refine pure_ (i := 13) (N := (some 41)) (v := ?_) (a' := ?_) (bb 23 16383) rfl rfl (any_of HT_.out (by kernel_rfl)) (fun _ _ _ h => h) (Or.inl ⟨by rfl, ?_⟩) ?_ ?_
              rotate_left
              · intro w'
                go_simp
                with_reducible rfl
              rotate_left
              · simp only [Act.put, List.setIfInBounds_toArray, List.set_cons_zero, List.set_cons_succ, i64_w, i32_w]
                rfl
              refine pure_ (i := 14) (N := (some 42)) (v := ?_) (a' := ?_) (bb 23 32767) rfl rfl (any_of HT_.out (by kernel_rfl)) (fun _ _ _ h => h) (Or.inl ⟨by rfl, ?_⟩) ?_ ?_
              rotate_left
              · intro w'
                go_simp
                with_reducible rfl
              rotate_left
              · simp only [Act.put, List.setIfInBounds_toArray, List.set_cons_zero, List.set_cons_succ, i64_w, i32_w]
                rfl
              refine pure_ (i := 15) (N := (some 43)) (v := ?_) (a' := ?_) (bb 23 65535) rfl rfl (any_of HT_.out (by kernel_rfl)) (fun _ _ _ h => h) (Or.inl ⟨by rfl, ?_⟩) ?_ ?_
              rotate_left
              · intro w'
                go_simp
                with_reducible rfl
              rotate_left
              · simp only [Act.put, List.setIfInBounds_toArray, List.set_cons_zero, List.set_cons_succ, i64_w, i32_w]
                rfl
              refine pure_ (i := 16) (N := (some 44)) (v := ?_) (a' := ?_) (bb 23 131071) rfl rfl (any_of HT_.out (by kernel_rfl)) (fun _ _ _ h => h) (Or.inl ⟨by rfl, ?_⟩) ?_ ?_
              rotate_left
              · intro w'
                go_simp
                with_reducible rfl
              rotate_left
              · simp only [Act.put, List.setIfInBounds_toArray, List.set_cons_zero, List.set_cons_succ, i64_w, i32_w]
                rfl
              refine pure_ (i := 17) (N := (some 45)) (v := ?_) (a' := ?_) (bb 23 262143) rfl rfl (any_of HT_.out (by kernel_rfl)) (fun _ _ _ h => h) (Or.inl ⟨by rfl, ?_⟩) ?_ ?_
              rotate_left
              · intro w'
                go_simp
                with_reducible rfl
              rotate_left
              · simp only [Act.put, List.setIfInBounds_toArray, List.set_cons_zero, List.set_cons_succ, i64_w, i32_w]
                rfl
              refine take_ (i := 18) (N := (some 46)) (v := ?_) (a' := ?_) (bb 23 524287) rfl rfl (take_ofW HT_.out HW_.out (by kernel_rfl)) (fun _ _ _ h => h) (Or.inl ⟨by rfl, ?_⟩) hHeld ?_ ?_
              rotate_left
              · intro w' s0
                (try dsimp only at s0)
                go_simp
                with_reducible rfl
              rotate_left
              · simp only [Act.put, List.setIfInBounds_toArray, List.set_cons_zero, List.set_cons_succ, i64_w, i32_w]
                rfl
              refine pure_ (i := 19) (N := (some 47)) (v := ?_) (a' := ?_) (bb 23 1048575) rfl rfl (any_of HT_.out (by kernel_rfl)) (fun _ _ _ h => h) (Or.inl ⟨by rfl, ?_⟩) ?_ ?_
              rotate_left
              · intro w'
                go_simp
                with_reducible rfl
              rotate_left
              · simp only [Act.put, List.setIfInBounds_toArray, List.set_cons_zero, List.set_cons_succ, i64_w, i32_w]
                rfl
              refine take_ (i := 20) (N := (some 48)) (v := ?_) (a' := ?_) (bb 23 2097151) rfl rfl (take_ofW HT_.out HW_.out (by kernel_rfl)) (fun _ _ _ h => h) (Or.inl ⟨by rfl, ?_⟩) hHeld ?_ ?_
              rotate_left
              · intro w' s0
                (try dsimp only at s0)
                go_simp
                with_reducible rfl
              rotate_left
              · simp only [Act.put, List.setIfInBounds_toArray, List.set_cons_zero, List.set_cons_succ, i64_w, i32_w]
                rfl
              refine pure_ (i := 21) (N := (some 49)) (v := ?_) (a' := ?_) (bb 23 4194303) rfl rfl (any_of HT_.out (by kernel_rfl)) (fun _ _ _ h => h) (Or.inl ⟨by rfl, ?_⟩) ?_ ?_
              rotate_left
              · intro w'
                go_simp
                with_reducible rfl
              rotate_left
              · simp only [Act.put, List.setIfInBounds_toArray, List.set_cons_zero, List.set_cons_succ, i64_w, i32_w]
                rfl
              refine pure_ (i := 22) (N := (some 50)) (v := ?_) (a' := ?_) (bb 23 8388607) rfl rfl (any_of HT_.out (by kernel_rfl)) (fun _ _ _ h => h) (Or.inl ⟨by rfl, ?_⟩) ?_ ?_
              rotate_left
              · intro w'
                go_simp
                with_reducible rfl
              rotate_left
              · simp only [Act.put, List.setIfInBounds_toArray, List.set_cons_zero, List.set_cons_succ, i64_w, i32_w]
                rfl
              refine done_ (done_of HT_.out (by kernel_rfl)) ?_
              clear hHeld HT_ HW_
              go_wp2
              go_roundg (gk - 1)
              case measure => have := HJ.out; omega
              case rel => exact ⟨j + 1, by simp, ⟨by have := HJ.out; omega⟩, ⟨by rw [HPK.out]; unfold pickS; rw [if_neg (by simp [ht])]; exact HSy.out.drop.up1⟩⟩
          · have hpb : (sj.c.tmod 2 == (j : Int)) = false := by simpa using hp
            refine start_ (n := 23) (S := fun W => W.cell? ⟨gs, 0, none⟩ = some (.int .i64 sj.a) ∧ W.cell? ⟨gs, 2, none⟩ = some (.int .i64 sj.c) ∧ W.cell? ⟨gb, 2, none⟩ = some (.int .i64 bj.c)) (ds := []) (bb 23 0) (by kernel_rfl) rfl rfl (⟨blk_cell HSy.out.cells.1 0 |>.trans HE0.out, blk_cell HSy.out.cells.1 2 |>.trans HE2.out, blk_cell HSy.out.up2.cells.1 2 |>.trans HB2.out⟩) (fun hHeld => ?_); refine with_tabW rdc_tab rdc_bits (fun HT_ HW_ => ?_)
            generalize w5.drew = wd at hHeld HSy ⊢
            refine pure_ (i := 0) (N := (some 28)) (v := ?_) (a' := ?_) (bb 23 1) rfl rfl (any_of HT_.out (by kernel_rfl)) (fun _ _ _ h => h) (Or.inl ⟨by rfl, ?_⟩) ?_ ?_
            rotate_left
            · intro w'
              go_simp
              with_reducible rfl
            rotate_left
            · simp only [Act.put, List.setIfInBounds_toArray, List.set_cons_zero, List.set_cons_succ, i64_w, i32_w]
              rfl
            refine pure_ (i := 1) (N := (some 29)) (v := ?_) (a' := ?_) (bb 23 3) rfl rfl (any_of HT_.out (by kernel_rfl)) (fun _ _ _ h => h) (Or.inl ⟨by rfl, ?_⟩) ?_ ?_
            rotate_left
            · intro w'
              go_simp
              with_reducible rfl
            rotate_left
            · simp only [Act.put, List.setIfInBounds_toArray, List.set_cons_zero, List.set_cons_succ, i64_w, i32_w]
              rfl
            refine pure_ (i := 2) (N := (some 30)) (v := ?_) (a' := ?_) (bb 23 7) rfl rfl (any_of HT_.out (by kernel_rfl)) (fun _ _ _ h => h) (Or.inl ⟨by rfl, ?_⟩) ?_ ?_
            rotate_left
            · intro w'
              go_simp
              with_reducible rfl
            rotate_left
            · simp only [Act.put, List.setIfInBounds_toArray, List.set_cons_zero, List.set_cons_succ, i64_w, i32_w]
              rfl
            refine pure_ (i := 3) (N := (some 31)) (v := ?_) (a' := ?_) (bb 23 15) rfl rfl (any_of HT_.out (by kernel_rfl)) (fun _ _ _ h => h) (Or.inl ⟨by rfl, ?_⟩) ?_ ?_
            rotate_left
            · intro w'
              go_simp
              with_reducible rfl
            rotate_left
            · simp only [Act.put, List.setIfInBounds_toArray, List.set_cons_zero, List.set_cons_succ, i64_w, i32_w]
              rfl
            refine take_ (i := 4) (N := (some 32)) (v := ?_) (a' := ?_) (bb 23 31) rfl rfl (take_ofW HT_.out HW_.out (by kernel_rfl)) (fun _ _ _ h => h) (Or.inl ⟨by rfl, ?_⟩) hHeld ?_ ?_
            rotate_left
            · intro w' s0
              (try dsimp only at s0)
              go_simp
              with_reducible rfl
            rotate_left
            · simp only [Act.put, List.setIfInBounds_toArray, List.set_cons_zero, List.set_cons_succ, i64_w, i32_w]
              rfl
            refine pure_ (i := 5) (N := (some 33)) (v := ?_) (a' := ?_) (bb 23 63) rfl rfl (any_of HT_.out (by kernel_rfl)) (fun _ _ _ h => h) (Or.inl ⟨by rfl, ?_⟩) ?_ ?_
            rotate_left
            · intro w'
              go_simp
              with_reducible rfl
            rotate_left
            · simp only [Act.put, List.setIfInBounds_toArray, List.set_cons_zero, List.set_cons_succ, i64_w, i32_w]
              rfl
            refine one_ (i := 6) (N := (some 34)) (bb 23 127) rfl rfl (one_of HT_.out (by kernel_rfl)) (by decide) (fun K hK => ?_)
            refine goes_ Tryd.func47 (by kernel_rfl) rfl #[.pointer (some ⟨gd, 0, none⟩)] (by rfl) rfl rfl (by (try simp only [List.map_toArray, List.map_cons, List.map_nil]); first | done | rfl) ?_
            refine (HSC.out _ _ _ HSy.out.up1).mono ?_
            rintro e w6 ⟨rfl, rfl⟩
            refine ⟨_, rfl, ?_⟩
            refine hK.out _ _ (⟨blk_cell HSy.out.cells.1 0 |>.trans HE0.out, blk_cell HSy.out.cells.1 2 |>.trans HE2.out, blk_cell HSy.out.up2.cells.1 2 |>.trans HB2.out⟩) (fun hHeld => ?_)
            clear hK K
            refine norm_ (a' := ?_) ?_ ?_
            rotate_left
            · show Act.put _ (some 34) _ = _
              simp only [Act.put, List.setIfInBounds_toArray, List.set_cons_zero, List.set_cons_succ, i64_w, i32_w]
              rfl
            refine pure_ (i := 7) (N := (some 35)) (v := ?_) (a' := ?_) (bb 23 255) rfl rfl (any_of HT_.out (by kernel_rfl)) (fun _ _ _ h => h) (Or.inl ⟨by rfl, ?_⟩) ?_ ?_
            rotate_left
            · intro w'
              go_simp
              with_reducible rfl
            rotate_left
            · simp only [Act.put, List.setIfInBounds_toArray, List.set_cons_zero, List.set_cons_succ, i64_w, i32_w]
              rfl
            refine pure_ (i := 8) (N := (some 36)) (v := ?_) (a' := ?_) (bb 23 511) rfl rfl (any_of HT_.out (by kernel_rfl)) (fun _ _ _ h => h) (Or.inl ⟨by rfl, ?_⟩) ?_ ?_
            rotate_left
            · intro w'
              go_simp
              with_reducible rfl
            rotate_left
            · simp only [Act.put, List.setIfInBounds_toArray, List.set_cons_zero, List.set_cons_succ, i64_w, i32_w]
              rfl
            refine pure_ (i := 9) (N := (some 37)) (v := ?_) (a' := ?_) (bb 23 1023) rfl rfl (any_of HT_.out (by kernel_rfl)) (fun _ _ _ h => h) (Or.inl ⟨by rfl, ?_⟩) ?_ ?_
            rotate_left
            · intro w'
              go_simp
              with_reducible rfl
            rotate_left
            · simp only [Act.put, List.setIfInBounds_toArray, List.set_cons_zero, List.set_cons_succ, i64_w, i32_w]
              rfl
            refine pure_ (i := 10) (N := (some 38)) (v := ?_) (a' := ?_) (bb 23 2047) rfl rfl (any_of HT_.out (by kernel_rfl)) (fun _ _ _ h => h) (Or.inl ⟨by rfl, ?_⟩) ?_ ?_
            rotate_left
            · intro w'
              go_simp
              with_reducible rfl
            rotate_left
            · simp only [Act.put, List.setIfInBounds_toArray, List.set_cons_zero, List.set_cons_succ, i64_w, i32_w]
              rfl
            refine take_ (i := 11) (N := (some 39)) (v := ?_) (a' := ?_) (bb 23 4095) rfl rfl (take_ofW HT_.out HW_.out (by kernel_rfl)) (fun _ _ _ h => h) (Or.inl ⟨by rfl, ?_⟩) hHeld ?_ ?_
            rotate_left
            · intro w' s0
              (try dsimp only at s0)
              go_simp
              with_reducible rfl
            rotate_left
            · simp only [Act.put, List.setIfInBounds_toArray, List.set_cons_zero, List.set_cons_succ, i64_w, i32_w]
              rfl
            refine pure_ (i := 12) (N := (some 40)) (v := ?_) (a' := ?_) (bb 23 8191) rfl rfl (any_of HT_.out (by kernel_rfl)) (fun _ _ _ h => h) (Or.inl ⟨by rfl, ?_⟩) ?_ ?_
            rotate_left
            · intro w'
              go_simp
              with_reducible rfl
            rotate_left
            · simp only [Act.put, List.setIfInBounds_toArray, List.set_cons_zero, List.set_cons_succ, i64_w, i32_w]
              rfl
            refine pure_ (i := 13) (N := (some 41)) (v := ?_) (a' := ?_) (bb 23 16383) rfl rfl (any_of HT_.out (by kernel_rfl)) (fun _ _ _ h => h) (Or.inl ⟨by rfl, ?_⟩) ?_ ?_
            rotate_left
            · intro w'
              go_simp
              with_reducible rfl
            rotate_left
            · simp only [Act.put, List.setIfInBounds_toArray, List.set_cons_zero, List.set_cons_succ, i64_w, i32_w]
              rfl
            refine pure_ (i := 14) (N := (some 42)) (v := ?_) (a' := ?_) (bb 23 32767) rfl rfl (any_of HT_.out (by kernel_rfl)) (fun _ _ _ h => h) (Or.inl ⟨by rfl, ?_⟩) ?_ ?_
            rotate_left
            · intro w'
              go_simp
              with_reducible rfl
            rotate_left
            · simp only [Act.put, List.setIfInBounds_toArray, List.set_cons_zero, List.set_cons_succ, i64_w, i32_w]
              rfl
            refine pure_ (i := 15) (N := (some 43)) (v := ?_) (a' := ?_) (bb 23 65535) rfl rfl (any_of HT_.out (by kernel_rfl)) (fun _ _ _ h => h) (Or.inl ⟨by rfl, ?_⟩) ?_ ?_
            rotate_left
            · intro w'
              go_simp
              with_reducible rfl
            rotate_left
            · simp only [Act.put, List.setIfInBounds_toArray, List.set_cons_zero, List.set_cons_succ, i64_w, i32_w]
              rfl
            refine pure_ (i := 16) (N := (some 44)) (v := ?_) (a' := ?_) (bb 23 131071) rfl rfl (any_of HT_.out (by kernel_rfl)) (fun _ _ _ h => h) (Or.inl ⟨by rfl, ?_⟩) ?_ ?_
            rotate_left
            · intro w'
              go_simp
              with_reducible rfl
            rotate_left
            · simp only [Act.put, List.setIfInBounds_toArray, List.set_cons_zero, List.set_cons_succ, i64_w, i32_w]
              rfl
            refine pure_ (i := 17) (N := (some 45)) (v := undef) (a' := ?_) (bb 23 262143) rfl rfl (any_of HT_.out (by kernel_rfl)) (fun _ _ _ h => h) (Or.inr ⟨by rfl, rfl⟩) ?_ ?_
            rotate_left
            · simp only [Act.put, List.setIfInBounds_toArray, List.set_cons_zero, List.set_cons_succ, i64_w, i32_w]
              rfl
            refine pure_ (i := 18) (N := (some 46)) (v := undef) (a' := ?_) (bb 23 524287) rfl rfl (any_of HT_.out (by kernel_rfl)) (fun _ _ _ h => h) (Or.inr ⟨by rfl, rfl⟩) ?_ ?_
            rotate_left
            · simp only [Act.put, List.setIfInBounds_toArray, List.set_cons_zero, List.set_cons_succ, i64_w, i32_w]
              rfl
            refine pure_ (i := 19) (N := (some 47)) (v := undef) (a' := ?_) (bb 23 1048575) rfl rfl (any_of HT_.out (by kernel_rfl)) (fun _ _ _ h => h) (Or.inr ⟨by rfl, rfl⟩) ?_ ?_
            rotate_left
            · simp only [Act.put, List.setIfInBounds_toArray, List.set_cons_zero, List.set_cons_succ, i64_w, i32_w]
              rfl
            refine pure_ (i := 20) (N := (some 48)) (v := undef) (a' := ?_) (bb 23 2097151) rfl rfl (any_of HT_.out (by kernel_rfl)) (fun _ _ _ h => h) (Or.inr ⟨by rfl, rfl⟩) ?_ ?_
            rotate_left
            · simp only [Act.put, List.setIfInBounds_toArray, List.set_cons_zero, List.set_cons_succ, i64_w, i32_w]
              rfl
            refine pure_ (i := 21) (N := (some 49)) (v := undef) (a' := ?_) (bb 23 4194303) rfl rfl (any_of HT_.out (by kernel_rfl)) (fun _ _ _ h => h) (Or.inr ⟨by rfl, rfl⟩) ?_ ?_
            rotate_left
            · simp only [Act.put, List.setIfInBounds_toArray, List.set_cons_zero, List.set_cons_succ, i64_w, i32_w]
              rfl
            refine pure_ (i := 22) (N := (some 50)) (v := ?_) (a' := ?_) (bb 23 8388607) rfl rfl (any_of HT_.out (by kernel_rfl)) (fun _ _ _ h => h) (Or.inl ⟨by rfl, ?_⟩) ?_ ?_
            rotate_left
            · intro w'
              go_simp
              with_reducible rfl
            rotate_left
            · simp only [Act.put, List.setIfInBounds_toArray, List.set_cons_zero, List.set_cons_succ, i64_w, i32_w]
              rfl
            refine done_ (done_of HT_.out (by kernel_rfl)) ?_
            clear hHeld HT_ HW_
            go_wp2
            go_roundg (gk - 1)
            case measure => have := HJ.out; omega
            case rel => exact ⟨j + 1, by simp, ⟨by have := HJ.out; omega⟩, ⟨by rw [HPK.out]; unfold pickS; rw [if_neg (by simp [hp])]; exact HSy.out.drop.up1⟩⟩
        · have hab : (sj.a == N) = false := by simpa using ha
          refine start_ (n := 23) (S := fun W => W.cell? ⟨gs, 0, none⟩ = some (.int .i64 sj.a) ∧ W.cell? ⟨gs, 2, none⟩ = some (.int .i64 sj.c) ∧ W.cell? ⟨gb, 2, none⟩ = some (.int .i64 bj.c)) (ds := []) (bb 23 0) (by kernel_rfl) rfl rfl (⟨blk_cell HSy.out.cells.1 0 |>.trans HE0.out, blk_cell HSy.out.cells.1 2 |>.trans HE2.out, blk_cell HSy.out.up2.cells.1 2 |>.trans HB2.out⟩) (fun hHeld => ?_); refine with_tabW rdb_tab rdb_bits (fun HT_ HW_ => ?_)
          generalize w5.drew = wd at hHeld HSy ⊢
          refine pure_ (i := 0) (N := (some 28)) (v := ?_) (a' := ?_) (bb 23 1) rfl rfl (any_of HT_.out (by kernel_rfl)) (fun _ _ _ h => h) (Or.inl ⟨by rfl, ?_⟩) ?_ ?_
          rotate_left
          · intro w'
            go_simp
            with_reducible rfl
          rotate_left
          · simp only [Act.put, List.setIfInBounds_toArray, List.set_cons_zero, List.set_cons_succ, i64_w, i32_w]
            rfl
          refine pure_ (i := 1) (N := (some 29)) (v := ?_) (a' := ?_) (bb 23 3) rfl rfl (any_of HT_.out (by kernel_rfl)) (fun _ _ _ h => h) (Or.inl ⟨by rfl, ?_⟩) ?_ ?_
          rotate_left
          · intro w'
            go_simp
            with_reducible rfl
          rotate_left
          · simp only [Act.put, List.setIfInBounds_toArray, List.set_cons_zero, List.set_cons_succ, i64_w, i32_w]
            rfl
          refine pure_ (i := 2) (N := (some 30)) (v := ?_) (a' := ?_) (bb 23 7) rfl rfl (any_of HT_.out (by kernel_rfl)) (fun _ _ _ h => h) (Or.inl ⟨by rfl, ?_⟩) ?_ ?_
          rotate_left
          · intro w'
            go_simp
            with_reducible rfl
          rotate_left
          · simp only [Act.put, List.setIfInBounds_toArray, List.set_cons_zero, List.set_cons_succ, i64_w, i32_w]
            rfl
          refine pure_ (i := 3) (N := (some 31)) (v := ?_) (a' := ?_) (bb 23 15) rfl rfl (any_of HT_.out (by kernel_rfl)) (fun _ _ _ h => h) (Or.inl ⟨by rfl, ?_⟩) ?_ ?_
          rotate_left
          · intro w'
            go_simp
            with_reducible rfl
          rotate_left
          · simp only [Act.put, List.setIfInBounds_toArray, List.set_cons_zero, List.set_cons_succ, i64_w, i32_w]
            rfl
          refine take_ (i := 4) (N := (some 32)) (v := ?_) (a' := ?_) (bb 23 31) rfl rfl (take_ofW HT_.out HW_.out (by kernel_rfl)) (fun _ _ _ h => h) (Or.inl ⟨by rfl, ?_⟩) hHeld ?_ ?_
          rotate_left
          · intro w' s0
            (try dsimp only at s0)
            go_simp
            with_reducible rfl
          rotate_left
          · simp only [Act.put, List.setIfInBounds_toArray, List.set_cons_zero, List.set_cons_succ, i64_w, i32_w]
            rfl
          refine pure_ (i := 5) (N := (some 33)) (v := ?_) (a' := ?_) (bb 23 63) rfl rfl (any_of HT_.out (by kernel_rfl)) (fun _ _ _ h => h) (Or.inl ⟨by rfl, ?_⟩) ?_ ?_
          rotate_left
          · intro w'
            go_simp
            with_reducible rfl
          rotate_left
          · simp only [Act.put, List.setIfInBounds_toArray, List.set_cons_zero, List.set_cons_succ, i64_w, i32_w]
            rfl
          refine one_ (i := 6) (N := (some 34)) (bb 23 127) rfl rfl (one_of HT_.out (by kernel_rfl)) (by decide) (fun K hK => ?_)
          refine goes_ Tryd.func47 (by kernel_rfl) rfl #[.pointer (some ⟨gd, 0, none⟩)] (by rfl) rfl rfl (by (try simp only [List.map_toArray, List.map_cons, List.map_nil]); first | done | rfl) ?_
          refine (HSC.out _ _ _ HSy.out.up1).mono ?_
          rintro e w6 ⟨rfl, rfl⟩
          refine ⟨_, rfl, ?_⟩
          refine hK.out _ _ (⟨blk_cell HSy.out.cells.1 0 |>.trans HE0.out, blk_cell HSy.out.cells.1 2 |>.trans HE2.out, blk_cell HSy.out.up2.cells.1 2 |>.trans HB2.out⟩) (fun hHeld => ?_)
          clear hK K
          refine norm_ (a' := ?_) ?_ ?_
          rotate_left
          · show Act.put _ (some 34) _ = _
            simp only [Act.put, List.setIfInBounds_toArray, List.set_cons_zero, List.set_cons_succ, i64_w, i32_w]
            rfl
          refine pure_ (i := 7) (N := (some 35)) (v := ?_) (a' := ?_) (bb 23 255) rfl rfl (any_of HT_.out (by kernel_rfl)) (fun _ _ _ h => h) (Or.inl ⟨by rfl, ?_⟩) ?_ ?_
          rotate_left
          · intro w'
            go_simp
            with_reducible rfl
          rotate_left
          · simp only [Act.put, List.setIfInBounds_toArray, List.set_cons_zero, List.set_cons_succ, i64_w, i32_w]
            rfl
          refine pure_ (i := 8) (N := (some 36)) (v := ?_) (a' := ?_) (bb 23 511) rfl rfl (any_of HT_.out (by kernel_rfl)) (fun _ _ _ h => h) (Or.inl ⟨by rfl, ?_⟩) ?_ ?_
          rotate_left
          · intro w'
            go_simp
            with_reducible rfl
          rotate_left
          · simp only [Act.put, List.setIfInBounds_toArray, List.set_cons_zero, List.set_cons_succ, i64_w, i32_w]
            rfl
          refine pure_ (i := 9) (N := (some 37)) (v := ?_) (a' := ?_) (bb 23 1023) rfl rfl (any_of HT_.out (by kernel_rfl)) (fun _ _ _ h => h) (Or.inl ⟨by rfl, ?_⟩) ?_ ?_
          rotate_left
          · intro w'
            go_simp
            with_reducible rfl
          rotate_left
          · simp only [Act.put, List.setIfInBounds_toArray, List.set_cons_zero, List.set_cons_succ, i64_w, i32_w]
            rfl
          refine pure_ (i := 10) (N := (some 38)) (v := undef) (a' := ?_) (bb 23 2047) rfl rfl (any_of HT_.out (by kernel_rfl)) (fun _ _ _ h => h) (Or.inr ⟨by rfl, rfl⟩) ?_ ?_
          rotate_left
          · simp only [Act.put, List.setIfInBounds_toArray, List.set_cons_zero, List.set_cons_succ, i64_w, i32_w]
            rfl
          refine pure_ (i := 11) (N := (some 39)) (v := undef) (a' := ?_) (bb 23 4095) rfl rfl (any_of HT_.out (by kernel_rfl)) (fun _ _ _ h => h) (Or.inr ⟨by rfl, rfl⟩) ?_ ?_
          rotate_left
          · simp only [Act.put, List.setIfInBounds_toArray, List.set_cons_zero, List.set_cons_succ, i64_w, i32_w]
            rfl
          refine pure_ (i := 12) (N := (some 40)) (v := undef) (a' := ?_) (bb 23 8191) rfl rfl (any_of HT_.out (by kernel_rfl)) (fun _ _ _ h => h) (Or.inr ⟨by rfl, rfl⟩) ?_ ?_
          rotate_left
          · simp only [Act.put, List.setIfInBounds_toArray, List.set_cons_zero, List.set_cons_succ, i64_w, i32_w]
            rfl
          refine pure_ (i := 13) (N := (some 41)) (v := undef) (a' := ?_) (bb 23 16383) rfl rfl (any_of HT_.out (by kernel_rfl)) (fun _ _ _ h => h) (Or.inr ⟨by rfl, rfl⟩) ?_ ?_
          rotate_left
          · simp only [Act.put, List.setIfInBounds_toArray, List.set_cons_zero, List.set_cons_succ, i64_w, i32_w]
            rfl
          refine pure_ (i := 14) (N := (some 42)) (v := undef) (a' := ?_) (bb 23 32767) rfl rfl (any_of HT_.out (by kernel_rfl)) (fun _ _ _ h => h) (Or.inr ⟨by rfl, rfl⟩) ?_ ?_
          rotate_left
          · simp only [Act.put, List.setIfInBounds_toArray, List.set_cons_zero, List.set_cons_succ, i64_w, i32_w]
            rfl
          refine pure_ (i := 15) (N := (some 43)) (v := ?_) (a' := ?_) (bb 23 65535) rfl rfl (any_of HT_.out (by kernel_rfl)) (fun _ _ _ h => h) (Or.inl ⟨by rfl, ?_⟩) ?_ ?_
          rotate_left
          · intro w'
            go_simp
            with_reducible rfl
          rotate_left
          · simp only [Act.put, List.setIfInBounds_toArray, List.set_cons_zero, List.set_cons_succ, i64_w, i32_w]
            rfl
          refine pure_ (i := 16) (N := (some 44)) (v := ?_) (a' := ?_) (bb 23 131071) rfl rfl (any_of HT_.out (by kernel_rfl)) (fun _ _ _ h => h) (Or.inl ⟨by rfl, ?_⟩) ?_ ?_
          rotate_left
          · intro w'
            go_simp
            with_reducible rfl
          rotate_left
          · simp only [Act.put, List.setIfInBounds_toArray, List.set_cons_zero, List.set_cons_succ, i64_w, i32_w]
            rfl
          refine pure_ (i := 17) (N := (some 45)) (v := undef) (a' := ?_) (bb 23 262143) rfl rfl (any_of HT_.out (by kernel_rfl)) (fun _ _ _ h => h) (Or.inr ⟨by rfl, rfl⟩) ?_ ?_
          rotate_left
          · simp only [Act.put, List.setIfInBounds_toArray, List.set_cons_zero, List.set_cons_succ, i64_w, i32_w]
            rfl
          refine pure_ (i := 18) (N := (some 46)) (v := undef) (a' := ?_) (bb 23 524287) rfl rfl (any_of HT_.out (by kernel_rfl)) (fun _ _ _ h => h) (Or.inr ⟨by rfl, rfl⟩) ?_ ?_
          rotate_left
          · simp only [Act.put, List.setIfInBounds_toArray, List.set_cons_zero, List.set_cons_succ, i64_w, i32_w]
            rfl
          refine pure_ (i := 19) (N := (some 47)) (v := undef) (a' := ?_) (bb 23 1048575) rfl rfl (any_of HT_.out (by kernel_rfl)) (fun _ _ _ h => h) (Or.inr ⟨by rfl, rfl⟩) ?_ ?_
          rotate_left
          · simp only [Act.put, List.setIfInBounds_toArray, List.set_cons_zero, List.set_cons_succ, i64_w, i32_w]
            rfl
          refine pure_ (i := 20) (N := (some 48)) (v := undef) (a' := ?_) (bb 23 2097151) rfl rfl (any_of HT_.out (by kernel_rfl)) (fun _ _ _ h => h) (Or.inr ⟨by rfl, rfl⟩) ?_ ?_
          rotate_left
          · simp only [Act.put, List.setIfInBounds_toArray, List.set_cons_zero, List.set_cons_succ, i64_w, i32_w]
            rfl
          refine pure_ (i := 21) (N := (some 49)) (v := undef) (a' := ?_) (bb 23 4194303) rfl rfl (any_of HT_.out (by kernel_rfl)) (fun _ _ _ h => h) (Or.inr ⟨by rfl, rfl⟩) ?_ ?_
          rotate_left
          · simp only [Act.put, List.setIfInBounds_toArray, List.set_cons_zero, List.set_cons_succ, i64_w, i32_w]
            rfl
          refine pure_ (i := 22) (N := (some 50)) (v := ?_) (a' := ?_) (bb 23 8388607) rfl rfl (any_of HT_.out (by kernel_rfl)) (fun _ _ _ h => h) (Or.inl ⟨by rfl, ?_⟩) ?_ ?_
          rotate_left
          · intro w'
            go_simp
            with_reducible rfl
          rotate_left
          · simp only [Act.put, List.setIfInBounds_toArray, List.set_cons_zero, List.set_cons_succ, i64_w, i32_w]
            rfl
          refine done_ (done_of HT_.out (by kernel_rfl)) ?_
          clear hHeld HT_ HW_
          go_wp2
          go_roundg (gk - 1)
          case measure => have := HJ.out; omega
          case rel => exact ⟨j + 1, by simp, ⟨by have := HJ.out; omega⟩, ⟨by rw [HPK.out]; unfold pickS; rw [if_neg (by simp [ha])]; exact HSy.out.drop.up1⟩⟩
      · subst h0
        refine start_ (n := 23) (S := fun W => W.cell? ⟨gs, 0, none⟩ = some (.int .i64 sj.a) ∧ W.cell? ⟨gs, 2, none⟩ = some (.int .i64 sj.c) ∧ W.cell? ⟨gb, 2, none⟩ = some (.int .i64 bj.c)) (ds := []) (bb 23 0) (by kernel_rfl) rfl rfl (⟨blk_cell HSy.out.cells.1 0 |>.trans HE0.out, blk_cell HSy.out.cells.1 2 |>.trans HE2.out, blk_cell HSy.out.up2.cells.1 2 |>.trans HB2.out⟩) (fun hHeld => ?_); refine with_tabW rda_tab rda_bits (fun HT_ HW_ => ?_)
        generalize w5.drew = wd at hHeld HSy ⊢
        refine pure_ (i := 0) (N := (some 28)) (v := ?_) (a' := ?_) (bb 23 1) rfl rfl (any_of HT_.out (by kernel_rfl)) (fun _ _ _ h => h) (Or.inl ⟨by rfl, ?_⟩) ?_ ?_
        rotate_left
        · intro w'
          go_simp
          with_reducible rfl
        rotate_left
        · simp only [Act.put, List.setIfInBounds_toArray, List.set_cons_zero, List.set_cons_succ, i64_w, i32_w]
          rfl
        refine pure_ (i := 1) (N := (some 29)) (v := ?_) (a' := ?_) (bb 23 3) rfl rfl (any_of HT_.out (by kernel_rfl)) (fun _ _ _ h => h) (Or.inl ⟨by rfl, ?_⟩) ?_ ?_
        rotate_left
        · intro w'
          go_simp
          with_reducible rfl
        rotate_left
        · simp only [Act.put, List.setIfInBounds_toArray, List.set_cons_zero, List.set_cons_succ, i64_w, i32_w]
          rfl
        refine pure_ (i := 2) (N := (some 30)) (v := ?_) (a' := ?_) (bb 23 7) rfl rfl (any_of HT_.out (by kernel_rfl)) (fun _ _ _ h => h) (Or.inl ⟨by rfl, ?_⟩) ?_ ?_
        rotate_left
        · intro w'
          go_simp
          with_reducible rfl
        rotate_left
        · simp only [Act.put, List.setIfInBounds_toArray, List.set_cons_zero, List.set_cons_succ, i64_w, i32_w]
          rfl
        refine pure_ (i := 3) (N := (some 31)) (v := undef) (a' := ?_) (bb 23 15) rfl rfl (any_of HT_.out (by kernel_rfl)) (fun _ _ _ h => h) (Or.inr ⟨by rfl, rfl⟩) ?_ ?_
        rotate_left
        · simp only [Act.put, List.setIfInBounds_toArray, List.set_cons_zero, List.set_cons_succ, i64_w, i32_w]
          rfl
        refine pure_ (i := 4) (N := (some 32)) (v := undef) (a' := ?_) (bb 23 31) rfl rfl (any_of HT_.out (by kernel_rfl)) (fun _ _ _ h => h) (Or.inr ⟨by rfl, rfl⟩) ?_ ?_
        rotate_left
        · simp only [Act.put, List.setIfInBounds_toArray, List.set_cons_zero, List.set_cons_succ, i64_w, i32_w]
          rfl
        refine pure_ (i := 5) (N := (some 33)) (v := undef) (a' := ?_) (bb 23 63) rfl rfl (any_of HT_.out (by kernel_rfl)) (fun _ _ _ h => h) (Or.inr ⟨by rfl, rfl⟩) ?_ ?_
        rotate_left
        · simp only [Act.put, List.setIfInBounds_toArray, List.set_cons_zero, List.set_cons_succ, i64_w, i32_w]
          rfl
        refine pure_ (i := 6) (N := (some 34)) (v := undef) (a' := ?_) (bb 23 127) rfl rfl (any_of HT_.out (by kernel_rfl)) (fun _ _ _ h => h) (Or.inr ⟨by rfl, rfl⟩) ?_ ?_
        rotate_left
        · simp only [Act.put, List.setIfInBounds_toArray, List.set_cons_zero, List.set_cons_succ, i64_w, i32_w]
          rfl
        refine pure_ (i := 7) (N := (some 35)) (v := undef) (a' := ?_) (bb 23 255) rfl rfl (any_of HT_.out (by kernel_rfl)) (fun _ _ _ h => h) (Or.inr ⟨by rfl, rfl⟩) ?_ ?_
        rotate_left
        · simp only [Act.put, List.setIfInBounds_toArray, List.set_cons_zero, List.set_cons_succ, i64_w, i32_w]
          rfl
        refine pure_ (i := 8) (N := (some 36)) (v := ?_) (a' := ?_) (bb 23 511) rfl rfl (any_of HT_.out (by kernel_rfl)) (fun _ _ _ h => h) (Or.inl ⟨by rfl, ?_⟩) ?_ ?_
        rotate_left
        · intro w'
          go_simp
          with_reducible rfl
        rotate_left
        · simp only [Act.put, List.setIfInBounds_toArray, List.set_cons_zero, List.set_cons_succ, i64_w, i32_w]
          rfl
        refine pure_ (i := 9) (N := (some 37)) (v := ?_) (a' := ?_) (bb 23 1023) rfl rfl (any_of HT_.out (by kernel_rfl)) (fun _ _ _ h => h) (Or.inl ⟨by rfl, ?_⟩) ?_ ?_
        rotate_left
        · intro w'
          go_simp
          with_reducible rfl
        rotate_left
        · simp only [Act.put, List.setIfInBounds_toArray, List.set_cons_zero, List.set_cons_succ, i64_w, i32_w]
          rfl
        refine pure_ (i := 10) (N := (some 38)) (v := undef) (a' := ?_) (bb 23 2047) rfl rfl (any_of HT_.out (by kernel_rfl)) (fun _ _ _ h => h) (Or.inr ⟨by rfl, rfl⟩) ?_ ?_
        rotate_left
        · simp only [Act.put, List.setIfInBounds_toArray, List.set_cons_zero, List.set_cons_succ, i64_w, i32_w]
          rfl
        refine pure_ (i := 11) (N := (some 39)) (v := undef) (a' := ?_) (bb 23 4095) rfl rfl (any_of HT_.out (by kernel_rfl)) (fun _ _ _ h => h) (Or.inr ⟨by rfl, rfl⟩) ?_ ?_
        rotate_left
        · simp only [Act.put, List.setIfInBounds_toArray, List.set_cons_zero, List.set_cons_succ, i64_w, i32_w]
          rfl
        refine pure_ (i := 12) (N := (some 40)) (v := undef) (a' := ?_) (bb 23 8191) rfl rfl (any_of HT_.out (by kernel_rfl)) (fun _ _ _ h => h) (Or.inr ⟨by rfl, rfl⟩) ?_ ?_
        rotate_left
        · simp only [Act.put, List.setIfInBounds_toArray, List.set_cons_zero, List.set_cons_succ, i64_w, i32_w]
          rfl
        refine pure_ (i := 13) (N := (some 41)) (v := undef) (a' := ?_) (bb 23 16383) rfl rfl (any_of HT_.out (by kernel_rfl)) (fun _ _ _ h => h) (Or.inr ⟨by rfl, rfl⟩) ?_ ?_
        rotate_left
        · simp only [Act.put, List.setIfInBounds_toArray, List.set_cons_zero, List.set_cons_succ, i64_w, i32_w]
          rfl
        refine pure_ (i := 14) (N := (some 42)) (v := undef) (a' := ?_) (bb 23 32767) rfl rfl (any_of HT_.out (by kernel_rfl)) (fun _ _ _ h => h) (Or.inr ⟨by rfl, rfl⟩) ?_ ?_
        rotate_left
        · simp only [Act.put, List.setIfInBounds_toArray, List.set_cons_zero, List.set_cons_succ, i64_w, i32_w]
          rfl
        refine pure_ (i := 15) (N := (some 43)) (v := ?_) (a' := ?_) (bb 23 65535) rfl rfl (any_of HT_.out (by kernel_rfl)) (fun _ _ _ h => h) (Or.inl ⟨by rfl, ?_⟩) ?_ ?_
        rotate_left
        · intro w'
          go_simp
          with_reducible rfl
        rotate_left
        · simp only [Act.put, List.setIfInBounds_toArray, List.set_cons_zero, List.set_cons_succ, i64_w, i32_w]
          rfl
        refine pure_ (i := 16) (N := (some 44)) (v := ?_) (a' := ?_) (bb 23 131071) rfl rfl (any_of HT_.out (by kernel_rfl)) (fun _ _ _ h => h) (Or.inl ⟨by rfl, ?_⟩) ?_ ?_
        rotate_left
        · intro w'
          go_simp
          with_reducible rfl
        rotate_left
        · simp only [Act.put, List.setIfInBounds_toArray, List.set_cons_zero, List.set_cons_succ, i64_w, i32_w]
          rfl
        refine pure_ (i := 17) (N := (some 45)) (v := undef) (a' := ?_) (bb 23 262143) rfl rfl (any_of HT_.out (by kernel_rfl)) (fun _ _ _ h => h) (Or.inr ⟨by rfl, rfl⟩) ?_ ?_
        rotate_left
        · simp only [Act.put, List.setIfInBounds_toArray, List.set_cons_zero, List.set_cons_succ, i64_w, i32_w]
          rfl
        refine pure_ (i := 18) (N := (some 46)) (v := undef) (a' := ?_) (bb 23 524287) rfl rfl (any_of HT_.out (by kernel_rfl)) (fun _ _ _ h => h) (Or.inr ⟨by rfl, rfl⟩) ?_ ?_
        rotate_left
        · simp only [Act.put, List.setIfInBounds_toArray, List.set_cons_zero, List.set_cons_succ, i64_w, i32_w]
          rfl
        refine pure_ (i := 19) (N := (some 47)) (v := undef) (a' := ?_) (bb 23 1048575) rfl rfl (any_of HT_.out (by kernel_rfl)) (fun _ _ _ h => h) (Or.inr ⟨by rfl, rfl⟩) ?_ ?_
        rotate_left
        · simp only [Act.put, List.setIfInBounds_toArray, List.set_cons_zero, List.set_cons_succ, i64_w, i32_w]
          rfl
        refine pure_ (i := 20) (N := (some 48)) (v := undef) (a' := ?_) (bb 23 2097151) rfl rfl (any_of HT_.out (by kernel_rfl)) (fun _ _ _ h => h) (Or.inr ⟨by rfl, rfl⟩) ?_ ?_
        rotate_left
        · simp only [Act.put, List.setIfInBounds_toArray, List.set_cons_zero, List.set_cons_succ, i64_w, i32_w]
          rfl
        refine pure_ (i := 21) (N := (some 49)) (v := undef) (a' := ?_) (bb 23 4194303) rfl rfl (any_of HT_.out (by kernel_rfl)) (fun _ _ _ h => h) (Or.inr ⟨by rfl, rfl⟩) ?_ ?_
        rotate_left
        · simp only [Act.put, List.setIfInBounds_toArray, List.set_cons_zero, List.set_cons_succ, i64_w, i32_w]
          rfl
        refine pure_ (i := 22) (N := (some 50)) (v := ?_) (a' := ?_) (bb 23 8388607) rfl rfl (any_of HT_.out (by kernel_rfl)) (fun _ _ _ h => h) (Or.inl ⟨by rfl, ?_⟩) ?_ ?_
        rotate_left
        · intro w'
          go_simp
          with_reducible rfl
        rotate_left
        · simp only [Act.put, List.setIfInBounds_toArray, List.set_cons_zero, List.set_cons_succ, i64_w, i32_w]
          rfl
        refine done_ (done_of HT_.out (by kernel_rfl)) ?_
        clear hHeld HT_ HW_
        go_wp2
        go_roundg (gk - 1)
        case measure => have := HJ.out; omega
        case rel => exact ⟨j + 1, by simp, ⟨by have := HJ.out; omega⟩, ⟨by rw [HPK.out]; unfold pickS; rw [if_neg (by simp)]; exact HSy.out.drop.up1⟩⟩
    · have hj2 : j = 2 := by have := HJ.out; omega
      subst hj2
      have HO1 := Aside0.mk (HOK.out 2)
      have HRS := Aside0.mk (show readS N cur = (if (bestJ N cur 2).c < 0 then noSL else bestJ N cur 2) from rfl)
      have HRE := Aside0.mk (show readE N cur = (if (bestJ N cur 2).c < 0 then 180 else 0) from rfl)
      generalize hb : bestJ N cur 2 = bj at HO1 HRS HRE hS
      have HSZ1 := Aside0.mk (HSZ.out _ HO1.out)
      have HSQ1 := Aside0.mk (show Z.size = bj.V.toArray.size from by rw [HZS.out, HSQ.out _ HO1.out])
      have HLD := Aside0.mk (show ∀ j v, bj.V.toArray.toList[j]? = some v → wr.cell? ((⟨gb, 0, none⟩ : Addr).add j) = some v from fun j v hv => seg_at hS.out.cells.1 0 bj.V (by rw [List.drop_zero]; exact List.take_of_length_le (Nat.le_refl _)) j v (by simpa using hv))
      have x0 : wr.cell? ⟨gb, 2, none⟩ = some (.int .i64 bj.c) := (blk_cell hS.out.cells.1 2).trans (by simpa using bj.V2)
      clear hb HOK HJ hj HDC HRD HSC HDO
      by_cases hc : bj.c < 0
      · have HC := Aside0.mk hc
        have HZZ := Aside0.mk (show (Tryd.prog.info? 27).map (·.size) = some Z.size from size27 HZS.out)
        have HZA := Aside0.mk (show Z.all (·.oneCell') = true from by rw [← HZ.out]; exact SL.V_all _)
        go_wp2_with (first
          | ((with_reducible refine gate_build (ty := 27) rfl ?_); refine wpList_buildTo rfl 27 _ rfl (some 56) rfl Z ?aB ?_; (case aB => (simp only [List.map_toArray, List.map_nil]; exact HBZ.out)))
          | ((with_reducible refine gate_store (ty := 27) rfl ?_); refine Sep.store_own rfl 27 _ _ rfl rfl rfl hS.out.up2 HZZ.out rfl HZA.out ?_; intro w8 h8; have HS8 := Aside0.mk h8; clear h8))
        refine bodyPost_ret (results_row_tmp (p := 2) (u := 3) (ty := 27) rfl _ _ gr 27 Z (0, 0) _ _ rfl rfl HS8.out.cells.1 Tryd.underlying27 rfl HZZ.out) rfl ⟨by rw [HRS.out, HRE.out, if_pos HC.out, if_pos HC.out, HZ.out]; rfl, ?_⟩
        exact HS8.out.drop.drop
      · have HC := Aside0.mk hc
        go_wp2_with (first
          | ((with_reducible refine gate_load (ty := 27) rfl ?_); refine wpList_ldw ?_ 27 _ rfl ⟨gb, 0, none⟩ ?_ bj.V.toArray _ HLD.out Tryd.underlying27 rfl HSZ1.out ?_; exact rfl; exact rfl; skip)
          | ((with_reducible refine gate_store (ty := 27) rfl ?_); refine Sep.store_own rfl 27 _ _ rfl rfl rfl hS.out.up2 HSZ1.out HSQ1.out (SL.V_all _) ?_; intro w8 h8; have HS8 := Aside0.mk h8; clear h8))
        refine bodyPost_ret (results_row_tmp (p := 2) (u := 3) (ty := 27) rfl _ _ gr 27 _ (0, 0) _ _ rfl rfl HS8.out.cells.1 Tryd.underlying27 rfl HSZ1.out) rfl ⟨by rw [HRS.out, HRE.out, if_neg (by have := HC.out; omega), if_neg (by have := HC.out; omega)]; rfl, ?_⟩
        exact HS8.out.drop.drop
end Go.Proofs.YtaflofcnjakaaaaDoor.M

namespace Go.Proofs.YtaflofcnjakaaaaDoor.M
open Go.RowKit Go.Maps Go.Proofs.YtaflofcnjakaaaaDoorW.PrintWords Go.Proofs.YtaflofcnjakaaaaDoorW.PrintLast Go.Proofs.YtaflofcnjakaaaaDoorW.PrintMore Go.Proofs.YtaflofcnjakaaaaDoor.Wr Go.Proofs.YtaflofcnjakaaaaDoor.Pl Go.Proofs.YtaflofcnjakaaaaDoor.P Go.Proofs.YtaflofcnjakaaaaDoor.A
set_option linter.unusedVariables false
set_option linter.unusedSimpArgs false
theorem eqItems_same (d : Nat) (l : List Int) (W : World) : ∀ is : List Nat, (∀ i, i ∈ is → i < l.length) → (Op.eqItems (d + 1) 5 1 (nums .u8 l).toArray (nums .u8 l).toArray is).run Tryd.prog W = .ok true W
  | [], _ => by simp [Op.eqItems]
  | i :: is, h => by
    have hu : Tryd.prog.underlying 5 = some (.int .u8) := by kernel_rfl
    have hp : (Go.part 5 (nums .u8 l).toArray (i * 1)).run Tryd.prog W = .ok (.int .u8 (l.getD i 0)) W := by
      have hagg : (isAgg 5).run Tryd.prog W = .ok false W := by
        unfold isAgg
        rw [Sem.run_bind, run_underlying hu W]
        simp
      unfold Go.part
      rw [Sem.run_bind, hagg]
      simp only [Result.andThen_ok, Nat.mul_one, Bool.false_eq_true, if_false]
      have e : (nums .u8 l).toArray[i]? = some (.int .u8 (l.getD i 0)) := by
        unfold nums
        have hi := h i (by simp)
        simp [List.getElem?_eq_getElem hi]
      rw [e]
      simp
    have he : (Op.equalIn (d + 1) 5 (.int .u8 (l.getD i 0)) (.int .u8 (l.getD i 0))).run Tryd.prog W = .ok true W := by
      simp [Op.equalIn, Sem.run_bind, run_underlying hu]
    simp only [Op.eqItems, Sem.run_bind, hp, he, Result.andThen_ok, Bool.not_true, Bool.false_eq_true, if_false]
    exact eqItems_same d l W is (fun j hj => h j (by simp [hj]))
theorem eq_key (d : Nat) (l : List Int) (hl : l.length = 32) (W : World) : (Op.equalIn (d + 2) 23 (.agg (nums .u8 l).toArray) (.agg (nums .u8 l).toArray)).run Tryd.prog W = .ok true W := by
  obtain ⟨i, hi, _, hsz, _⟩ := info_parts info_u8
  have hc : Tryd.prog.cellsOf 5 = 1 := by kernel_rfl
  rw [run_equalIn_array W (d + 1) (t := 23) (e := 5) (n := 32) (nums .u8 l).toArray (nums .u8 l).toArray Tryd.underlying23 hi, hc]
  exact eqItems_same d l W _ (fun j hj => by rw [hl]; exact List.mem_range.1 hj)
theorem eqFields_same (d : Nat) (xs : Array Value) (W : World) : ∀ fs : List Field, (∀ f ∈ fs, ∃ v, (part f.type xs f.offset).run Tryd.prog W = .ok v W ∧ (Op.equalIn d f.type v v).run Tryd.prog W = .ok true W) → (Op.eqFields d xs xs fs).run Tryd.prog W = .ok true W
  | [], _ => by simp [Op.eqFields]
  | f :: fs, h => by
    obtain ⟨v, hp, he⟩ := h f (by simp)
    unfold Op.eqFields
    rw [Sem.run_ite]
    split
    · simp only [Sem.run_bind, hp, he, Result.andThen_ok, Bool.not_true, Bool.false_eq_true, if_false]
      exact eqFields_same d xs W fs (fun g hg => h g (by simp [hg]))
    · exact eqFields_same d xs W fs (fun g hg => h g (by simp [hg]))
theorem part_int {xs : List Value} {o : Nat} {n : Int} (W : World) (h : xs[o]? = some (.int .i64 n)) : (part 3 xs.toArray o).run Tryd.prog W = .ok (.int .i64 n) W := by
  have hu : Tryd.prog.underlying 3 = some (.int .i64) := by kernel_rfl
  have hagg : (isAgg 3).run Tryd.prog W = .ok false W := by
    unfold isAgg
    rw [Sem.run_bind, run_underlying hu W]
    simp
  unfold Go.part
  rw [Sem.run_bind, hagg]
  simp only [Result.andThen_ok, Bool.false_eq_true, if_false]
  have e : xs.toArray[o]? = some (.int .i64 n) := by simpa using h
  rw [e]
  simp
theorem part_agg {t : TypeId} {d : TypeDesc} {xs ys : List Value} {o : Nat} (W : World) (hu : Tryd.prog.underlying t = some d) (hd : (match d with | .struct _ | .array _ _ => true | _ => false) = true) (hs : (Tryd.prog.info? t).map (·.size) = some ys.length) (h : (xs.drop o).take ys.length = ys) : (part t xs.toArray o).run Tryd.prog W = .ok (.agg ys.toArray) W := by
  have hagg : (isAgg t).run Tryd.prog W = .ok true W := by
    unfold isAgg
    rw [Sem.run_bind, run_underlying hu W]
    cases d <;> simp_all
  cases hq : Tryd.prog.info? t with
  | none => simp [hq] at hs
  | some i =>
    have hsz : i.size = ys.length := by simpa [hq] using hs
    have hlen : o + ys.length ≤ xs.length ∨ ys.length = 0 := by
      have := congrArg List.length h
      simp at this
      omega
    unfold Go.part
    rw [Sem.run_bind, hagg]
    simp [sizeOf, typeInfo, hq, hsz]
    simpa using h
theorem flds25 : (Tryd.prog.fieldsOf 25).toList.map (fun f => (f.type, f.offset)) = [(23, 0), (3, 32), (3, 33)] := by kernel_rfl
theorem flds27 : (Tryd.prog.fieldsOf 27).toList.map (fun f => (f.type, f.offset)) = [(3, 0), (3, 1), (3, 2), (3, 3), (3, 4), (23, 5), (25, 37), (25, 71)] := by kernel_rfl
theorem eq_int (d : Nat) (n : Int) (W : World) : (Op.equalIn (d + 1) 3 (.int .i64 n) (.int .i64 n)).run Tryd.prog W = .ok true W := by
  have hu : Tryd.prog.underlying 3 = some (.int .i64) := by kernel_rfl
  simp [Op.equalIn, Sem.run_bind, run_underlying hu]
theorem eq_ref (d : Nat) {h : List Int} (hh : h.length = 32) (f l : Int) (W : World) : (Op.equalIn (d + 3) 25 (.agg (refV h f l).toArray) (.agg (refV h f l).toArray)).run Tryd.prog W = .ok true W := by
  rw [run_equalIn_struct W (d + 2) 25 _ _ (by kernel_rfl) (by kernel_rfl)]
  refine eqFields_same (d + 2) _ W _ (fun fl hf => ?_)
  have hm : (fl.type, fl.offset) ∈ (Tryd.prog.fieldsOf 25).toList.map (fun f => (f.type, f.offset)) := List.mem_map.2 ⟨fl, hf, rfl⟩
  rw [flds25] at hm
  simp only [List.mem_cons, List.not_mem_nil, or_false, Prod.mk.injEq] at hm
  have r32 := refV_f hh f l []
  have r33 := refV_l hh f l []
  rw [List.append_nil] at r32 r33
  rcases hm with ⟨e1, e2⟩ | ⟨e1, e2⟩ | ⟨e1, e2⟩ <;> rw [e1, e2]
  · exact ⟨_, part_agg (ys := nums .u8 h) W Tryd.underlying23 rfl (size23 (by rw [nums_length, hh])) (by rw [List.drop_zero]; unfold refV; exact take_app rfl), eq_key d h hh W⟩
  · exact ⟨_, part_int W r32, eq_int (d + 1) f W⟩
  · exact ⟨_, part_int W r33, eq_int (d + 1) l W⟩
theorem eq_slot (d : Nat) {s : SL} (hs : s.Ok) (W : World) : (Op.equalIn (d + 4) 27 (.agg s.V.toArray) (.agg s.V.toArray)).run Tryd.prog W = .ok true W := by
  rw [run_equalIn_struct W (d + 3) 27 _ _ (by kernel_rfl) (by kernel_rfl)]
  refine eqFields_same (d + 3) _ W _ (fun fl hf => ?_)
  have hm : (fl.type, fl.offset) ∈ (Tryd.prog.fieldsOf 27).toList.map (fun f => (f.type, f.offset)) := List.mem_map.2 ⟨fl, hf, rfl⟩
  rw [flds27] at hm
  simp only [List.mem_cons, List.not_mem_nil, or_false, Prod.mk.injEq] at hm
  rcases hm with ⟨e1, e2⟩ | ⟨e1, e2⟩ | ⟨e1, e2⟩ | ⟨e1, e2⟩ | ⟨e1, e2⟩ | ⟨e1, e2⟩ | ⟨e1, e2⟩ | ⟨e1, e2⟩ <;> rw [e1, e2]
  · exact ⟨_, part_int W s.V0, eq_int (d + 2) _ W⟩
  · exact ⟨_, part_int W s.V1, eq_int (d + 2) _ W⟩
  · exact ⟨_, part_int W s.V2, eq_int (d + 2) _ W⟩
  · exact ⟨_, part_int W s.V3, eq_int (d + 2) _ W⟩
  · exact ⟨_, part_int W s.V4, eq_int (d + 2) _ W⟩
  · exact ⟨_, part_agg (ys := nums .u8 s.key) W Tryd.underlying23 rfl (size23 (by rw [nums_length, hs.k])) (by have := SL.V_key hs; rwa [nums_length]), eq_key (d + 1) _ hs.k W⟩
  · exact ⟨_, part_agg (ys := refV s.rh s.rf s.rl) W Tryd.underlying25 rfl (size25 (refV_len hs.r _ _)) (SL.V_root hs), eq_ref d hs.r _ _ W⟩
  · exact ⟨_, part_agg (ys := refV s.mh s.mf s.ml) W Tryd.underlying25 rfl (size25 (refV_len hs.m _ _)) (SL.V_memo hs), eq_ref d hs.m _ _ W⟩
theorem eql_slot {s : SL} (hs : s.Ok) (W : World) : (Op.equalIn 10000 27 (.agg s.V.toArray) (.agg s.V.toArray)).run Tryd.prog W = .ok true W := eq_slot 9996 hs W
def easySL : SL := ⟨40, 8, 0, 0, 0, z32, z32, 10, 0, z32, 11, 2⟩
theorem easy_ok : easySL.Ok := ⟨z32_ok.1, z32_ok.1, z32_ok.1, z32_ok.2, z32_ok.2, z32_ok.2⟩
theorem easy_may : mayM easySL = true := by kernel_rfl
set_option maxRecDepth 100000 in
theorem easy_ref1 : Tryd.prog.built 25 [(1, .int .i64 10), (2, .int .i64 0)] = some (refV z32 10 0).toArray := by kernel_rfl
set_option maxRecDepth 100000 in
theorem easy_ref2 : Tryd.prog.built 25 [(1, .int .i64 11), (2, .int .i64 2)] = some (refV z32 11 2).toArray := by kernel_rfl
set_option maxRecDepth 100000 in
theorem easy_built : Tryd.prog.built 27 [(0, .int .i64 40), (1, .int .i64 8), (2, .int .i64 0), (3, .int .i64 0), (4, .int .i64 0), (6, .agg (refV z32 10 0).toArray), (7, .agg (refV z32 11 2).toArray)] = some easySL.V.toArray := by kernel_rfl
set_option maxHeartbeats 8000000 in
set_option maxRecDepth 100000 in
theorem Sep.easy {w0 w : World} {L : List Th} (h : Sep w0 w L) : Calls Tryd.prog 55 #[.int .i64 0] w fun e w' => e = .returned (.agg easySL.V.toArray) ∧ Sep w0 w' L := by
  have HS0 := Aside0.mk h
  have HR1 := Aside0.mk easy_ref1
  have HR2 := Aside0.mk easy_ref2
  have HBE := Aside0.mk easy_built
  generalize (refV z32 10 0).toArray = R1 at HR1 HBE
  generalize (refV z32 11 2).toArray = R2 at HR2 HBE
  have HSZ := Aside0.mk (show (Tryd.prog.info? 27).map (·.size) = some easySL.V.toArray.size from size27 (by simpa using SL.V_len easy_ok))
  have hz := (zero_of_info (P := Tryd.prog) (t := 27) (v := .agg noSL.V.toArray) (n := 105) (by kernel_rfl)).1
  have HQ := Aside0.mk (show noSL.V.toArray.size = easySL.V.toArray.size from by simp only [List.size_toArray]; rw [SL.V_len noSL_ok, SL.V_len easy_ok])
  have HA := Aside0.mk (SL.V_all easySL)
  generalize easySL.V.toArray = E at HBE HSZ HQ HA ⊢
  generalize noSL.V.toArray = Z at hz HQ
  clear h
  go_enter Tryd.func55, Tryd.ntmps55
  go_upto_region 1 with (fail)
  have HS1 := Aside0.mk (HS0.out.push_alloc Z 27)
  generalize w.alloc (.cells Z 27) = w1 at HS1 ⊢
  generalize w.heap.size = gr at HS1 ⊢
  go_wp2_with (first
    | ((with_reducible refine gate_build (ty := 25) rfl ?_); refine wpList_buildTo rfl 25 _ rfl (some 13) rfl R1 ?aB ?_; (case aB => (simp only [List.map_toArray, List.map_cons, List.map_nil]; exact HR1.out)))
    | ((with_reducible refine gate_build (ty := 25) rfl ?_); refine wpList_buildTo rfl 25 _ rfl (some 14) rfl R2 ?aB ?_; (case aB => (simp only [List.map_toArray, List.map_cons, List.map_nil]; exact HR2.out)))
    | ((with_reducible refine gate_build (ty := 27) rfl ?_); refine wpList_buildTo rfl 27 _ rfl (some 15) rfl E ?aB ?_; (case aB => (simp only [List.map_toArray, List.map_cons, List.map_nil]; exact HBE.out)))
    | ((with_reducible refine gate_store (ty := 27) rfl ?_); refine Sep.store_own rfl 27 _ _ rfl rfl rfl HS1.out HSZ.out HQ.out HA.out ?_; intro w3 h3; have HS2 := Aside0.mk h3; clear h3))
  refine bodyPost_ret (results_cell_row (p := 2) (ty := 27) rfl _ _ gr 27 E (0, 0) _ rfl HS2.out.cells.1 Tryd.underlying27 rfl HSZ.out) rfl ⟨rfl, ?_⟩
  exact HS2.out.drop
end Go.Proofs.YtaflofcnjakaaaaDoor.M

namespace Go.Proofs.YtaflofcnjakaaaaDoor.M
open Go.RowKit Go.Maps Go.Proofs.YtaflofcnjakaaaaDoorW.PrintWords Go.Proofs.YtaflofcnjakaaaaDoorW.PrintLast Go.Proofs.YtaflofcnjakaaaaDoorW.PrintMore Go.Proofs.YtaflofcnjakaaaaDoor.Wr Go.Proofs.YtaflofcnjakaaaaDoor.Pl Go.Proofs.YtaflofcnjakaaaaDoor.P Go.Proofs.YtaflofcnjakaaaaDoor.A
set_option linter.unusedVariables false
set_option linter.unusedSimpArgs false
section
variable {P : Program} {ops : Array Oper} {rest : List Oper} {o : Oper} {a : Act} {w : World} {Q : Exit → Act → World → Prop}
theorem gate_eql {t t2 : TypeId} {x y : Operand} (_ho : o.op = .binOp .eql t x y t2) (h : wpList P ops Q (o :: rest) a w) : wpList P ops Q (o :: rest) a w := h
theorem wpList_eqlw (hw : Region.wanted o (yielded ops a.tmps) = true) (t t2 : TypeId) (x y : Operand) (ho : o.op = .binOp .eql t x y t2) (cs : Array Value) (hx : a.eval x = .agg cs) (hy : a.eval y = .agg cs) (hg : P.eqGuardType P.depth t = false)
    (he : (Op.equalIn 10000 t (.agg cs) (.agg cs)).run P w = .ok true w) (h : wpList P ops Q rest (a.put o.dst (.bool true)) w) : wpList P ops Q (o :: rest) a w :=
  wpList_step fun K hK => by
    rw [if_pos hw]
    unfold Oper.wp execOp
    have hb : (binOp .eql t (.agg cs) (.agg cs)).run P w = .ok (.bool true) w := by rw [run_eql_struct, he]; rfl
    have hgd : (eqGuard .eql t x y (.agg cs) (.agg cs)).run P w = .ok () w := run_eqGuard_agg w .eql t x y cs cs hg
    simp only [ho, hx, hy, Sem.run_bind, hgd, hb, Result.andThen_ok, Sem.run_pure]
    exact hK _ _ h
end
theorem guard27 : Tryd.prog.eqGuardType Tryd.prog.depth 27 = false := by kernel_rfl
theorem zeros_bytes : bytes_ zeros := fun x hx => by rw [List.eq_of_mem_replicate hx]; omega
theorem zeros_no : decB zeros = none := by
  have h : (readL zeros).a = 0 := by kernel_rfl
  unfold decB
  rw [if_neg]
  rintro ⟨_, h2, _⟩
  have := ((may_iff _).1 h2).a1
  omega
theorem bytes_nil : bytes_ [] := fun x hx => by simp at hx
theorem getD_rep {n j : Nat} (h : j < n) : (List.replicate n zeros).getD j [] = zeros := by
  rw [List.getD_eq_getElem?_getD, List.getElem?_replicate_of_lt h]
  rfl
def easyD : DS := DS.fresh 40 (List.replicate 40 zeros)
def easyD2 : DS := (easyD.put 0 (encB easySL)).flush
theorem flush_cur (s : DS) {j : Nat} (h : j < s.n) : s.flush.cur j = s.cur j := by
  unfold DS.flush
  show (match ([] : List (List Int)).getLast? with | some b => b | none => ((List.range s.n).map s.cur).getD j []) = _
  rw [List.getD_eq_getElem?_getD]
  simp [h]
theorem flush_cur_no (s : DS) {j : Nat} (h : ¬ j < s.n) : s.flush.cur j = [] := by
  unfold DS.flush
  show (match ([] : List (List Int)).getLast? with | some b => b | none => ((List.range s.n).map s.cur).getD j []) = _
  rw [List.getD_eq_getElem?_getD]
  simp [h]
theorem put_cur (s : DS) (i : Nat) (b : List Int) : (s.put i b).cur i = b := by
  unfold DS.put DS.cur
  simp
theorem put_cur_ne (s : DS) {i j : Nat} (b : List Int) (h : j ≠ i) : (s.put i b).cur j = s.cur j := by
  unfold DS.put DS.cur
  simp [h]
theorem fresh_cur {n j : Nat} (h : j < n) : (DS.fresh n (List.replicate n zeros)).cur j = zeros := by
  show (List.replicate n zeros).getD j [] = _
  exact getD_rep h
theorem easy_cur0 : easyD2.cur 0 = encB easySL := by
  unfold easyD2
  rw [flush_cur _ (show 0 < 40 by decide), put_cur]
theorem easy_cur1 : easyD2.cur 1 = zeros := by
  unfold easyD2
  rw [flush_cur _ (show 1 < 40 by decide), put_cur_ne _ _ (by decide)]
  exact fresh_cur (by decide)
theorem easy_bytes (j : Nat) : bytes_ (easyD2.cur j) := by
  by_cases h : j < 40
  · by_cases h0 : j = 0
    · subst h0; rw [easy_cur0]; exact bytes_encB easy_ok
    · unfold easyD2
      rw [flush_cur _ (show j < 40 from h), put_cur_ne _ _ h0]
      show bytes_ ((DS.fresh 40 (List.replicate 40 zeros)).cur j)
      rw [fresh_cur h]
      exact zeros_bytes
  · unfold easyD2
    rw [flush_cur_no _ (show ¬ j < 40 from h)]
    exact bytes_nil
theorem easy_len (j : Nat) (hj : j < 2) : (easyD2.cur j).length = 512 := by
  rcases (show j = 0 ∨ j = 1 by omega) with rfl | rfl
  · rw [easy_cur0]; exact encB_len easy_ok
  · rw [easy_cur1]; exact zeros_len
theorem easy_best : bestJ 40 easyD2.cur 2 = easySL := by
  have h0 := decS_yes (dec_enc easy_ok ((may_iff _).1 easy_may))
  have h1 := decS_no zeros_no
  unfold bestJ bestJ bestJ
  rw [easy_cur0, easy_cur1, h0.1, h0.2, h1.1, h1.2]
  unfold pickS
  rw [if_neg (by decide), if_pos (by decide)]
theorem easy_read : readS 40 easyD2.cur = easySL ∧ readE 40 easyD2.cur = 0 := by
  unfold readS readE
  rw [easy_best]
  exact ⟨if_neg (by decide), if_neg (by decide)⟩
set_option maxHeartbeats 8000000 in
set_option maxRecDepth 100000 in
theorem Sep.started {w0 w : World} {L : List Th} (h : Sep w0 w L) (hH : Wr.Half w0) : Calls Tryd.prog 31 #[] w fun e w' => e = .returned (.bool true) ∧ Sep w0 w' L := by
  have HS0 := Aside0.mk h
  have HNW := Aside0.mk (fun W (M : List Th) (h : Sep w0 W M) => (show Calls Tryd.prog 15 #[.int .i64 40] W (fun e w' => ∃ g, e = .returned (.tuple #[.pointer (some ⟨g, 0, none⟩), .int .i64 0]) ∧ Sep w0 w' (dkT g easyD :: M)) from Sep.new h 40 (by decide) (by decide)))
  have HWR := Aside0.mk (fun W (M : List Th) gd (h : Sep w0 W (dkT gd easyD :: M)) => (show Calls Tryd.prog 17 #[.pointer (some ⟨gd, 0, none⟩), .agg easySL.V.toArray] W (fun e w' => ∃ gx ge, e = .returned (.tuple #[.pointer (some ⟨gx, 0, none⟩), .int .i64 0]) ∧ Sep w0 w' (wrT gx ge gd 0 (encB easySL) 0 ++ dkT gd easyD :: M)) from Sep.writer h hH easySL easy_ok easy_may rfl))
  have HT0 := Aside0.mk (fun W (M : List Th) gx ge gd (h : Sep w0 W (wrT gx ge gd 0 (encB easySL) 0 ++ dkT gd easyD :: M)) => Sep.step0 (i := 0) h rfl (show 0 < 40 by decide) (show 0 < 1073741824 by decide) (encB_len easy_ok))
  have HT1 := Aside0.mk (fun W (M : List Th) gx ge gd (h : Sep w0 W (wrT gx ge gd 0 (encB easySL) 1 ++ dkT gd (easyD.put 0 (encB easySL)) :: M)) => Sep.step1 h)
  have HRS := Aside0.mk (fun W (M : List Th) gd (h : Sep w0 W (dkT gd easyD2 :: M)) => (show Calls Tryd.prog 28 #[.pointer (some ⟨gd, 0, none⟩)] W (fun e w' => e = .returned (.tuple #[.agg easySL.V.toArray, .int .i64 0]) ∧ Sep w0 w' (dkT gd (easyD2.readsJ 2) :: M)) from by
    have h3 := Sep.readSlot h hH (show 2 ≤ 40 by decide) easy_bytes easy_len
    rw [show ((easyD2.n : Nat) : Int) = 40 from rfl, easy_read.1, easy_read.2] at h3
    exact h3))
  have HSZ := Aside0.mk (show (Tryd.prog.info? 27).map (·.size) = some easySL.V.toArray.size from size27 (by simpa using SL.V_len easy_ok))
  have hz := (zero_of_info (P := Tryd.prog) (t := 27) (v := .agg noSL.V.toArray) (n := 105) (by kernel_rfl)).1
  have HQ := Aside0.mk (show noSL.V.toArray.size = easySL.V.toArray.size from by simp only [List.size_toArray]; rw [SL.V_len noSL_ok, SL.V_len easy_ok])
  have HA := Aside0.mk (SL.V_all easySL)
  have HES := Aside0.mk (fun W (M : List Th) (h : Sep w0 W M) => Sep.easy h)
  have HEQ := Aside0.mk (fun W => eql_slot easy_ok W)
  have HLV := Aside0.mk (fun W (M : List Th) g (h : Sep w0 W (cellsT g easySL.V.toArray 27 :: M)) => (show ∀ j v, easySL.V.toArray.toList[j]? = some v → W.cell? ((⟨g, 0, none⟩ : Addr).add j) = some v from fun j v hv => seg_at h.cells.1 0 easySL.V (by rw [List.drop_zero]; exact List.take_of_length_le (Nat.le_refl _)) j v (by simpa using hv)))
  clear h hH
  generalize easySL.V.toArray = E at HWR HRS HSZ HQ HA HES HEQ HLV ⊢
  generalize noSL.V.toArray = Z at hz HQ
  generalize hEB : encB easySL = eb at HWR HT0 HT1
  have HEB := Aside0.mk hEB
  clear hEB
  generalize hD0 : easyD = D0 at HNW HWR HT0 HT1
  have HD0 := Aside0.mk hD0
  clear hD0
  have HD2 := Aside0.mk (show (D0.put 0 eb).flush = easyD2 from by rw [← HD0.out, ← HEB.out]; rfl)
  generalize easyD2 = D2 at HRS HD2
  generalize D0.put 0 eb = D1 at HT0 HT1 HD2
  generalize D1.flush = D1f at HT1 HD2
  have hd2 := HD2.out
  clear HD2
  subst hd2
  go_enter Tryd.func31, Tryd.ntmps31
  go_upto_region 2 with (go_at_call 15; (with_reducible refine (HNW.out _ _ HS0.out).mono ?_); rintro e w1 ⟨gd, rfl, h1⟩; have HS1 := Aside0.mk h1; clear h1 HS0)
  go_upto_region 3 with (first
    | (go_at_call 55; (with_reducible refine (HES.out _ _ HS1.out).mono ?_); rintro e w2 ⟨rfl, h2⟩; have HS2 := Aside0.mk h2; clear h2 HS1)
    | ((with_reducible refine gate_store (ty := 27) rfl ?_); refine Sep.store_own rfl 27 _ _ rfl rfl rfl (HS2.out.push_alloc Z 27) HSZ.out HQ.out HA.out ?_; intro w3 h3; have HS3 := Aside0.mk h3; clear h3))
  generalize w2.heap.size = g3 at HS3 ⊢
  clear HS2
  go_upto_region 4 with (first
    | ((with_reducible refine gate_load (ty := 27) rfl ?_); refine wpList_ldw ?_ 27 _ rfl ⟨g3, 0, none⟩ ?_ E _ (HLV.out _ _ _ HS3.out) Tryd.underlying27 rfl HSZ.out ?_; exact rfl; exact rfl; skip)
    | (go_at_call 17; (with_reducible refine (HWR.out _ _ _ HS3.out.up1).mono ?_); rintro e w4 ⟨gx, ge, rfl, h4⟩; have HS4 := Aside0.mk h4; clear h4 HS3))
  go_upto_region 7 with (go_at_call 19; (with_reducible refine (HT0.out _ _ _ _ _ HS4.out).mono ?_); rintro e w5 ⟨rfl, h5⟩; have HS5 := Aside0.mk h5; clear h5 HS4)
  go_upto_region 8 with (go_at_call 19; (with_reducible refine (HT1.out _ _ _ _ _ HS5.out).mono ?_); rintro e w6 ⟨rfl, h6⟩; have HS6 := Aside0.mk (show Sep w0 w6 (dkT gd D1f :: cellsT g3 E 27 :: L) from h6.drop.drop); clear h6 HS5)
  go_upto_region 9 with (first
    | (go_at_call 28; (with_reducible refine (HRS.out _ _ _ HS6.out).mono ?_); rintro e w7 ⟨rfl, h7⟩; have HS7 := Aside0.mk h7; clear h7 HS6)
    | ((with_reducible refine gate_store (ty := 27) rfl ?_); refine Sep.store_own rfl 27 _ _ rfl rfl rfl (HS7.out.push_alloc Z 27) HSZ.out HQ.out HA.out ?_; intro w8 h8; have HS8 := Aside0.mk h8; clear h8))
  generalize w7.heap.size = g6 at HS8 ⊢
  clear HS7
  go_wp2_with (first
    | ((with_reducible refine gate_load (ty := 27) rfl ?_); refine wpList_ldw ?_ 27 _ rfl ⟨g6, 0, none⟩ ?_ E _ (HLV.out _ _ _ HS8.out) Tryd.underlying27 rfl HSZ.out ?_; exact rfl; exact rfl; skip)
    | ((with_reducible refine gate_load (ty := 27) rfl ?_); refine wpList_ldw ?_ 27 _ rfl ⟨g3, 0, none⟩ ?_ E _ (HLV.out _ _ _ HS8.out.up2) Tryd.underlying27 rfl HSZ.out ?_; exact rfl; exact rfl; skip)
    | ((with_reducible refine gate_eql (t := 27) rfl ?_); refine wpList_eqlw ?_ 27 27 _ _ rfl E ?_ ?_ guard27 (HEQ.out _) ?_; exact rfl; exact rfl; exact rfl; skip))
  go_ret
  exact ⟨rfl, HS8.out.drop.drop.drop⟩
end Go.Proofs.YtaflofcnjakaaaaDoor.M

namespace Go.Proofs.YtaflofcnjakaaaaDoor.M
open Go.RowKit Go.Maps Go.Proofs.YtaflofcnjakaaaaDoorW.PrintWords Go.Proofs.YtaflofcnjakaaaaDoorW.PrintLast Go.Proofs.YtaflofcnjakaaaaDoorW.PrintMore Go.Proofs.YtaflofcnjakaaaaDoor.Wr Go.Proofs.YtaflofcnjakaaaaDoor.Pl Go.Proofs.YtaflofcnjakaaaaDoor.P Go.Proofs.YtaflofcnjakaaaaDoor.A
set_option linter.unusedVariables false
set_option linter.unusedSimpArgs false
theorem ReadsB.cells {w0 : World} {L : List Th} {ge ty : Nat} {b : List Int} (hl : b.length = 512) : ReadsB w0 (cellsT ge (nums .u8 b).toArray ty :: L) (some ⟨ge, 0, none⟩) b := fun W M hs h =>
  C_segn (hs.sep h).cells.1 0 b 512 hl (by rw [List.drop_zero]; exact List.take_of_length_le (by rw [nums_length, hl]; exact Nat.le_refl _)) (by decide)
end Go.Proofs.YtaflofcnjakaaaaDoor.M

namespace Go.Proofs.YtaflofcnjakaaaaDoor.M
open Go.RowKit Go.Maps Go.Proofs.YtaflofcnjakaaaaDoorW.PrintWords Go.Proofs.YtaflofcnjakaaaaDoorW.PrintLast Go.Proofs.YtaflofcnjakaaaaDoorW.PrintMore Go.Proofs.YtaflofcnjakaaaaDoor.Wr Go.Proofs.YtaflofcnjakaaaaDoor.Pl Go.Proofs.YtaflofcnjakaaaaDoor.P Go.Proofs.YtaflofcnjakaaaaDoor.A
set_option linter.unusedVariables false
set_option linter.unusedSimpArgs false
def stepD (D : DS) (i : Nat) (b : List Int) : Nat → DS
  | 0 => D
  | 1 => D.put i b
  | _ => (D.put i b).flush
set_option maxHeartbeats 8000000 in
set_option maxRecDepth 100000 in
theorem Sep.writes {w0 w : World} {L : List Th} {gd i : Nat} {D : DS} (h : Sep w0 w (dkT gd D :: L)) (hH : Wr.Half w0) (s : SL) (hs : s.Ok) (hm : mayM s = true) (hsec : s.a = (D.n : Int)) (hi : s.c.tmod 2 = (i : Int)) (hiD : i < D.n) (hc : D.c < 1073741824) (k : Nat) (hk : k ≤ 3) :
    Calls Tryd.prog 33 #[.pointer (some ⟨gd, 0, none⟩), .agg s.V.toArray, .int .i64 (k : Int)] w fun e w' => e = .returned (.bool true) ∧ Sep w0 w' (dkT gd (stepD D i (encB s) k) :: L) := by
  have HS0 := Aside0.mk (h.push_alloc s.V.toArray 27)
  have HWR := Aside0.mk (fun W (M : List Th) (h : Sep w0 W (dkT gd D :: M)) => Sep.writer h hH s hs hm hsec)
  have HT0 := Aside0.mk (fun W (M : List Th) gx ge (h : Sep w0 W (wrT gx ge gd (s.c.tmod 2) (encB s) 0 ++ dkT gd (stepD D i (encB s) 0) :: M)) => (show Calls Tryd.prog 19 #[.pointer (some ⟨gx, 0, none⟩)] W (fun e w' => e = .returned (.tuple #[.bool false, .int .i64 0]) ∧ Sep w0 w' (wrT gx ge gd (s.c.tmod 2) (encB s) 1 ++ dkT gd (stepD D i (encB s) 1) :: M)) from Sep.step0 h hi hiD hc (encB_len hs)))
  have HT1 := Aside0.mk (fun W (M : List Th) gx ge (h : Sep w0 W (wrT gx ge gd (s.c.tmod 2) (encB s) 1 ++ dkT gd (stepD D i (encB s) 1) :: M)) => (show Calls Tryd.prog 19 #[.pointer (some ⟨gx, 0, none⟩)] W (fun e w' => e = .returned (.tuple #[.bool true, .int .i64 0]) ∧ Sep w0 w' (wrT gx ge gd (s.c.tmod 2) (encB s) 2 ++ dkT gd (stepD D i (encB s) 2) :: M)) from Sep.step1 h))
  have HT2 := Aside0.mk (fun W (M : List Th) gx ge (h : Sep w0 W (wrT gx ge gd (s.c.tmod 2) (encB s) 2 ++ M)) => Sep.step2 h)
  have H0 := Aside0.mk (show stepD D i (encB s) 0 = D from rfl)
  have H3 := Aside0.mk (show stepD D i (encB s) 3 = stepD D i (encB s) 2 from rfl)
  have HSZ := Aside0.mk (SlAt.sa hs)
  have HLV := Aside0.mk (fun W (M : List Th) g (h : Sep w0 W (cellsT g s.V.toArray 27 :: M)) => (show ∀ j v, s.V.toArray.toList[j]? = some v → W.cell? ((⟨g, 0, none⟩ : Addr).add j) = some v from fun j v hv => seg_at h.cells.1 0 s.V (by rw [List.drop_zero]; exact List.take_of_length_le (Nat.le_refl _)) j v (by simpa using hv)))
  clear h hH hs hm hsec hi hiD hc
  generalize s.V.toArray = V at HS0 HWR HSZ HLV ⊢
  generalize encB s = eb at HWR HT0 HT1 HT2 H0 H3 ⊢
  generalize s.c.tmod 2 = n at HWR HT0 HT1 HT2
  generalize stepD D i eb = E at HT0 HT1 H0 H3 ⊢
  have HK := Aside0.mk hk
  clear hk
  go_enter Tryd.func33, Tryd.ntmps33
  go_upto_region 1 with (fail)
  generalize w.alloc (.cells V 27) = w1 at HS0 ⊢
  generalize w.heap.size = g0 at HS0 ⊢
  go_upto_region 4 with (first
    | ((with_reducible refine gate_load (ty := 27) rfl ?_); refine wpList_ldw ?_ 27 _ rfl ⟨g0, 0, none⟩ ?_ V _ (HLV.out _ _ _ HS0.out) Tryd.underlying27 rfl HSZ.out ?_; exact rfl; exact rfl; skip)
    | (go_at_call 17; (with_reducible refine (HWR.out _ _ HS0.out.up1).mono ?_); rintro e w2 ⟨gx, ge, rfl, h2⟩; have HS2 := Aside0.mk (show Sep w0 w2 (wrT gx ge gd n eb 0 ++ dkT gd (E 0) :: cellsT g0 V 27 :: L) from by rw [H0.out]; exact h2); clear h2 HS0))
  clear HWR
  go_wp2
  go_loopg [9] 3 (fun kq v9 wr => ∃ j : Nat, v9 = .int .i64 j ∧ Aside0 (j ≤ k ∧ j + kq = 3) ∧ Aside0 (Sep w0 wr (wrT gx ge gd n eb (if j = 0 then 0 else if j = 1 then 1 else 2) ++ dkT gd (E j) :: cellsT g0 V 27 :: L)))
  case atStart => exact ⟨0, rfl, ⟨⟨Nat.zero_le _, rfl⟩⟩, HS2⟩
  case round =>
    obtain ⟨j, rfl, HJ, hS⟩ := hrel
    by_cases hj : j < k
    · have hjj : j = 0 ∨ j = 1 ∨ j = 2 := by have := HK.out; omega
      rcases hjj with rfl | rfl | rfl
      · have hjk : (0 : Int) < (k : Int) := by omega
        have t0 : decide ((0 : Int) < (k : Int)) = true := decide_eq_true hjk
        have HLT := Aside0.mk hj
        clear HS2
        go_wp2_with (go_at_call 19; (with_reducible refine (HT0.out _ _ _ _ hS.out).mono ?_); rintro e w5 ⟨rfl, h5⟩; have HS5 := Aside0.mk h5; clear h5)
        go_roundg (gk - 1)
        case measure => have := HJ.out; omega
        case rel => exact ⟨1, rfl, ⟨by have := HJ.out; have := HLT.out; omega⟩, ⟨HS5.out⟩⟩
      · have hjk : (1 : Int) < (k : Int) := by omega
        have t0 : decide ((1 : Int) < (k : Int)) = true := decide_eq_true hjk
        have HLT := Aside0.mk hj
        clear HS2
        go_wp2_with (go_at_call 19; (with_reducible refine (HT1.out _ _ _ _ hS.out).mono ?_); rintro e w5 ⟨rfl, h5⟩; have HS5 := Aside0.mk h5; clear h5)
        go_roundg (gk - 1)
        case measure => have := HJ.out; omega
        case rel => exact ⟨2, rfl, ⟨by have := HJ.out; have := HLT.out; omega⟩, ⟨HS5.out⟩⟩
      · have hjk : (2 : Int) < (k : Int) := by omega
        have t0 : decide ((2 : Int) < (k : Int)) = true := decide_eq_true hjk
        have HLT := Aside0.mk hj
        clear HS2
        go_wp2_with (go_at_call 19; (with_reducible refine (HT2.out _ _ _ _ hS.out).mono ?_); rintro e w5 ⟨rfl, h5⟩; subst h5)
        go_roundg (gk - 1)
        case measure => have := HJ.out; omega
        case rel => exact ⟨3, rfl, ⟨by have := HJ.out; have := HLT.out; omega⟩, ⟨by rw [H3.out]; exact hS.out⟩⟩
    · have hjk : j = k := by have := HJ.out; omega
      subst hjk
      have t0 : decide ((j : Int) < (j : Int)) = false := decide_eq_false (by omega)
      clear hj HS2
      go_wp2
      go_ret
      exact ⟨rfl, hS.out.drop.drop.up1.drop⟩
end Go.Proofs.YtaflofcnjakaaaaDoor.M

namespace Go.Proofs.YtaflofcnjakaaaaDoor.M
open Go.RowKit Go.Maps Go.Proofs.YtaflofcnjakaaaaDoorW.PrintWords Go.Proofs.YtaflofcnjakaaaaDoorW.PrintLast Go.Proofs.YtaflofcnjakaaaaDoorW.PrintMore Go.Proofs.YtaflofcnjakaaaaDoor.Wr Go.Proofs.YtaflofcnjakaaaaDoor.Pl Go.Proofs.YtaflofcnjakaaaaDoor.P Go.Proofs.YtaflofcnjakaaaaDoor.A
set_option linter.unusedVariables false
set_option linter.unusedSimpArgs false
theorem part_u8 (l : List Int) (W : World) (i : Nat) (h : i < l.length) : (Go.part 5 (nums .u8 l).toArray (i * 1)).run Tryd.prog W = .ok (.int .u8 (l.getD i 0)) W := by
  have hu : Tryd.prog.underlying 5 = some (.int .u8) := by kernel_rfl
  have hagg : (isAgg 5).run Tryd.prog W = .ok false W := by
    unfold isAgg
    rw [Sem.run_bind, run_underlying hu W]
    simp
  unfold Go.part
  rw [Sem.run_bind, hagg]
  simp only [Result.andThen_ok, Nat.mul_one, Bool.false_eq_true, if_false]
  have e : (nums .u8 l).toArray[i]? = some (.int .u8 (l.getD i 0)) := by
    unfold nums
    simp [List.getElem?_eq_getElem h]
  rw [e]
  simp
theorem eqItems_any (d : Nat) (l m : List Int) (W : World) : ∀ is : List Nat, (∀ i, i ∈ is → i < l.length ∧ i < m.length) → ∃ b, (Op.eqItems (d + 1) 5 1 (nums .u8 l).toArray (nums .u8 m).toArray is).run Tryd.prog W = .ok b W
  | [], _ => ⟨true, by simp [Op.eqItems]⟩
  | i :: is, h => by
    have hu : Tryd.prog.underlying 5 = some (.int .u8) := by kernel_rfl
    have he : (Op.equalIn (d + 1) 5 (.int .u8 (l.getD i 0)) (.int .u8 (m.getD i 0))).run Tryd.prog W = .ok (l.getD i 0 == m.getD i 0) W := by
      simp [Op.equalIn, Sem.run_bind, run_underlying hu]
    have hi := h i (by simp)
    obtain ⟨b, hb⟩ := eqItems_any d l m W is (fun j hj => h j (by simp [hj]))
    simp only [Op.eqItems, Sem.run_bind, part_u8 l W i hi.1, part_u8 m W i hi.2, he, Result.andThen_ok]
    cases (l.getD i 0 == m.getD i 0) with
    | true => exact ⟨b, by simpa using hb⟩
    | false => exact ⟨false, by simp⟩
theorem eq_key_any (d : Nat) (l m : List Int) (hl : l.length = 32) (hm : m.length = 32) (W : World) : ∃ b, (Op.equalIn (d + 2) 23 (.agg (nums .u8 l).toArray) (.agg (nums .u8 m).toArray)).run Tryd.prog W = .ok b W := by
  obtain ⟨i, hi, _, hsz, _⟩ := info_parts info_u8
  have hc : Tryd.prog.cellsOf 5 = 1 := by kernel_rfl
  rw [run_equalIn_array W (d + 1) (t := 23) (e := 5) (n := 32) (nums .u8 l).toArray (nums .u8 m).toArray Tryd.underlying23 hi, hc]
  exact eqItems_any d l m W _ (fun j hj => by rw [hl, hm]; exact ⟨List.mem_range.1 hj, List.mem_range.1 hj⟩)
theorem eqFields_any (d : Nat) (xs ys : Array Value) (W : World) : ∀ fs : List Field, (∀ f ∈ fs, ∃ u v b, (part f.type xs f.offset).run Tryd.prog W = .ok u W ∧ (part f.type ys f.offset).run Tryd.prog W = .ok v W ∧ (Op.equalIn d f.type u v).run Tryd.prog W = .ok b W) → ∃ b, (Op.eqFields d xs ys fs).run Tryd.prog W = .ok b W
  | [], _ => ⟨true, by simp [Op.eqFields]⟩
  | f :: fs, h => by
    obtain ⟨u, v, b, hp, hq, he⟩ := h f (by simp)
    obtain ⟨r, hr⟩ := eqFields_any d xs ys W fs (fun g hg => h g (by simp [hg]))
    unfold Op.eqFields
    rw [Sem.run_ite]
    split
    · simp only [Sem.run_bind, hp, hq, he, Result.andThen_ok]
      cases b with
      | true => exact ⟨r, by simpa using hr⟩
      | false => exact ⟨false, by simp⟩
    · exact ⟨r, hr⟩
theorem eq_int_any (d : Nat) (n m : Int) (W : World) : (Op.equalIn (d + 1) 3 (.int .i64 n) (.int .i64 m)).run Tryd.prog W = .ok (n == m) W := by
  have hu : Tryd.prog.underlying 3 = some (.int .i64) := by kernel_rfl
  simp [Op.equalIn, Sem.run_bind, run_underlying hu]
theorem eq_ref_any (d : Nat) {h h' : List Int} (hh : h.length = 32) (hh' : h'.length = 32) (f l f' l' : Int) (W : World) : ∃ b, (Op.equalIn (d + 3) 25 (.agg (refV h f l).toArray) (.agg (refV h' f' l').toArray)).run Tryd.prog W = .ok b W := by
  rw [run_equalIn_struct W (d + 2) 25 _ _ (by kernel_rfl) (by kernel_rfl)]
  refine eqFields_any (d + 2) _ _ W _ (fun fl hf => ?_)
  have hm : (fl.type, fl.offset) ∈ (Tryd.prog.fieldsOf 25).toList.map (fun f => (f.type, f.offset)) := List.mem_map.2 ⟨fl, hf, rfl⟩
  rw [flds25] at hm
  simp only [List.mem_cons, List.not_mem_nil, or_false, Prod.mk.injEq] at hm
  have r32 := refV_f hh f l []
  have r33 := refV_l hh f l []
  have q32 := refV_f hh' f' l' []
  have q33 := refV_l hh' f' l' []
  rw [List.append_nil] at r32 r33 q32 q33
  rcases hm with ⟨e1, e2⟩ | ⟨e1, e2⟩ | ⟨e1, e2⟩ <;> rw [e1, e2]
  · obtain ⟨b, hb⟩ := eq_key_any d h h' hh hh' W
    exact ⟨_, _, b, part_agg (ys := nums .u8 h) W Tryd.underlying23 rfl (size23 (by rw [nums_length, hh])) (by rw [List.drop_zero]; unfold refV; exact take_app rfl), part_agg (ys := nums .u8 h') W Tryd.underlying23 rfl (size23 (by rw [nums_length, hh'])) (by rw [List.drop_zero]; unfold refV; exact take_app rfl), hb⟩
  · exact ⟨_, _, _, part_int W r32, part_int W q32, eq_int_any (d + 1) f f' W⟩
  · exact ⟨_, _, _, part_int W r33, part_int W q33, eq_int_any (d + 1) l l' W⟩
theorem eq_slot_any (d : Nat) {s t : SL} (hs : s.Ok) (ht : t.Ok) (W : World) : ∃ b, (Op.equalIn (d + 4) 27 (.agg s.V.toArray) (.agg t.V.toArray)).run Tryd.prog W = .ok b W := by
  rw [run_equalIn_struct W (d + 3) 27 _ _ (by kernel_rfl) (by kernel_rfl)]
  refine eqFields_any (d + 3) _ _ W _ (fun fl hf => ?_)
  have hm : (fl.type, fl.offset) ∈ (Tryd.prog.fieldsOf 27).toList.map (fun f => (f.type, f.offset)) := List.mem_map.2 ⟨fl, hf, rfl⟩
  rw [flds27] at hm
  simp only [List.mem_cons, List.not_mem_nil, or_false, Prod.mk.injEq] at hm
  rcases hm with ⟨e1, e2⟩ | ⟨e1, e2⟩ | ⟨e1, e2⟩ | ⟨e1, e2⟩ | ⟨e1, e2⟩ | ⟨e1, e2⟩ | ⟨e1, e2⟩ | ⟨e1, e2⟩ <;> rw [e1, e2]
  · exact ⟨_, _, _, part_int W s.V0, part_int W t.V0, eq_int_any (d + 2) _ _ W⟩
  · exact ⟨_, _, _, part_int W s.V1, part_int W t.V1, eq_int_any (d + 2) _ _ W⟩
  · exact ⟨_, _, _, part_int W s.V2, part_int W t.V2, eq_int_any (d + 2) _ _ W⟩
  · exact ⟨_, _, _, part_int W s.V3, part_int W t.V3, eq_int_any (d + 2) _ _ W⟩
  · exact ⟨_, _, _, part_int W s.V4, part_int W t.V4, eq_int_any (d + 2) _ _ W⟩
  · obtain ⟨b, hb⟩ := eq_key_any (d + 1) s.key t.key hs.k ht.k W
    exact ⟨_, _, b, part_agg (ys := nums .u8 s.key) W Tryd.underlying23 rfl (size23 (by rw [nums_length, hs.k])) (by have := SL.V_key hs; rwa [nums_length]), part_agg (ys := nums .u8 t.key) W Tryd.underlying23 rfl (size23 (by rw [nums_length, ht.k])) (by have := SL.V_key ht; rwa [nums_length]), hb⟩
  · obtain ⟨b, hb⟩ := eq_ref_any d hs.r ht.r s.rf s.rl t.rf t.rl W
    exact ⟨_, _, b, part_agg (ys := refV s.rh s.rf s.rl) W Tryd.underlying25 rfl (size25 (refV_len hs.r _ _)) (SL.V_root hs), part_agg (ys := refV t.rh t.rf t.rl) W Tryd.underlying25 rfl (size25 (refV_len ht.r _ _)) (SL.V_root ht), hb⟩
  · obtain ⟨b, hb⟩ := eq_ref_any d hs.m ht.m s.mf s.ml t.mf t.ml W
    exact ⟨_, _, b, part_agg (ys := refV s.mh s.mf s.ml) W Tryd.underlying25 rfl (size25 (refV_len hs.m _ _)) (SL.V_memo hs), part_agg (ys := refV t.mh t.mf t.ml) W Tryd.underlying25 rfl (size25 (refV_len ht.m _ _)) (SL.V_memo ht), hb⟩
theorem eql_any {s t : SL} (hs : s.Ok) (ht : t.Ok) (W : World) : ∃ b, (Op.equalIn 10000 27 (.agg s.V.toArray) (.agg t.V.toArray)).run Tryd.prog W = .ok b W := eq_slot_any 9996 hs ht W
section
variable {P : Program} {ops : Array Oper} {rest : List Oper} {o : Oper} {a : Act} {w : World} {Q : Exit → Act → World → Prop}
theorem gate_neq {t t2 : TypeId} {x y : Operand} (_ho : o.op = .binOp .neq t x y t2) (h : wpList P ops Q (o :: rest) a w) : wpList P ops Q (o :: rest) a w := h
theorem wpList_neqw (hw : Region.wanted o (yielded ops a.tmps) = true) (t t2 : TypeId) (x y : Operand) (ho : o.op = .binOp .neq t x y t2) (cs ds : Array Value) (hx : a.eval x = .agg cs) (hy : a.eval y = .agg ds) (hg : P.eqGuardType P.depth t = false) (b : Bool)
    (he : (Op.equalIn 10000 t (.agg cs) (.agg ds)).run P w = .ok b w) (h : wpList P ops Q rest (a.put o.dst (.bool (!b))) w) : wpList P ops Q (o :: rest) a w :=
  wpList_step fun K hK => by
    rw [if_pos hw]
    unfold Oper.wp execOp
    have hb : (binOp .neq t (.agg cs) (.agg ds)).run P w = .ok (.bool (!b)) w := by rw [run_neq_struct, he]; rfl
    have hgd : (eqGuard .neq t x y (.agg cs) (.agg ds)).run P w = .ok () w := run_eqGuard_agg w .neq t x y cs ds hg
    simp only [ho, hx, hy, Sem.run_bind, hgd, hb, Result.andThen_ok, Sem.run_pure]
    exact hK _ _ h
end
end Go.Proofs.YtaflofcnjakaaaaDoor.M

namespace Go.Proofs.YtaflofcnjakaaaaDoor.M
open Go.RowKit Go.Maps Go.Proofs.YtaflofcnjakaaaaDoorW.PrintWords Go.Proofs.YtaflofcnjakaaaaDoorW.PrintLast Go.Proofs.YtaflofcnjakaaaaDoorW.PrintMore Go.Proofs.YtaflofcnjakaaaaDoor.Wr Go.Proofs.YtaflofcnjakaaaaDoor.Pl Go.Proofs.YtaflofcnjakaaaaDoor.P Go.Proofs.YtaflofcnjakaaaaDoor.A
set_option linter.unusedVariables false
set_option linter.unusedSimpArgs false
theorem pick_ge (N n : Int) (b s : SL) (e : Int) : b.c ≤ (pickS N n b s e).c := by
  unfold pickS
  split
  · rename_i h; omega
  · exact Int.le_refl _
theorem pick_val {N n : Int} (b : SL) {s : SL} {e : Int} (he : e = 0) (ha : s.a = N) (hp : s.c.tmod 2 = n) : s.c ≤ (pickS N n b s e).c := by
  unfold pickS
  split
  · exact Int.le_refl _
  · rename_i h
    by_cases hx : b.c < s.c
    · exact absurd ⟨he, ha, hp, hx⟩ h
    · omega
theorem best_two (N : Int) (cur : Nat → List Int) : bestJ N cur 2 = pickS N 1 (pickS N 0 startSL (decS (cur 0)) (decE (cur 0))) (decS (cur 1)) (decE (cur 1)) := rfl
theorem best_new {N : Int} {cur cur' : Nat → List Int} {s t : SL} (hb : bestJ N cur 2 = s) (ht : t.Ok) (hm : t.May) (hta : t.a = N) (hc : s.c < t.c) {i : Nat} (hi : i < 2) (hp : t.c.tmod 2 = (i : Int)) (h1 : cur' i = encB t) (h2 : ∀ j, j < 2 → j ≠ i → cur' j = cur j) : bestJ N cur' 2 = t := by
  have hy := decS_yes (dec_enc ht hm)
  have htc := hm.c
  rw [best_two] at hb ⊢
  rcases (show i = 0 ∨ i = 1 by omega) with rfl | rfl
  · rw [h1, h2 1 (by decide) (by decide), hy.1, hy.2]
    have e1 : pickS N 0 startSL t 0 = t := by
      unfold pickS
      rw [if_pos ⟨rfl, hta, hp, by show (-1 : Int) < t.c; omega⟩]
    rw [e1]
    unfold pickS
    rw [if_neg]
    rintro ⟨g1, g2, g3, g4⟩
    have := pick_val (pickS N 0 startSL (decS (cur 0)) (decE (cur 0))) g1 g2 g3
    rw [hb] at this
    omega
  · rw [h1, h2 0 (by decide) (by decide), hy.1, hy.2]
    have g := pick_ge N 1 (pickS N 0 startSL (decS (cur 0)) (decE (cur 0))) (decS (cur 1)) (decE (cur 1))
    rw [hb] at g
    generalize pickS N 0 startSL (decS (cur 0)) (decE (cur 0)) = B at g
    unfold pickS
    rw [if_pos ⟨rfl, hta, hp, by omega⟩]
theorem best_cur {N : Int} {cur cur' : Nat → List Int} (h : ∀ j, j < 2 → cur' j = cur j) : bestJ N cur' 2 = bestJ N cur 2 := by
  rw [best_two, best_two, h 0 (by decide), h 1 (by decide)]
structure RowAt (N : Nat) (D : DS) (s : SL) : Prop where
  n : D.n = N
  n2 : 40 ≤ N
  L : D.L.length = N
  w : ∀ j, D.W j = []
  c : D.c = 0
  y : ∀ j, bytes_ (D.cur j)
  l : ∀ j, j < 2 → (D.cur j).length = 512
  ok : s.Ok
  may : s.May
  sa : s.a = (N : Int)
  best : bestJ (N : Int) D.cur 2 = s
theorem RowAt.reads {N : Nat} {D : DS} {s : SL} (h : RowAt N D s) : readS (D.n : Int) D.cur = s ∧ readE (D.n : Int) D.cur = 0 := by
  have hc := h.may.c
  unfold readS readE
  rw [h.n, h.best]
  exact ⟨if_neg (by omega), if_neg (by omega)⟩
theorem RowAt.readsJ {N : Nat} {D : DS} {s : SL} (h : RowAt N D s) : RowAt N (D.readsJ 2) s :=
  ⟨h.n, h.n2, h.L, h.w, h.c, h.y, h.l, h.ok, h.may, h.sa, h.best⟩
theorem RowAt.same {N : Nat} {D D' : DS} {s : SL} (h : RowAt N D s) (hn : D'.n = N) (hL : D'.L.length = N) (hw : ∀ j, D'.W j = []) (hc : D'.c = 0) (hy : ∀ j, bytes_ (D'.cur j)) (hcur : ∀ j, j < 2 → D'.cur j = D.cur j) : RowAt N D' s :=
  ⟨hn, h.n2, hL, hw, hc, hy, fun j hj => by rw [hcur j hj]; exact h.l j hj, h.ok, h.may, h.sa, by rw [best_cur hcur]; exact h.best⟩
theorem RowAt.new {N : Nat} {D D' : DS} {s t : SL} (h : RowAt N D s) (ht : t.Ok) (hm : t.May) (hta : t.a = (N : Int)) (hlt : s.c < t.c) {i : Nat} (hi : i < 2) (hp : t.c.tmod 2 = (i : Int)) (hn : D'.n = N) (hL : D'.L.length = N) (hw : ∀ j, D'.W j = []) (hc : D'.c = 0) (hy : ∀ j, bytes_ (D'.cur j)) (h1 : D'.cur i = encB t) (h2 : ∀ j, j < 2 → j ≠ i → D'.cur j = D.cur j) : RowAt N D' t :=
  ⟨hn, h.n2, hL, hw, hc, hy, fun j hj => by
    by_cases hji : j = i
    · subst hji; rw [h1]; exact encB_len ht
    · rw [h2 j hj hji]; exact h.l j hj, ht, hm, hta, best_new h.best ht hm hta hlt hi hp h1 h2⟩
theorem getD_set_same {α : Type} (l : List α) (i : Nat) (b d : α) (h : i < l.length) : (l.set i b).getD i d = b := by
  rw [List.getD_eq_getElem?_getD, List.getElem?_set_self h]; rfl
theorem getD_set_ne {α : Type} (l : List α) {i j : Nat} (b d : α) (h : i ≠ j) : (l.set i b).getD j d = l.getD j d := by
  rw [List.getD_eq_getElem?_getD, List.getElem?_set_ne h, ← List.getD_eq_getElem?_getD]
theorem cur_L {D : DS} (h : ∀ j, D.W j = []) (j : Nat) : D.cur j = D.L.getD j [] := by unfold DS.cur; rw [h j]; rfl
theorem crash_none {D : DS} (h : ∀ j, D.W j = []) (fs : List Int) : (D.crash fs).L = D.L := by
  have hk : D.keysN = [] := by
    unfold DS.keysN
    rw [List.filter_eq_nil_iff]
    intro a _
    simp [h a]
  show crashL D fs (min D.keysN.length fs.length) = D.L
  rw [hk]
  simp [crashL]
theorem crash_one {D : DS} (h : ∀ j, D.W j = []) {i : Nat} (hi : i < D.n) (b : List Int) (fs : List Int) : ((D.put i b).crash fs).L = D.L ∨ ((D.put i b).crash fs).L = D.L.set i b := by
  have hW : (D.put i b).W i = [b] := by unfold DS.put; simp [h i]
  have hWn : ∀ j, j ≠ i → (D.put i b).W j = [] := fun j hj => by unfold DS.put; simp [hj, h j]
  have hk : (D.put i b).keysN = [i] := by
    have hm : ∀ j, j ∈ (D.put i b).keysN ↔ j = i := fun j => by
      rw [DS.mem_keysN]
      constructor
      · rintro ⟨_, h2⟩
        by_cases hj : j = i
        · exact hj
        · exact absurd (hWn j hj) h2
      · rintro rfl
        exact ⟨hi, by rw [hW]; simp⟩
    have hr := DS.keysN_rising (D.put i b)
    cases hks : (D.put i b).keysN with
    | nil => have := (hm i).2 rfl; rw [hks] at this; cases this
    | cons x l =>
      have hx : x = i := (hm x).1 (by rw [hks]; simp)
      cases l with
      | nil => rw [hx]
      | cons z l =>
        have hz : z = i := (hm z).1 (by rw [hks]; simp)
        rw [hks] at hr
        have := (List.pairwise_cons.1 hr).1 z (by simp)
        omega
  show crashL (D.put i b) fs (min (D.put i b).keysN.length fs.length) = D.L ∨ crashL (D.put i b) fs (min (D.put i b).keysN.length fs.length) = D.L.set i b
  rw [hk]
  cases fs with
  | nil => exact .inl rfl
  | cons f fs =>
    rw [show min [i].length (f :: fs).length = 1 by simp]
    unfold crashL crashL
    rw [hk]
    split
    · right
      rename_i hf
      have e : (min f (1 : Int)).toNat - 1 = 0 := by omega
      show (D.put i b).L.set i (((D.put i b).W i).getD ((min f (((D.put i b).W i).length : Int)).toNat - 1) []) = _
      rw [hW]
      show D.L.set i ([b].getD ((min f (1 : Int)).toNat - 1) []) = _
      have h2 : (min f (1 : Int)).toNat - 1 = 0 := by omega
      rw [h2]
      rfl
    · left; rfl
end Go.Proofs.YtaflofcnjakaaaaDoor.M

namespace Go.Proofs.YtaflofcnjakaaaaDoor.BulkW
open Go.ChangeShapes Go.WideShapes Go.Proofs.YtaflofcnjakaaaaDoorW.PrintWords
set_option linter.unusedVariables false
section
variable {H : Type} (enc : TypeId × Value → H) (P : Program) (W : World) (base : Nat) (spare : Nat → Bool) (held : Bool)
def Opens {α : Type} (t : TypeId) (d : Kd α) (Ok : α → Prop) : Prop :=
  ∀ (fuel : Nat) (cs : List Value) (x : DataW H × List MemPlace), DataW.trod enc P W base spare held fuel t cs = some x → (∀ n ∈ x.1.weights P t, n ≤ reachBytes) → ∃ y, d.K W y cs ∧ Ok y
variable {enc P W base spare held}
theorem opens_int {t : TypeId} {k : IntKind} (ht : P.underlying t = some (.int k)) : Opens enc P W base spare held t (Kd.int k) (fun y => (Lit.int k y).wf = true) := by
  intro fuel cs x h _
  obtain ⟨n, rfl, rfl, hw⟩ := DataW.trod_int ht h
  exact ⟨n, rfl, hw⟩
theorem cells_of {a : Addr} {n : Nat} {cs : List Value} (h : W.cells? base a n = some cs) : cs.length = n ∧ ∀ i u, cs[i]? = some u → W.cell? (a.add i) = some u := by
  obtain ⟨_, hl, hc⟩ := World.cells?_some h
  refine ⟨hl, fun i u hu => ?_⟩
  have hi : i < cs.length := (List.getElem?_eq_some_iff.1 hu).1
  rw [hc i (by omega), hu]
theorem in_all {P : Program} {e : TypeId} {n : Nat} : ∀ {l : List (DataW H)} {d : DataW H}, d ∈ l → n ∈ d.weights P e → n ∈ DataW.weightsAll P e l
  | x :: r, d, hd, hn => by
    unfold DataW.weightsAll
    rcases List.mem_cons.1 hd with rfl | hd
    · exact List.mem_append_left _ hn
    · exact List.mem_append_right _ (in_all hd hn)
theorem opens_slice {α : Type} {t e q : TypeId} {d : Kd α} {Ok : α → Prop} (ht : P.underlying t = some (.slice e)) (hc : P.cellsOf e = d.sz)
    (he : Opens enc P W base spare held e d Ok) :
    Opens enc P W base spare held t (Kd.slice q d) (fun ys => ys.length * P.bytesOf e ≤ reachBytes ∧ ∀ y ∈ ys, Ok y) := by
  intro fuel cs x h hwt
  rcases DataW.trod_slice ht h with ⟨rfl, rfl⟩ | ⟨a, len, cap, elems, rest, n, _, rfl, rfl, hb, hl, hmax, hlen, hel, _, _⟩
  · refine ⟨[], ⟨none, 0, rfl, Nat.le_refl _, rfl, Nat.zero_le _, fun h => absurd h (Nat.lt_irrefl _)⟩, by simp, fun y hy => by cases hy⟩
  · have hw1 : ∀ n ∈ ((elems.map (·.1)).length + (rest.map (·.1)).length) * P.bytesOf e :: (DataW.weightsAll P e (elems.map (·.1)) ++ DataW.weightsAll P e (rest.map (·.1))), n ≤ reachBytes := by
      have h1 := hwt
      dsimp only at h1
      unfold DataW.weights at h1
      rw [ht] at h1
      exact h1
    have each : ∀ i (hi : i < elems.length), ∃ y, (∃ c, c.length = d.sz ∧ d.K W y c ∧ ∀ j u, c[j]? = some u → W.cell? (a.add (i * d.sz + j)) = some u) ∧ Ok y := by
      intro i hi
      have h1 := hel i (by omega)
      rw [List.getElem?_eq_getElem hi, Option.bind_eq_some_iff] at h1
      obtain ⟨c, h2, h3⟩ := h1
      obtain ⟨y, hk, hok⟩ := he _ _ _ h3 (fun n hn => hw1 n (List.mem_cons_of_mem _ (List.mem_append_left _ (in_all (List.mem_map.2 ⟨elems[i], List.getElem_mem hi, rfl⟩) hn))))
      obtain ⟨hcl, hcell⟩ := cells_of h2
      rw [hc] at hcl hcell
      refine ⟨y, ⟨c, hcl, hk, fun j u hu => ?_⟩, hok⟩
      have := hcell j u hu
      rwa [Addr.add_add] at this
    have all : ∀ m, m ≤ elems.length → ∃ ys : List α, ys.length = m ∧ ∀ i y, ys[i]? = some y → (∃ c, c.length = d.sz ∧ d.K W y c ∧ ∀ j u, c[j]? = some u → W.cell? (a.add (i * d.sz + j)) = some u) ∧ Ok y := by
      intro m
      induction m with
      | zero => intro _; exact ⟨[], rfl, fun i y hy => by simp at hy⟩
      | succ m ih =>
        intro hm1
        obtain ⟨ys, hys, hall⟩ := ih (by omega)
        obtain ⟨y, hy, hoky⟩ := each m (by omega)
        refine ⟨ys ++ [y], by simp [hys], fun i z hz => ?_⟩
        by_cases hi : i < m
        · rw [List.getElem?_append_left (by omega)] at hz
          exact hall i z hz
        · have hi2 : i < (ys ++ [y]).length := (List.getElem?_eq_some_iff.1 hz).1
          simp [hys] at hi2
          obtain rfl : i = m := by omega
          rw [List.getElem?_append_right (by omega), hys] at hz
          simp at hz
          subst hz
          exact ⟨hy, hoky⟩
    obtain ⟨ys, hys, hall⟩ := all elems.length (Nat.le_refl _)
    refine ⟨ys, ⟨some a, cap, by rw [hys, hlen], by omega, rfl, ?_, fun _ => ⟨a, rfl, fun j p hp => (hall j p hp).1⟩⟩, ?_, fun y hy => ?_⟩
    · rw [hys, hlen]
      have : (maxLen : Nat) ≤ 9223372036854775807 := by decide
      omega
    · have h1 := hw1 _ List.mem_cons_self
      rw [List.length_map, List.length_map] at h1
      rw [hys]
      exact Nat.le_trans (Nat.mul_le_mul_right _ (Nat.le_add_right _ _)) h1
    · obtain ⟨i, hi⟩ := List.getElem?_of_mem hy
      exact (hall i y hi).2
theorem arg_full {α : Type} {t q : TypeId} {d : Kd α} {Ok : List α → Prop} {a : Option Addr} {len cap : Nat} {dd : DataW H} {ps : List MemPlace}
    (hs : Opens enc P W base spare held t (Kd.slice q d) Ok) (h : DataW.Trod enc P W base spare held t (.slice a len cap) dd ps) (hw : ∀ n ∈ dd.weights P t, n ≤ reachBytes) : ∃ l, len = l.length ∧ l.length ≤ cap ∧ Kd.C d W a l.length l ∧ l.length ≤ 9223372036854775807 ∧ Ok l := by
  obtain ⟨fuel, hf⟩ := h
  obtain ⟨l, ⟨A, c, he, hl, hC⟩, hok⟩ := hs _ _ _ hf hw
  simp [Value.cells] at he
  obtain ⟨rfl, rfl, rfl⟩ := he
  exact ⟨l, rfl, hl, hC, hC.2.1, hok⟩
end
theorem weights_at {H : Type} {P : Program} : ∀ {ts : List TypeId} {ds : List (DataW H)}, (DataW.weightsEach P ts ds).all (· ≤ reachBytes) = true → ∀ (j : Nat) (t : TypeId) (d : DataW H), ts[j]? = some t → ds[j]? = some d → ∀ n ∈ d.weights P t, n ≤ reachBytes
  | t0 :: ts, d0 :: ds, h, j, t, d, ht, hd, n, hn => by
    unfold DataW.weightsEach at h
    rw [List.all_append, Bool.and_eq_true] at h
    cases j with
    | zero =>
      obtain rfl : t0 = t := Option.some.inj ht
      obtain rfl : d0 = d := Option.some.inj hd
      exact of_decide_eq_true (List.all_eq_true.1 h.1 n hn)
    | succ j => exact weights_at h.2 j t d ht hd n hn
  | [], _, _, j, t, d, ht, _, _, _ => by simp at ht
  | _ :: _, [], _, j, t, d, _, hd, _, _ => by simp at hd
end Go.Proofs.YtaflofcnjakaaaaDoor.BulkW

namespace Go.Proofs.YtaflofcnjakaaaaDoor.M
open Go.RowKit Go.Maps Go.Proofs.YtaflofcnjakaaaaDoorW.PrintWords Go.Proofs.YtaflofcnjakaaaaDoorW.PrintLast Go.Proofs.YtaflofcnjakaaaaDoorW.PrintMore
set_option linter.unusedVariables false
structure T79 where
  f0 : Int
  f1 : Int
  f2 : Int
  f3 : Int
  f4 : Int
  f5 : List Int
def z79 : T79 := ⟨0, 0, 0, 0, 0, []⟩
def k79 : Kd T79 := Kd.iso (Kd.pair (Kd.int .i64) (Kd.pair (Kd.int .i64) (Kd.pair (Kd.int .i64) (Kd.pair (Kd.int .i64) (Kd.pair (Kd.int .i64) (Kd.slice 3 (Kd.int .i64))))))) (fun x : T79 => (x.f0, x.f1, x.f2, x.f3, x.f4, x.f5))
theorem k79_open {w : World} {x : T79} {cs : List Value} (h : k79.K w x cs) : ∃ A5 c5, cs = [.int .i64 x.f0, .int .i64 x.f1, .int .i64 x.f2, .int .i64 x.f3, .int .i64 x.f4, .slice A5 x.f5.length c5] ∧ x.f5.length ≤ c5 ∧ (Kd.int .i64).C w A5 x.f5.length x.f5 := by
  obtain ⟨_, _, rfl, rfl, ⟨_, _, rfl, rfl, ⟨_, _, rfl, rfl, ⟨_, _, rfl, rfl, ⟨_, _, rfl, rfl, ⟨A5, c5, rfl, l5, g5⟩⟩⟩⟩⟩⟩ := h
  exact ⟨A5, c5, rfl, l5, g5⟩
theorem k79_mk (w : World) (x : T79) {A5 : Option Addr} {c5 : Nat} (l5 : x.f5.length ≤ c5) (g5 : (Kd.int .i64).C w A5 x.f5.length x.f5) : k79.K w x [.int .i64 x.f0, .int .i64 x.f1, .int .i64 x.f2, .int .i64 x.f3, .int .i64 x.f4, .slice A5 x.f5.length c5] :=
  ⟨[.int .i64 x.f0], _, rfl, rfl, ⟨[.int .i64 x.f1], _, rfl, rfl, ⟨[.int .i64 x.f2], _, rfl, rfl, ⟨[.int .i64 x.f3], _, rfl, rfl, ⟨[.int .i64 x.f4], _, rfl, rfl, ⟨A5, c5, rfl, l5, g5⟩⟩⟩⟩⟩⟩
theorem at_T79 {w : World} {A : Option Addr} {n : Nat} {xs : List T79} (h : Kd.C k79 w A n xs) (i : Nat) (h1 : i < n) : ∃ ad A5 c5, A = some ad ∧ w.cell? (ad.add (i * 6)) = some (.int .i64 (xs.getD i z79).f0) ∧ w.cell? (ad.add (i * 6 + 1)) = some (.int .i64 (xs.getD i z79).f1) ∧ w.cell? (ad.add (i * 6 + 2)) = some (.int .i64 (xs.getD i z79).f2) ∧ w.cell? (ad.add (i * 6 + 3)) = some (.int .i64 (xs.getD i z79).f3) ∧ w.cell? (ad.add (i * 6 + 4)) = some (.int .i64 (xs.getD i z79).f4) ∧ w.cell? (ad.add (i * 6 + 5)) = some (.slice A5 (xs.getD i z79).f5.length c5) ∧ (xs.getD i z79).f5.length ≤ c5 ∧ (Kd.int .i64).C w A5 (xs.getD i z79).f5.length (xs.getD i z79).f5 := by
  obtain ⟨ad, c, e, _, hK, hc0⟩ := Kd.C_get h z79 (i : Int) (by omega) (by omega)
  have hc : ∀ j u, c[j]? = some u → w.cell? (ad.add (i * 6 + j)) = some u := hc0
  obtain ⟨A5, c5, rfl, l5, g5⟩ := k79_open hK
  exact ⟨ad, A5, c5, e, hc 0 _ rfl, hc 1 _ rfl, hc 2 _ rfl, hc 3 _ rfl, hc 4 _ rfl, hc 5 _ rfl, l5, g5⟩
end Go.Proofs.YtaflofcnjakaaaaDoor.M
namespace Go.Proofs.YtaflofcnjakaaaaDoor.BulkW
open Go.ChangeShapes Go.WideShapes Go.Proofs.YtaflofcnjakaaaaDoorW.PrintWords Go.Proofs.YtaflofcnjakaaaaDoor.M
set_option linter.unusedVariables false
section
variable {H : Type} {enc : TypeId × Value → H} {W : World} {base : Nat} {spare : Nat → Bool} {held : Bool}
theorem opens_i64 : Opens enc Tryd.prog W base spare held 3 (Kd.int .i64) (fun y => (Lit.int .i64 y).wf = true) := opens_int Tryd.underlying3
set_option maxRecDepth 100000 in
theorem opens_77 : Opens enc Tryd.prog W base spare held 77 (Kd.slice 3 (Kd.int .i64)) (fun ys => True) := fun f cs x h hw => by
  obtain ⟨y, h1, h2, _⟩ := opens_slice (q := 3) (d := Kd.int .i64) Tryd.underlying77 (by kernel_rfl) (opens_int Tryd.underlying3) f cs x h hw
  exact ⟨y, h1, trivial⟩
set_option maxRecDepth 100000 in
theorem opens_79 : Opens enc Tryd.prog W base spare held 79 k79 (fun y => True) := by
  intro fuel cs x h hw
  obtain ⟨xs, n, _, rfl, hl, hx, hf⟩ := DataW.trod_struct Tryd.underlying79 h
  rw [show Tryd.prog.cellsOf 79 = 6 by kernel_rfl] at hl
  obtain ⟨c0, c1, c2, c3, c4, c5, rfl⟩ : ∃ c0 c1 c2 c3 c4 c5, cs = [c0, c1, c2, c3, c4, c5] := by
    match cs, hl with
    | [c0, c1, c2, c3, c4, c5], _ => exact ⟨c0, c1, c2, c3, c4, c5, rfl⟩
  obtain ⟨x0, x1, x2, x3, x4, x5, rfl⟩ : ∃ x0 x1 x2 x3 x4 x5, xs = [x0, x1, x2, x3, x4, x5] := by
    match xs, hx with
    | [x0, x1, x2, x3, x4, x5], _ => exact ⟨x0, x1, x2, x3, x4, x5, rfl⟩
  have hw1 : ∀ n ∈ x0.1.weights Tryd.prog 3 ++ (x1.1.weights Tryd.prog 3 ++ (x2.1.weights Tryd.prog 3 ++ (x3.1.weights Tryd.prog 3 ++ (x4.1.weights Tryd.prog 3 ++ (x5.1.weights Tryd.prog 77 ++ []))))), n ≤ reachBytes := by
    have h1 := hw
    dsimp only at h1
    unfold DataW.weights at h1
    rw [Tryd.underlying79] at h1
    exact h1
  have q3 : Tryd.prog.cellsOf 3 = 1 := by kernel_rfl
  have q77 : Tryd.prog.cellsOf 77 = 1 := by kernel_rfl
  have f0 : DataW.trod enc Tryd.prog W base spare held n 3 (([c0, c1, c2, c3, c4, c5].drop 0).take (Tryd.prog.cellsOf 3)) = some x0 := hf 0 _ rfl
  rw [q3] at f0
  have f1 : DataW.trod enc Tryd.prog W base spare held n 3 (([c0, c1, c2, c3, c4, c5].drop 1).take (Tryd.prog.cellsOf 3)) = some x1 := hf 1 _ rfl
  rw [q3] at f1
  have f2 : DataW.trod enc Tryd.prog W base spare held n 3 (([c0, c1, c2, c3, c4, c5].drop 2).take (Tryd.prog.cellsOf 3)) = some x2 := hf 2 _ rfl
  rw [q3] at f2
  have f3 : DataW.trod enc Tryd.prog W base spare held n 3 (([c0, c1, c2, c3, c4, c5].drop 3).take (Tryd.prog.cellsOf 3)) = some x3 := hf 3 _ rfl
  rw [q3] at f3
  have f4 : DataW.trod enc Tryd.prog W base spare held n 3 (([c0, c1, c2, c3, c4, c5].drop 4).take (Tryd.prog.cellsOf 3)) = some x4 := hf 4 _ rfl
  rw [q3] at f4
  have f5 : DataW.trod enc Tryd.prog W base spare held n 77 (([c0, c1, c2, c3, c4, c5].drop 5).take (Tryd.prog.cellsOf 77)) = some x5 := hf 5 _ rfl
  rw [q77] at f5
  obtain ⟨y0, k0, o0⟩ := opens_i64 _ _ _ f0 (fun n hn => hw1 n (by simp only [List.mem_append]; exact .inl hn))
  obtain ⟨y1, k1, o1⟩ := opens_i64 _ _ _ f1 (fun n hn => hw1 n (by simp only [List.mem_append]; exact .inr (.inl hn)))
  obtain ⟨y2, k2, o2⟩ := opens_i64 _ _ _ f2 (fun n hn => hw1 n (by simp only [List.mem_append]; exact .inr (.inr (.inl hn))))
  obtain ⟨y3, k3, o3⟩ := opens_i64 _ _ _ f3 (fun n hn => hw1 n (by simp only [List.mem_append]; exact .inr (.inr (.inr (.inl hn)))))
  obtain ⟨y4, k4, o4⟩ := opens_i64 _ _ _ f4 (fun n hn => hw1 n (by simp only [List.mem_append]; exact .inr (.inr (.inr (.inr (.inl hn))))))
  obtain ⟨y5, k5, o5⟩ := opens_77 _ _ _ f5 (fun n hn => hw1 n (by simp only [List.mem_append]; exact .inr (.inr (.inr (.inr (.inr (.inl hn)))))))
  obtain ⟨A5, r5, k5, l5, g5⟩ := k5
  obtain rfl : c0 = .int .i64 y0 := by simpa using (show [c0] = [.int .i64 y0] from k0)
  obtain rfl : c1 = .int .i64 y1 := by simpa using (show [c1] = [.int .i64 y1] from k1)
  obtain rfl : c2 = .int .i64 y2 := by simpa using (show [c2] = [.int .i64 y2] from k2)
  obtain rfl : c3 = .int .i64 y3 := by simpa using (show [c3] = [.int .i64 y3] from k3)
  obtain rfl : c4 = .int .i64 y4 := by simpa using (show [c4] = [.int .i64 y4] from k4)
  obtain rfl : c5 = .slice A5 y5.length r5 := by simpa using (show [c5] = _ from k5)
  exact ⟨⟨y0, y1, y2, y3, y4, y5⟩, k79_mk W ⟨y0, y1, y2, y3, y4, y5⟩ l5 g5, trivial⟩
theorem arg_75 {a : Option Addr} {len cap : Nat} {dd : DataW H} {ps : List MemPlace}
    (h : DataW.Trod enc Tryd.prog W base spare held 75 (.slice a len cap) dd ps) (hw : ∀ n ∈ dd.weights Tryd.prog 75, n ≤ reachBytes) : ∃ l, len = l.length ∧ l.length ≤ cap ∧ Kd.C k79 W a l.length l ∧ l.length ≤ 9223372036854775807 ∧ True := by
  obtain ⟨l, h1, h2, h3, h4, _⟩ := arg_full (q := 79) (opens_slice Tryd.underlying75 (by kernel_rfl) opens_79) h hw
  exact ⟨l, h1, h2, h3, h4, trivial⟩
end
end Go.Proofs.YtaflofcnjakaaaaDoor.BulkW

namespace Go.Proofs.YtaflofcnjakaaaaDoor.M
open Go.RowKit Go.Maps Go.Proofs.YtaflofcnjakaaaaDoorW.PrintWords Go.Proofs.YtaflofcnjakaaaaDoorW.PrintLast Go.Proofs.YtaflofcnjakaaaaDoorW.PrintMore Go.Proofs.YtaflofcnjakaaaaDoor.Wr Go.Proofs.YtaflofcnjakaaaaDoor.Pl Go.Proofs.YtaflofcnjakaaaaDoor.P Go.Proofs.YtaflofcnjakaaaaDoor.A
set_option linter.unusedVariables false
set_option linter.unusedSimpArgs false
theorem and1023 (n : Int) : bits .and .i64 n 1023 = n % 1024 := by
  have h127 : (BitVec.ofInt 64 1023).toNat = 2 ^ 10 - 1 := by decide
  have key : (BitVec.ofInt 64 n &&& BitVec.ofInt 64 1023).toNat = (n % ((2 ^ 64 : Nat) : Int)).toNat % 2 ^ 10 := by
    rw [BitVec.toNat_and, BitVec.toNat_ofInt, h127, Nat.and_two_pow_sub_one_eq_mod]
  show IntKind.i64.wrap ((BitVec.ofInt 64 n &&& BitVec.ofInt 64 1023).toNat : Nat) = n % 1024
  rw [key, IntKind.wrap_i64]
  omega
theorem and16777215 (n : Int) : bits .and .i64 n 16777215 = n % 16777216 := by
  have h127 : (BitVec.ofInt 64 16777215).toNat = 2 ^ 24 - 1 := by decide
  have key : (BitVec.ofInt 64 n &&& BitVec.ofInt 64 16777215).toNat = (n % ((2 ^ 64 : Nat) : Int)).toNat % 2 ^ 24 := by
    rw [BitVec.toNat_and, BitVec.toNat_ofInt, h127, Nat.and_two_pow_sub_one_eq_mod]
  show IntKind.i64.wrap ((BitVec.ofInt 64 n &&& BitVec.ofInt 64 16777215).toNat : Nat) = n % 16777216
  rw [key, IntKind.wrap_i64]
  omega
theorem and15 (n : Int) : bits .and .i64 n 15 = n % 16 := by
  have h127 : (BitVec.ofInt 64 15).toNat = 2 ^ 4 - 1 := by decide
  have key : (BitVec.ofInt 64 n &&& BitVec.ofInt 64 15).toNat = (n % ((2 ^ 64 : Nat) : Int)).toNat % 2 ^ 4 := by
    rw [BitVec.toNat_and, BitVec.toNat_ofInt, h127, Nat.and_two_pow_sub_one_eq_mod]
  show IntKind.i64.wrap ((BitVec.ofInt 64 n &&& BitVec.ofInt 64 15).toNat : Nat) = n % 16
  rw [key, IntKind.wrap_i64]
  omega
theorem and3 (n : Int) : bits .and .i64 n 3 = n % 4 := by
  have h127 : (BitVec.ofInt 64 3).toNat = 2 ^ 2 - 1 := by decide
  have key : (BitVec.ofInt 64 n &&& BitVec.ofInt 64 3).toNat = (n % ((2 ^ 64 : Nat) : Int)).toNat % 2 ^ 2 := by
    rw [BitVec.toNat_and, BitVec.toNat_ofInt, h127, Nat.and_two_pow_sub_one_eq_mod]
  show IntKind.i64.wrap ((BitVec.ofInt 64 n &&& BitVec.ofInt 64 3).toNat : Nat) = n % 4
  rw [key, IntKind.wrap_i64]
  omega
theorem and1' (n : Int) : bits .and .i64 n 1 = n % 2 := by
  have h127 : (BitVec.ofInt 64 1).toNat = 2 ^ 1 - 1 := by decide
  have key : (BitVec.ofInt 64 n &&& BitVec.ofInt 64 1).toNat = (n % ((2 ^ 64 : Nat) : Int)).toNat % 2 ^ 1 := by
    rw [BitVec.toNat_and, BitVec.toNat_ofInt, h127, Nat.and_two_pow_sub_one_eq_mod]
  show IntKind.i64.wrap ((BitVec.ofInt 64 n &&& BitVec.ofInt 64 1).toNat : Nat) = n % 2
  rw [key, IntKind.wrap_i64]
  omega
theorem else_best' {n : Nat} {s : SL} (hs : s.Ok) (hm : s.May) {j : Nat} (hj : j < 2) {cur : Nat → List Int} (h0 : cur j = encB s) (h1 : ∀ i, i < 2 → i ≠ j → cur i = zeros) (ha : s.a = (n : Int)) (hp : s.c.tmod 2 = (j : Int)) : bestJ (n : Int) cur 2 = s := by
  have hn := decS_no zeros_no
  have hs0 : bestJ (n : Int) (fun _ => zeros) 2 = startSL := by
    rw [best_two, hn.1, hn.2]
    unfold pickS
    rw [if_neg (by simp), if_neg (by simp)]
  have hc := hm.c
  refine best_new (cur := fun _ => zeros) hs0 hs hm ha ?_ hj hp h0 (fun i hi hne => h1 i hi hne)
  show (-1 : Int) < s.c
  omega
def firstSL (N : Int) : SL := ⟨N, 8, 0, 0, 0, z32, z32, 10, 0, z32, 11, 0⟩
theorem first_ok (N : Int) : (firstSL N).Ok := ⟨z32_ok.1, z32_ok.1, z32_ok.1, z32_ok.2, z32_ok.2, z32_ok.2⟩
theorem first_may {N : Int} (h1 : 40 ≤ N) (h2 : N ≤ 65536) : (firstSL N).May := by
  unfold firstSL
  constructor <;> (dsimp only; omega)
set_option maxRecDepth 100000 in
theorem first_ref1 : Tryd.prog.built 25 [(1, .int .i64 10)] = some (refV z32 10 0).toArray := by kernel_rfl
set_option maxRecDepth 100000 in
theorem first_ref2 : Tryd.prog.built 25 [(1, .int .i64 11)] = some (refV z32 11 0).toArray := by kernel_rfl
set_option maxRecDepth 100000 in
theorem first_built (N : Int) : Tryd.prog.built 27 [(0, .int .i64 N), (1, .int .i64 8), (6, .agg (refV z32 10 0).toArray), (7, .agg (refV z32 11 0).toArray)] = some (firstSL N).V.toArray := by kernel_rfl
def nextSL (s : SL) (g st fi : Int) : SL := { s with c := s.c + 1, d := g, e := st, rf := 10 + fi }
theorem next_ok {s : SL} (h : s.Ok) (g st fi : Int) : (nextSL s g st fi).Ok := ⟨h.k, h.r, h.m, h.kb, h.rb, h.mb⟩
theorem next_may {s : SL} {N : Nat} (h : s.May) (hb : s.b = 8) (ha : s.a = (N : Int)) (hN : 40 ≤ N) (hc : s.c ≤ 1000) {g st fi : Int} (hg : 0 ≤ g ∧ g < 16777216) (hs : 0 ≤ st ∧ st < 16777216) (hf : 0 ≤ fi ∧ fi < 16) : (nextSL s g st fi).May := by
  obtain ⟨a1, a2, b1, b2, ab, c, d, e, r, m⟩ := h
  unfold nextSL
  constructor <;> (dsimp only; omega)
theorem refV_set {h : List Int} (hh : h.length = 32) (f l f' : Int) : (refV h f l).set 32 (.int .i64 f') = refV h f' l := by
  unfold refV
  rw [List.set_append_right _ _ (by rw [nums_length, hh]; exact Nat.le_refl _), nums_length, hh]
  rfl
theorem next_cells {s : SL} (hs : s.Ok) (g st fi : Int) : (((s.V.toArray.setIfInBounds 2 (.int .i64 (s.c + 1))).setIfInBounds 3 (.int .i64 g)).setIfInBounds 4 (.int .i64 st)).setIfInBounds 69 (.int .i64 (10 + fi)) = (nextSL s g st fi).V.toArray := by
  simp only [List.setIfInBounds_toArray]
  congr 1
  unfold SL.V nextSL
  show [Value.int .i64 s.a, .int .i64 s.b, .int .i64 (s.c + 1), .int .i64 g, .int .i64 st] ++ (nums .u8 s.key ++ (refV s.rh s.rf s.rl ++ refV s.mh s.mf s.ml)).set 64 (.int .i64 (10 + fi)) = _
  rw [List.set_append_right _ _ (by rw [nums_length, hs.k]; decide), nums_length, hs.k, List.set_append_left _ _ (by rw [refV_len hs.r]; decide), refV_set hs.r]
theorem first_row {N : Nat} (h1 : 40 ≤ N) (h2 : N ≤ 65536) : RowAt N (stepD (DS.fresh N (List.replicate N zeros)) 0 (encB (firstSL N)) 2) (firstSL N) := by
  have hm := first_may (N := (N : Int)) (by omega) (by omega)
  have hcur : ∀ j, j < N → (stepD (DS.fresh N (List.replicate N zeros)) 0 (encB (firstSL N)) 2).cur j = ((DS.fresh N (List.replicate N zeros)).put 0 (encB (firstSL N))).cur j := fun j hj => flush_cur _ hj
  have h0 : (stepD (DS.fresh N (List.replicate N zeros)) 0 (encB (firstSL N)) 2).cur 0 = encB (firstSL N) := by rw [hcur 0 (by omega), put_cur]
  have hn0 : ∀ j, j ≠ 0 → j < N → (stepD (DS.fresh N (List.replicate N zeros)) 0 (encB (firstSL N)) 2).cur j = zeros := fun j hj hjN => by rw [hcur j hjN, put_cur_ne _ _ hj, fresh_cur hjN]
  have hb := else_best' (first_ok N) hm (j := 0) (by decide) h0 (fun i hi hne => hn0 i hne (by omega)) rfl rfl
  refine ⟨rfl, h1, ?_, fun j => rfl, rfl, fun j => ?_, fun j hj => ?_, first_ok N, hm, rfl, hb⟩
  · show ((List.range N).map _).length = N
    rw [List.length_map, List.length_range]
  · by_cases hj : j < N
    · by_cases hj0 : j = 0
      · subst hj0; rw [h0]; exact bytes_encB (first_ok N)
      · rw [hn0 j hj0 hj]; exact zeros_bytes
    · have : (stepD (DS.fresh N (List.replicate N zeros)) 0 (encB (firstSL N)) 2).cur j = [] := flush_cur_no _ (show ¬ j < N from hj)
      rw [this]; exact bytes_nil
  · by_cases hj0 : j = 0
    · subst hj0; rw [h0]; exact encB_len (first_ok N)
    · rw [hn0 j hj0 (by omega)]; exact zeros_len
theorem RowAt.flushed {N : Nat} {D : DS} {s t : SL} (h : RowAt N D s) (ht : t.Ok) (hm : t.May) (hta : t.a = (N : Int)) (hlt : s.c < t.c) {i : Nat} (hi : i < 2) (hp : t.c.tmod 2 = (i : Int)) : RowAt N ((D.put i (encB t)).flush) t := by
  have hN := h.n2
  have hn : (D.put i (encB t)).n = N := h.n
  have hcur : ∀ j, j < N → ((D.put i (encB t)).flush).cur j = (D.put i (encB t)).cur j := fun j hj => flush_cur _ (by rw [hn]; exact hj)
  refine h.new ht hm hta hlt hi hp hn ?_ (fun j => rfl) rfl (fun j => ?_) (by rw [hcur i (by omega), put_cur]) (fun j hj hne => by rw [hcur j (by omega), put_cur_ne _ _ hne])
  · show ((List.range (D.put i (encB t)).n).map _).length = N
    rw [List.length_map, List.length_range, hn]
  · by_cases hj : j < N
    · rw [hcur j hj]
      by_cases hji : j = i
      · subst hji; rw [put_cur]; exact bytes_encB ht
      · rw [put_cur_ne _ _ hji]; exact h.y j
    · rw [flush_cur_no _ (by rw [hn]; exact hj)]; exact bytes_nil
theorem RowAt.crash0 {N : Nat} {D : DS} {s : SL} (h : RowAt N D s) (fs : List Int) : RowAt N (D.crash fs) s := by
  have hL := crash_none h.w fs
  have hcur : ∀ j, (D.crash fs).cur j = D.cur j := fun j => by rw [cur_L (fun _ => rfl), hL, cur_L h.w]
  exact h.same h.n (by rw [hL]; exact h.L) (fun _ => rfl) rfl (fun j => by rw [hcur j]; exact h.y j) (fun j _ => hcur j)
theorem RowAt.crash1 {N : Nat} {D : DS} {s t : SL} (h : RowAt N D s) (ht : t.Ok) (hm : t.May) (hta : t.a = (N : Int)) (hlt : s.c < t.c) {i : Nat} (hi : i < 2) (hp : t.c.tmod 2 = (i : Int)) (fs : List Int) : RowAt N ((D.put i (encB t)).crash fs) s ∨ RowAt N ((D.put i (encB t)).crash fs) t := by
  have hN := h.n2
  have hiL : i < D.L.length := by rw [h.L]; omega
  rcases crash_one h.w (i := i) (by rw [h.n]; omega) (encB t) fs with hL | hL
  · left
    have hcur : ∀ j, ((D.put i (encB t)).crash fs).cur j = D.cur j := fun j => by rw [cur_L (fun _ => rfl), hL, cur_L h.w]
    exact h.same h.n (by rw [hL]; exact h.L) (fun _ => rfl) rfl (fun j => by rw [hcur j]; exact h.y j) (fun j _ => hcur j)
  · right
    have h1 : ((D.put i (encB t)).crash fs).cur i = encB t := by rw [cur_L (fun _ => rfl), hL, getD_set_same _ _ _ _ hiL]
    have h2 : ∀ j, j ≠ i → ((D.put i (encB t)).crash fs).cur j = D.cur j := fun j hj => by rw [cur_L (fun _ => rfl), hL, getD_set_ne _ _ _ (fun e => hj e.symm), cur_L h.w]
    refine h.new ht hm hta hlt hi hp h.n (by rw [hL, List.length_set]; exact h.L) (fun _ => rfl) rfl (fun j => ?_) h1 (fun j _ hne => h2 j hne)
    by_cases hji : j = i
    · subst hji; rw [h1]; exact bytes_encB ht
    · rw [h2 j hji]; exact h.y j
end Go.Proofs.YtaflofcnjakaaaaDoor.M

namespace Go.Proofs.YtaflofcnjakaaaaDoor.M
open Go.RowKit Go.Maps Go.Proofs.YtaflofcnjakaaaaDoorW.PrintWords Go.Proofs.YtaflofcnjakaaaaDoorW.PrintLast Go.Proofs.YtaflofcnjakaaaaDoorW.PrintMore Go.Proofs.YtaflofcnjakaaaaDoor.Wr Go.Proofs.YtaflofcnjakaaaaDoor.Pl Go.Proofs.YtaflofcnjakaaaaDoor.P Go.Proofs.YtaflofcnjakaaaaDoor.A
set_option linter.unusedVariables false
set_option linter.unusedSimpArgs false
theorem cell_any {w : World} {g ty : Nat} {cs : Array Value} (h : w.heap[g]? = some (.cells cs ty (0, 0))) (k : Nat) (hk : k < cs.size) : ∃ v, w.cell? ⟨g, k, none⟩ = some v :=
  ⟨cs[k], cell_at (cs := cs.toList) (by rw [Array.toArray_toList]; exact h) k (by rw [Array.getElem?_toList, Array.getElem?_eq_getElem hk])⟩
set_option maxHeartbeats 8000000 in
set_option maxRecDepth 100000 in
theorem newest_calls {w0 : World} (hH : Wr.Half w0) (x : Int) (A : Option Addr) (c : Nat) (row : List T79) (hC : Kd.C k79 w0 A row.length row) (hc : row.length ≤ c) (m : Nat) (hx : x % 1024 = (m : Int)) (hm : m < 1024) :
    Calls Tryd.prog 11 #[.int .i64 x, .slice A row.length c] w0 fun e w' => e = .returned (.bool true) ∧ Below w0.heap.size w0 w' := by
  have hN : (40 : Int) + (m : Int) = ((40 + m : Nat) : Int) := by omega
  have HS0 := Aside0.mk (Sep.refl w0)
  have HHH := Aside0.mk hH
  have HNW := Aside0.mk (fun W (M : List Th) (h : Sep w0 W M) => (show Calls Tryd.prog 15 #[.int .i64 (40 + (m : Int))] W (fun e w' => ∃ g, e = .returned (.tuple #[.pointer (some ⟨g, 0, none⟩), .int .i64 0]) ∧ Sep w0 w' (dkT g (DS.fresh (40 + m) (List.replicate (40 + m) zeros)) :: M)) from by rw [hN]; exact Sep.new h (40 + m) (by omega) (by omega)))
  have HW2 := Aside0.mk (fun W (M : List Th) gd (h : Sep w0 W (dkT gd (DS.fresh (40 + m) (List.replicate (40 + m) zeros)) :: M)) => (show Calls Tryd.prog 33 #[.pointer (some ⟨gd, 0, none⟩), .agg (firstSL (40 + (m : Int))).V.toArray, .int .i64 2] W (fun e w' => e = .returned (.bool true) ∧ Sep w0 w' (dkT gd (stepD (DS.fresh (40 + m) (List.replicate (40 + m) zeros)) 0 (encB (firstSL ((40 + m : Nat) : Int))) 2) :: M)) from by
    rw [hN]
    exact Sep.writes h hH (firstSL ((40 + m : Nat) : Int)) (first_ok _) ((may_iff _).2 (first_may (by omega) (by omega))) rfl rfl (show 0 < 40 + m by omega) (show 0 < 1073741824 by decide) 2 (by decide)))
  have HRA := Aside0.mk (first_row (N := 40 + m) (by omega) (by omega))
  have HR1 := Aside0.mk first_ref1
  have HR2 := Aside0.mk first_ref2
  have HBE := Aside0.mk (first_built (40 + (m : Int)))
  generalize (refV z32 10 0).toArray = R1 at HR1 HBE
  generalize (refV z32 11 0).toArray = R2 at HR2 HBE
  have HSZ := Aside0.mk (fun s (hs : SL.Ok s) => (show (Tryd.prog.info? 27).map (·.size) = some s.V.toArray.size from size27 (by simpa using SL.V_len hs)))
  have HSQ := Aside0.mk (fun s (hs : SL.Ok s) => (show noSL.V.toArray.size = s.V.toArray.size from by simp only [List.size_toArray]; rw [SL.V_len noSL_ok, SL.V_len hs]))
  have hz := (zero_of_info (P := Tryd.prog) (t := 27) (v := .agg noSL.V.toArray) (n := 105) (by kernel_rfl)).1
  generalize noSL.V.toArray = Z at hz HSQ
  have HFO := Aside0.mk (first_ok (40 + (m : Int)))
  have HLV := Aside0.mk (fun (t : SL) W (M : List Th) g (h : Sep w0 W (cellsT g t.V.toArray 27 :: M)) => (show ∀ j v, t.V.toArray.toList[j]? = some v → W.cell? ((⟨g, 0, none⟩ : Addr).add j) = some v from fun j v hv => seg_at h.cells.1 0 t.V (by rw [List.drop_zero]; exact List.take_of_length_le (Nat.le_refl _)) j v (by simpa using hv)))
  have HFE := Aside0.mk (show firstSL (40 + (m : Int)) = firstSL ((40 + m : Nat) : Int) from by rw [hN])
  have ha : bits .and .i64 x 1023 = (m : Int) := by rw [and1023, hx]
  have hm0 : (0 : Int) ≤ (m : Int) := by omega
  have hm1 : (m : Int) < 1024 := by omega
  clear hH hx hN
  generalize hf : firstSL (40 + (m : Int)) = f0 at HW2 HBE HFO HFE
  clear hf
  go_enter Tryd.func11, Tryd.ntmps11
  go_upto_region 5 with (go_at_call 15; (with_reducible refine (HNW.out _ _ HS0.out).mono ?_); rintro e w1 ⟨gd, rfl, h1⟩; have HS1 := Aside0.mk h1; clear h1 HS0)
  go_upto_region 6 with (first
    | ((with_reducible refine gate_build (ty := 25) rfl ?_); refine wpList_buildTo rfl 25 _ rfl (some 25) rfl R1 ?aB ?_; (case aB => (simp only [List.map_toArray, List.map_cons, List.map_nil]; exact HR1.out)))
    | ((with_reducible refine gate_build (ty := 25) rfl ?_); refine wpList_buildTo rfl 25 _ rfl (some 26) rfl R2 ?aB ?_; (case aB => (simp only [List.map_toArray, List.map_cons, List.map_nil]; exact HR2.out)))
    | ((with_reducible refine gate_build (ty := 27) rfl ?_); refine wpList_buildTo rfl 27 _ rfl (some 27) rfl f0.V.toArray ?aB ?_; (case aB => (simp only [List.map_toArray, List.map_cons, List.map_nil]; exact HBE.out)))
    | ((with_reducible refine gate_store (ty := 27) rfl ?_); refine Sep.store_own rfl 27 _ _ rfl rfl rfl (HS1.out.push_alloc Z 27) (HSZ.out _ HFO.out) (HSQ.out _ HFO.out) (SL.V_all _) ?_; intro w2 h2; have HS2 := Aside0.mk h2; clear h2))
  generalize w1.heap.size = g8 at HS2 ⊢
  clear HS1
  go_upto_region 8 with (first
    | ((with_reducible refine gate_load (ty := 27) rfl ?_); refine wpList_ldw ?_ 27 _ rfl ⟨g8, 0, none⟩ ?_ f0.V.toArray _ (HLV.out _ _ _ _ HS2.out) Tryd.underlying27 rfl (HSZ.out _ HFO.out) ?_; exact rfl; exact rfl; skip)
    | (go_at_call 33; (with_reducible refine (HW2.out _ _ _ HS2.out.up1).mono ?_); rintro e w3 ⟨rfl, h3⟩; have HS3 := Aside0.mk h3.up1; clear h3 HS2))
  go_wp2
  go_loopg [9] 60 (fun kq v9 wr => ∃ (i : Nat) (D : DS) (s : SL), v9 = .int .i64 i ∧ Aside0 (i + kq = 60) ∧ Aside0 (RowAt (40 + m) D s ∧ s.b = 8 ∧ s.c ≤ (i : Int)) ∧ Aside0 (Sep w0 wr (cellsT g8 s.V.toArray 27 :: dkT gd D :: [])))
  case atStart => exact ⟨0, _, f0, rfl, ⟨rfl⟩, ⟨by rw [HFE.out]; exact ⟨HRA.out, rfl, Int.le_refl 0⟩⟩, HS3⟩
  case round =>
    obtain ⟨i, D, s, rfl, HJ, HR, hS⟩ := hrel
    clear HS3 HW2 HNW HBE HR1 HR2 HRA ha
    have hbel := Aside0.mk hS.out.below
    have hcc := HR.out.1.may.c
    have hci := HR.out.2.2
    by_cases hi : i < row.length
    · by_cases h60 : i < 60
      · obtain ⟨ad, A5, c5, rfl, d0, d1, d2, d3, d4, d5, l5, hC5⟩ := at_T79 hC i hi
        rw [add_field ad (i * 6) 1 (by decide)] at d1
        rw [add_field ad (i * 6) 2 (by decide)] at d2
        rw [add_field ad (i * 6) 3 (by decide)] at d3
        rw [add_field ad (i * 6) 4 (by decide)] at d4
        rw [add_field ad (i * 6) 5 (by decide)] at d5
        have HTall := Aside0.mk (fun (g st fi : Int) (hg : 0 ≤ g ∧ g < 16777216) (hst : 0 ≤ st ∧ st < 16777216) (hfi : 0 ≤ fi ∧ fi < 16) => (show (nextSL s g st fi).Ok ∧ (nextSL s g st fi).May ∧ (nextSL s g st fi).a = ((40 + m : Nat) : Int) ∧ s.c < (nextSL s g st fi).c ∧ (nextSL s g st fi).b = 8 ∧ (nextSL s g st fi).c = s.c + 1 from
          ⟨next_ok HR.out.1.ok g st fi, next_may HR.out.1.may HR.out.2.1 HR.out.1.sa HR.out.1.n2 (by omega) hg hst hfi, HR.out.1.sa, (by show s.c < s.c + 1; omega), HR.out.2.1, rfl⟩))
        have HOK := Aside0.mk HR.out.1.ok
        have HLVs := Aside0.mk (fun W (M : List Th) g (h : Sep w0 W (cellsT g s.V.toArray 27 :: M)) => HLV.out s W M g h)
        have HRWi := Aside0.mk (fun W (hb : Below w0.heap.size w0 W) => (⟨pw_cell_below hb d0, pw_cell_below hb d1, pw_cell_below hb d2, pw_cell_below hb d3, pw_cell_below hb d4, pw_cell_below hb d5⟩ : _ ∧ _ ∧ _ ∧ _ ∧ _ ∧ _))
        have HC5 := Aside0.mk hC5
        have HL5 := Aside0.mk l5
        have HX2 := Aside0.mk s.V2
        have HNX := Aside0.mk (fun g st fi => next_cells (s := s) HR.out.1.ok g st fi)
        have HSZs := Aside0.mk (HSZ.out s HR.out.1.ok)
        have HSQs := Aside0.mk (HSQ.out s HR.out.1.ok)
        have HVA := Aside0.mk (SL.V_all s)
        clear d0 d1 d2 d3 d4 d5 l5 hC5 hC HSZ HSQ HFO HFE
        generalize row.getD i z79 = T at HRWi HC5 HL5 ⊢
        generalize hV : s.V = V at hS HLVs HX2 HNX HSZs HSQs HVA
        have hi1 : (i : Int) < (row.length : Int) := by omega
        have hi2 : (i : Int) < 60 := by omega
        have t0 : decide ((i : Int) < (row.length : Int)) = true := decide_eq_true hi1
        have t1 : decide ((i : Int) < 60) = true := decide_eq_true hi2
        go_upto_region 12 with (first
          | ((with_reducible refine gate_load (ty := 27) rfl ?_); refine wpList_ldw ?_ 27 _ rfl ⟨g8, 0, none⟩ ?_ V.toArray _ (HLVs.out _ _ _ hS.out) Tryd.underlying27 rfl HSZs.out ?_; exact rfl; exact rfl; skip)
          | ((with_reducible refine gate_store (ty := 27) rfl ?_); refine Sep.store_own rfl 27 _ _ rfl rfl rfl (hS.out.push_alloc Z 27) HSZs.out HSQs.out HVA.out ?_; intro w4 h4; have HS4 := Aside0.mk h4; clear h4))
        generalize wr.heap.size = g10 at HS4 ⊢
        clear hS
        have x0 : w4.cell? ⟨g8, 2, none⟩ = some (.int .i64 s.c) := cell_at HS4.out.up1.cells.1 2 HX2.out
        have HN5 := Aside0.mk (show V.length = 105 from by rw [← hV]; exact SL.V_len HOK.out)
        have y1 : w4.frozen? ⟨g10, 2, none⟩ = false := blk_frozen HS4.out.cells.1 2
        obtain ⟨u1, z1⟩ := cell_any HS4.out.cells.1 2 (by have := HN5.out; simp; omega)
        go_upto_region 13 with (fail)
        have HS5 := Aside0.mk (HS4.out.cset 2 (.int .i64 (s.c + 1)))
        generalize w4.setCell ⟨g10, 2, none⟩ (.int .i64 (s.c + 1)) = w5 at HS5 ⊢
        clear y1 z1
        clear x0 HS4
        have hg : 0 ≤ T.f0 % 16777216 ∧ T.f0 % 16777216 < 16777216 := by omega
        have hst : 0 ≤ T.f1 % 16777216 ∧ T.f1 % 16777216 < 16777216 := by omega
        have hfi : 0 ≤ T.f2 % 16 ∧ T.f2 % 16 < 16 := by omega
        have ag := and16777215 T.f0
        have as_ := and16777215 T.f1
        have af := and15 T.f2
        have ak := and3 T.f3
        have ac := and1' T.f4
        generalize T.f0 % 16777216 = g at hg ag
        generalize T.f1 % 16777216 = st at hst as_
        generalize T.f2 % 16 = fi at hfi af
        have y2 : w5.frozen? ⟨g10, 3, none⟩ = false := blk_frozen HS5.out.cells.1 3
        obtain ⟨u2, z2⟩ := cell_any HS5.out.cells.1 3 (by have := HN5.out; simp; omega)
        have r0 := (HRWi.out _ HS5.out.below).1
        go_upto_region 14 with (fail)
        have HS6 := Aside0.mk (HS5.out.cset 3 (.int .i64 g))
        generalize w5.setCell ⟨g10, 3, none⟩ (.int .i64 g) = w6 at HS6 ⊢
        clear y2 z2
        clear r0 ag HS5
        have y3 : w6.frozen? ⟨g10, 4, none⟩ = false := blk_frozen HS6.out.cells.1 4
        obtain ⟨u3, z3⟩ := cell_any HS6.out.cells.1 4 (by have := HN5.out; simp; omega)
        have r0 := (HRWi.out _ HS6.out.below).2.1
        go_upto_region 15 with (fail)
        have HS7 := Aside0.mk (HS6.out.cset 4 (.int .i64 st))
        generalize w6.setCell ⟨g10, 4, none⟩ (.int .i64 st) = w7 at HS7 ⊢
        clear y3 z3
        clear r0 as_ HS6
        have y4 : w7.frozen? ⟨g10, 69, none⟩ = false := blk_frozen HS7.out.cells.1 69
        obtain ⟨u4, z4⟩ := cell_any HS7.out.cells.1 69 (by have := HN5.out; simp; omega)
        have r0 := (HRWi.out _ HS7.out.below).2.2.1
        go_upto_region 16 with (fail)
        have HS8 := Aside0.mk (HS7.out.cset 69 (.int .i64 (10 + fi)))
        generalize w7.setCell ⟨g10, 69, none⟩ (.int .i64 (10 + fi)) = w8 at HS8 ⊢
        clear y4 z4
        clear r0 af HS7
        have HS9 := Aside0.mk (show Sep w0 w8 (cellsT g10 (nextSL s g st fi).V.toArray 27 :: cellsT g8 V.toArray 27 :: dkT gd D :: []) from by have := HS8.out; rwa [HNX.out g st fi] at this)
        have HTT := Aside0.mk (HTall.out g st fi hg hst hfi)
        clear HS8 HNX HTall hg hst hfi
        generalize nextSL s g st fi = t at HS9 HTT
        obtain ⟨pi, hpi, hpp⟩ : ∃ pi : Nat, pi < 2 ∧ t.c.tmod 2 = (pi : Int) := by
          have h0 := HTT.out.2.1.c.1
          refine ⟨(t.c % 2).toNat, by omega, ?_⟩
          rw [Int.tmod_eq_emod_of_nonneg h0]; omega
        have HPI := Aside0.mk (And.intro hpi hpp)
        clear hpi hpp
        have hsv : 0 ≤ T.f3 % 4 ∧ T.f3 % 4 < 4 := by omega
        have hcb : 0 ≤ T.f4 % 2 ∧ T.f4 % 2 < 2 := by omega
        generalize hsve : T.f3 % 4 = sv at hsv ak
        generalize T.f4 % 2 = cb at hcb ac
        have HWT := Aside0.mk (fun W (M : List Th) (h : Sep w0 W (dkT gd D :: M)) => (show Calls Tryd.prog 33 #[.pointer (some ⟨gd, 0, none⟩), .agg t.V.toArray, .int .i64 sv] W (fun e w' => e = .returned (.bool true) ∧ Sep w0 w' (dkT gd (stepD D pi (encB t) sv.toNat) :: M)) from by
          have hk := Sep.writes h HHH.out t HTT.out.1 ((may_iff _).2 HTT.out.2.1) (by rw [HTT.out.2.2.1, HR.out.1.n]) HPI.out.2 (by rw [HR.out.1.n]; have := HPI.out.1; have := HR.out.1.n2; omega) (by rw [HR.out.1.c]; decide) sv.toNat (by omega)
          rwa [show ((sv.toNat : Nat) : Int) = sv by omega] at hk))
        have HOt := Aside0.mk (fun (fs : List Int) => (show RowAt (40 + m) (D.crash fs) s ∧ RowAt (40 + m) ((D.put pi (encB t)).flush) t ∧ (RowAt (40 + m) ((D.put pi (encB t)).crash fs) s ∨ RowAt (40 + m) ((D.put pi (encB t)).crash fs) t) ∧ RowAt (40 + m) (((D.put pi (encB t)).flush).crash fs) t from
          ⟨HR.out.1.crash0 fs, HR.out.1.flushed HTT.out.1 HTT.out.2.1 HTT.out.2.2.1 HTT.out.2.2.2.1 HPI.out.1 HPI.out.2, HR.out.1.crash1 HTT.out.1 HTT.out.2.1 HTT.out.2.2.1 HTT.out.2.2.2.1 HPI.out.1 HPI.out.2 fs, (HR.out.1.flushed HTT.out.1 HTT.out.2.1 HTT.out.2.2.1 HTT.out.2.2.2.1 HPI.out.1 HPI.out.2).crash0 fs⟩))
        have HDc := Aside0.mk (show D.c < 1073741824 ∧ (D.put pi (encB t)).c < 1073741824 ∧ ((D.put pi (encB t)).flush).c < 1073741824 from ⟨by rw [HR.out.1.c]; decide, by show D.c + 1 < _; rw [HR.out.1.c]; decide, by show 0 < _; decide⟩)
        have HFL := Aside0.mk (fun W (M : List Th) (E : DS) (h : Sep w0 W (dkT gd E :: M)) => Sep.flush h)
        have HCR := Aside0.mk (fun W (M : List Th) (E : DS) (hc : E.c < 1073741824) (h : Sep w0 W (dkT gd E :: M)) => Sep.crash_arg h hc A5 c5 T.f5 HC5.out)
        have HRD := Aside0.mk (fun W (M : List Th) (E : DS) (u : SL) (hr : RowAt (40 + m) E u) (h : Sep w0 W (dkT gd E :: M)) => (show Calls Tryd.prog 28 #[.pointer (some ⟨gd, 0, none⟩)] W (fun e w' => e = .returned (.tuple #[.agg u.V.toArray, .int .i64 0]) ∧ Sep w0 w' (dkT gd (E.readsJ 2) :: M)) from by
          have hk := Sep.readSlot h HHH.out (by rw [hr.n]; have := hr.n2; omega) hr.y hr.l
          rwa [hr.reads.1, hr.reads.2] at hk))
        have HEs := Aside0.mk (fun W => (show (Op.equalIn 10000 27 (.agg V.toArray) (.agg V.toArray)).run Tryd.prog W = .ok true W from by have := eql_slot HOK.out W; rwa [hV] at this))
        have HEt := Aside0.mk (fun W => eql_slot HTT.out.1 W)
        have HEa := Aside0.mk (fun W => (show ∃ b, (Op.equalIn 10000 27 (.agg t.V.toArray) (.agg V.toArray)).run Tryd.prog W = .ok b W from by have := eql_any HTT.out.1 HOK.out W; rwa [hV] at this))
        have HSZt := Aside0.mk (show (Tryd.prog.info? 27).map (·.size) = some t.V.toArray.size from SlAt.sa HTT.out.1)
        have HSQt := Aside0.mk (show Z.size = t.V.toArray.size ∧ V.toArray.size = t.V.toArray.size from by
          have e1 : t.V.toArray.size = 105 := by simpa using SL.V_len HTT.out.1
          have e2 : V.toArray.size = 105 := by simpa using HN5.out
          rw [HSQs.out, e1, e2]; exact ⟨rfl, rfl⟩)
        have HVAt := Aside0.mk (SL.V_all t)
        have HLVt := Aside0.mk (fun W (M : List Th) g (h : Sep w0 W (cellsT g t.V.toArray 27 :: M)) => HLV.out t W M g h)
        have HGO := Aside0.mk (fun E (u : SL) (hu : u = s ∨ u = t) (hr : RowAt (40 + m) E u) => (show RowAt (40 + m) (E.readsJ 2) u ∧ u.b = 8 ∧ u.c ≤ ((i + 1 : Nat) : Int) from ⟨hr.readsJ, by rcases hu with rfl | rfl; exact HR.out.2.1; exact HTT.out.2.2.2.2.1, by rcases hu with rfl | rfl; (· omega); (· have := HTT.out.2.2.2.2.2; omega)⟩))
        have HR0 := Aside0.mk HR.out.1
        clear HR hcc hci hsve HPI HTT
        generalize hVt : t.V = Vt at HS9 HWT HEt HEa HSZt HSQt HVAt HLVt
        have HVt := Aside0.mk hVt
        have HVs := Aside0.mk hV
        clear hV hVt
        generalize encB t = eb at HWT HOt HDc
        have r3 := (HRWi.out _ HS9.out.below).2.2.2.1
        have r4 := (HRWi.out _ HS9.out.below).2.2.2.2.1
        go_upto_region 19 with (first
          | ((with_reducible refine gate_load (ty := 27) rfl ?_); refine wpList_ldw ?_ 27 _ rfl ⟨g10, 0, none⟩ ?_ Vt.toArray _ (HLVt.out _ _ _ HS9.out) Tryd.underlying27 rfl HSZt.out ?_; exact rfl; exact rfl; skip)
          | (go_at_call 33; (with_reducible refine (HWT.out _ _ HS9.out.up2).mono ?_); rintro e w9 ⟨rfl, h9⟩; have HSA := Aside0.mk h9; clear h9 HS9 r3 r4))
        clear HWT ak
        rcases (show sv = 0 ∨ sv = 1 ∨ sv = 2 ∨ sv = 3 by omega) with rfl | rfl | rfl | rfl <;> rcases (show cb = 0 ∨ cb = 1 by omega) with rfl | rfl
        · skip
          have HSB := Aside0.mk (show Sep w0 w9 (dkT gd (D) :: cellsT g10 Vt.toArray 27 :: cellsT g8 V.toArray 27 :: []) from HSA.out)
          clear HSA
          have r4 := (HRWi.out _ HSB.out.below).2.2.2.2.1
          go_upto_region 22 with (fail)
          have HSC := HSB
          clear HSB
          go_upto_region 24 with (fail)
          have HSD := HSC
          clear HSC
          have HRr := Aside0.mk (show RowAt (40 + m) (D) s from HR0.out)
          have HRE := Aside0.mk (fun W (M : List Th) (h : Sep w0 W (dkT gd (D) :: M)) => (show Calls Tryd.prog 28 #[.pointer (some ⟨gd, 0, none⟩)] W (fun e w' => e = .returned (.tuple #[.agg V.toArray, .int .i64 0]) ∧ Sep w0 w' (dkT gd ((D).readsJ 2) :: M)) from by have hk := HRD.out W M _ s HRr.out h; rwa [HVs.out] at hk))
          go_upto_region 25 with (first
            | (go_at_call 28; (with_reducible refine (HRE.out _ _ HSD.out).mono ?_); rintro e w12 ⟨rfl, h12⟩; have HSE := Aside0.mk h12; clear h12 HSD)
            | ((with_reducible refine gate_store (ty := 27) rfl ?_); refine Sep.store_own rfl 27 _ _ rfl rfl rfl (HSE.out.push_alloc Z 27) HSZs.out HSQs.out HVA.out ?_; intro w13 h13; have HSF := Aside0.mk h13; clear h13))
          generalize w12.heap.size = g12 at HSF ⊢
          clear HSE HRE
          go_wp2_with (first
            | ((with_reducible refine gate_load (ty := 27) rfl ?_); refine wpList_ldw ?_ 27 _ rfl ⟨g12, 0, none⟩ ?_ V.toArray _ (HLVs.out _ _ _ HSF.out) Tryd.underlying27 rfl HSZs.out ?_; exact rfl; exact rfl; skip)
            | ((with_reducible refine gate_load (ty := 27) rfl ?_); refine wpList_ldw ?_ 27 _ rfl ⟨g8, 0, none⟩ ?_ V.toArray _ (HLVs.out _ _ _ HSF.out.up3) Tryd.underlying27 rfl HSZs.out ?_; exact rfl; exact rfl; skip)
            | ((with_reducible refine gate_load (ty := 27) rfl ?_); refine wpList_ldw ?_ 27 _ rfl ⟨g10, 0, none⟩ ?_ Vt.toArray _ (HLVt.out _ _ _ HSF.out.up2) Tryd.underlying27 rfl HSZt.out ?_; exact rfl; exact rfl; skip)
            | ((with_reducible refine gate_neq (t := 27) rfl ?_); refine wpList_neqw ?_ 27 27 _ _ rfl V.toArray V.toArray ?_ ?_ guard27 true (HEs.out _) ?_; exact rfl; exact rfl; exact rfl; skip)
            | ((with_reducible refine gate_store (ty := 27) rfl ?_); refine Sep.store_own rfl 27 _ _ rfl rfl rfl HSF.out.up3 HSZs.out rfl HVA.out ?_; intro w14 h14; have HSG := Aside0.mk h14; clear h14))
          go_roundg (gk - 1)
          case measure => have := HJ.out; omega
          case rel => exact ⟨i + 1, (D).readsJ 2, s, rfl, ⟨by have := HJ.out; omega⟩, ⟨HGO.out _ s (by simp) HRr.out⟩, ⟨by have := HSG.out.sel 4 [0, 2] (cellsT g8 V.toArray 27 :: dkT gd ((D).readsJ 2) :: []) rfl ⟨by decide, by decide⟩ rfl; rwa [← HVs.out] at this⟩⟩
        · skip
          have HSB := Aside0.mk (show Sep w0 w9 (dkT gd (D) :: cellsT g10 Vt.toArray 27 :: cellsT g8 V.toArray 27 :: []) from HSA.out)
          clear HSA
          have r4 := (HRWi.out _ HSB.out.below).2.2.2.2.1
          go_upto_region 22 with (fail)
          have HSC := HSB
          clear HSB
          have r5 := (HRWi.out _ HSC.out.below).2.2.2.2.2
          go_upto_region 24 with (go_at_call 34; (with_reducible refine (HCR.out _ _ _ HDc.out.1 HSC.out).mono ?_); rintro e w11 ⟨⟨v11, rfl⟩, h11⟩; have HSD := Aside0.mk h11; clear h11 HSC r4 r5)
          have HRr := Aside0.mk (show RowAt (40 + m) ((D).crash T.f5) s from (HOt.out T.f5).1)
          have HRE := Aside0.mk (fun W (M : List Th) (h : Sep w0 W (dkT gd ((D).crash T.f5) :: M)) => (show Calls Tryd.prog 28 #[.pointer (some ⟨gd, 0, none⟩)] W (fun e w' => e = .returned (.tuple #[.agg V.toArray, .int .i64 0]) ∧ Sep w0 w' (dkT gd (((D).crash T.f5).readsJ 2) :: M)) from by have hk := HRD.out W M _ s HRr.out h; rwa [HVs.out] at hk))
          go_upto_region 25 with (first
            | (go_at_call 28; (with_reducible refine (HRE.out _ _ HSD.out).mono ?_); rintro e w12 ⟨rfl, h12⟩; have HSE := Aside0.mk h12; clear h12 HSD)
            | ((with_reducible refine gate_store (ty := 27) rfl ?_); refine Sep.store_own rfl 27 _ _ rfl rfl rfl (HSE.out.push_alloc Z 27) HSZs.out HSQs.out HVA.out ?_; intro w13 h13; have HSF := Aside0.mk h13; clear h13))
          generalize w12.heap.size = g12 at HSF ⊢
          clear HSE HRE
          go_wp2_with (first
            | ((with_reducible refine gate_load (ty := 27) rfl ?_); refine wpList_ldw ?_ 27 _ rfl ⟨g12, 0, none⟩ ?_ V.toArray _ (HLVs.out _ _ _ HSF.out) Tryd.underlying27 rfl HSZs.out ?_; exact rfl; exact rfl; skip)
            | ((with_reducible refine gate_load (ty := 27) rfl ?_); refine wpList_ldw ?_ 27 _ rfl ⟨g8, 0, none⟩ ?_ V.toArray _ (HLVs.out _ _ _ HSF.out.up3) Tryd.underlying27 rfl HSZs.out ?_; exact rfl; exact rfl; skip)
            | ((with_reducible refine gate_load (ty := 27) rfl ?_); refine wpList_ldw ?_ 27 _ rfl ⟨g10, 0, none⟩ ?_ Vt.toArray _ (HLVt.out _ _ _ HSF.out.up2) Tryd.underlying27 rfl HSZt.out ?_; exact rfl; exact rfl; skip)
            | ((with_reducible refine gate_neq (t := 27) rfl ?_); refine wpList_neqw ?_ 27 27 _ _ rfl V.toArray V.toArray ?_ ?_ guard27 true (HEs.out _) ?_; exact rfl; exact rfl; exact rfl; skip)
            | ((with_reducible refine gate_store (ty := 27) rfl ?_); refine Sep.store_own rfl 27 _ _ rfl rfl rfl HSF.out.up3 HSZs.out rfl HVA.out ?_; intro w14 h14; have HSG := Aside0.mk h14; clear h14))
          go_roundg (gk - 1)
          case measure => have := HJ.out; omega
          case rel => exact ⟨i + 1, ((D).crash T.f5).readsJ 2, s, rfl, ⟨by have := HJ.out; omega⟩, ⟨HGO.out _ s (by simp) HRr.out⟩, ⟨by have := HSG.out.sel 4 [0, 2] (cellsT g8 V.toArray 27 :: dkT gd (((D).crash T.f5).readsJ 2) :: []) rfl ⟨by decide, by decide⟩ rfl; rwa [← HVs.out] at this⟩⟩
        · skip
          have HSB := Aside0.mk (show Sep w0 w9 (dkT gd ((D.put pi eb)) :: cellsT g10 Vt.toArray 27 :: cellsT g8 V.toArray 27 :: []) from HSA.out)
          clear HSA
          have r4 := (HRWi.out _ HSB.out.below).2.2.2.2.1
          go_upto_region 22 with (go_at_call 27; (with_reducible refine (HFL.out _ _ _ HSB.out).mono ?_); rintro e w10 ⟨⟨v10, rfl⟩, h10⟩; have HSC := Aside0.mk h10; clear h10 HSB r4)
          have r4 := (HRWi.out _ HSC.out.below).2.2.2.2.1
          go_upto_region 24 with (fail)
          have HSD := HSC
          clear HSC
          have HRr := Aside0.mk (show RowAt (40 + m) ((D.put pi eb).flush) t from (HOt.out []).2.1)
          have HRE := Aside0.mk (fun W (M : List Th) (h : Sep w0 W (dkT gd ((D.put pi eb).flush) :: M)) => (show Calls Tryd.prog 28 #[.pointer (some ⟨gd, 0, none⟩)] W (fun e w' => e = .returned (.tuple #[.agg Vt.toArray, .int .i64 0]) ∧ Sep w0 w' (dkT gd (((D.put pi eb).flush).readsJ 2) :: M)) from by have hk := HRD.out W M _ t HRr.out h; rwa [HVt.out] at hk))
          go_upto_region 25 with (first
            | (go_at_call 28; (with_reducible refine (HRE.out _ _ HSD.out).mono ?_); rintro e w12 ⟨rfl, h12⟩; have HSE := Aside0.mk h12; clear h12 HSD)
            | ((with_reducible refine gate_store (ty := 27) rfl ?_); refine Sep.store_own rfl 27 _ _ rfl rfl rfl (HSE.out.push_alloc Z 27) HSZt.out HSQt.out.1 HVAt.out ?_; intro w13 h13; have HSF := Aside0.mk h13; clear h13))
          generalize w12.heap.size = g12 at HSF ⊢
          clear HSE HRE
          obtain ⟨b, hb⟩ := HEa.out w13
          cases b with
          | true =>
            go_wp2_with (first
              | ((with_reducible refine gate_load (ty := 27) rfl ?_); refine wpList_ldw ?_ 27 _ rfl ⟨g12, 0, none⟩ ?_ Vt.toArray _ (HLVt.out _ _ _ HSF.out) Tryd.underlying27 rfl HSZt.out ?_; exact rfl; exact rfl; skip)
              | ((with_reducible refine gate_load (ty := 27) rfl ?_); refine wpList_ldw ?_ 27 _ rfl ⟨g8, 0, none⟩ ?_ V.toArray _ (HLVs.out _ _ _ HSF.out.up3) Tryd.underlying27 rfl HSZs.out ?_; exact rfl; exact rfl; skip)
              | ((with_reducible refine gate_load (ty := 27) rfl ?_); refine wpList_ldw ?_ 27 _ rfl ⟨g10, 0, none⟩ ?_ Vt.toArray _ (HLVt.out _ _ _ HSF.out.up2) Tryd.underlying27 rfl HSZt.out ?_; exact rfl; exact rfl; skip)
              | ((with_reducible refine gate_neq (t := 27) rfl ?_); refine wpList_neqw ?_ 27 27 _ _ rfl Vt.toArray Vt.toArray ?_ ?_ guard27 true (HEt.out _) ?_; exact rfl; exact rfl; exact rfl; skip)
              | ((with_reducible refine gate_neq (t := 27) rfl ?_); refine wpList_neqw ?_ 27 27 _ _ rfl Vt.toArray V.toArray ?_ ?_ guard27 true hb ?_; exact rfl; exact rfl; exact rfl; skip)
              | ((with_reducible refine gate_store (ty := 27) rfl ?_); refine Sep.store_own rfl 27 _ _ rfl rfl rfl HSF.out.up3 HSZt.out HSQt.out.2 HVAt.out ?_; intro w14 h14; have HSG := Aside0.mk h14; clear h14))
            go_roundg (gk - 1)
            case measure => have := HJ.out; omega
            case rel => exact ⟨i + 1, ((D.put pi eb).flush).readsJ 2, t, rfl, ⟨by have := HJ.out; omega⟩, ⟨HGO.out _ t (by simp) HRr.out⟩, ⟨by have := HSG.out.sel 4 [0, 2] (cellsT g8 Vt.toArray 27 :: dkT gd (((D.put pi eb).flush).readsJ 2) :: []) rfl ⟨by decide, by decide⟩ rfl; rwa [← HVt.out] at this⟩⟩
          | false =>
            go_wp2_with (first
              | ((with_reducible refine gate_load (ty := 27) rfl ?_); refine wpList_ldw ?_ 27 _ rfl ⟨g12, 0, none⟩ ?_ Vt.toArray _ (HLVt.out _ _ _ HSF.out) Tryd.underlying27 rfl HSZt.out ?_; exact rfl; exact rfl; skip)
              | ((with_reducible refine gate_load (ty := 27) rfl ?_); refine wpList_ldw ?_ 27 _ rfl ⟨g8, 0, none⟩ ?_ V.toArray _ (HLVs.out _ _ _ HSF.out.up3) Tryd.underlying27 rfl HSZs.out ?_; exact rfl; exact rfl; skip)
              | ((with_reducible refine gate_load (ty := 27) rfl ?_); refine wpList_ldw ?_ 27 _ rfl ⟨g10, 0, none⟩ ?_ Vt.toArray _ (HLVt.out _ _ _ HSF.out.up2) Tryd.underlying27 rfl HSZt.out ?_; exact rfl; exact rfl; skip)
              | ((with_reducible refine gate_neq (t := 27) rfl ?_); refine wpList_neqw ?_ 27 27 _ _ rfl Vt.toArray Vt.toArray ?_ ?_ guard27 true (HEt.out _) ?_; exact rfl; exact rfl; exact rfl; skip)
              | ((with_reducible refine gate_neq (t := 27) rfl ?_); refine wpList_neqw ?_ 27 27 _ _ rfl Vt.toArray V.toArray ?_ ?_ guard27 false hb ?_; exact rfl; exact rfl; exact rfl; skip)
              | ((with_reducible refine gate_store (ty := 27) rfl ?_); refine Sep.store_own rfl 27 _ _ rfl rfl rfl HSF.out.up3 HSZt.out HSQt.out.2 HVAt.out ?_; intro w14 h14; have HSG := Aside0.mk h14; clear h14))
            go_roundg (gk - 1)
            case measure => have := HJ.out; omega
            case rel => exact ⟨i + 1, ((D.put pi eb).flush).readsJ 2, t, rfl, ⟨by have := HJ.out; omega⟩, ⟨HGO.out _ t (by simp) HRr.out⟩, ⟨by have := HSG.out.sel 4 [0, 2] (cellsT g8 Vt.toArray 27 :: dkT gd (((D.put pi eb).flush).readsJ 2) :: []) rfl ⟨by decide, by decide⟩ rfl; rwa [← HVt.out] at this⟩⟩
        · rcases (HOt.out T.f5).2.2.1 with hrr | hrr
          · skip
            have HSB := Aside0.mk (show Sep w0 w9 (dkT gd ((D.put pi eb)) :: cellsT g10 Vt.toArray 27 :: cellsT g8 V.toArray 27 :: []) from HSA.out)
            clear HSA
            have r4 := (HRWi.out _ HSB.out.below).2.2.2.2.1
            go_upto_region 22 with (fail)
            have HSC := HSB
            clear HSB
            have r5 := (HRWi.out _ HSC.out.below).2.2.2.2.2
            go_upto_region 24 with (go_at_call 34; (with_reducible refine (HCR.out _ _ _ HDc.out.2.1 HSC.out).mono ?_); rintro e w11 ⟨⟨v11, rfl⟩, h11⟩; have HSD := Aside0.mk h11; clear h11 HSC r4 r5)
            have HRr := Aside0.mk (show RowAt (40 + m) (((D.put pi eb)).crash T.f5) s from hrr)
            have HRE := Aside0.mk (fun W (M : List Th) (h : Sep w0 W (dkT gd (((D.put pi eb)).crash T.f5) :: M)) => (show Calls Tryd.prog 28 #[.pointer (some ⟨gd, 0, none⟩)] W (fun e w' => e = .returned (.tuple #[.agg V.toArray, .int .i64 0]) ∧ Sep w0 w' (dkT gd ((((D.put pi eb)).crash T.f5).readsJ 2) :: M)) from by have hk := HRD.out W M _ s HRr.out h; rwa [HVs.out] at hk))
            go_upto_region 25 with (first
              | (go_at_call 28; (with_reducible refine (HRE.out _ _ HSD.out).mono ?_); rintro e w12 ⟨rfl, h12⟩; have HSE := Aside0.mk h12; clear h12 HSD)
              | ((with_reducible refine gate_store (ty := 27) rfl ?_); refine Sep.store_own rfl 27 _ _ rfl rfl rfl (HSE.out.push_alloc Z 27) HSZs.out HSQs.out HVA.out ?_; intro w13 h13; have HSF := Aside0.mk h13; clear h13))
            generalize w12.heap.size = g12 at HSF ⊢
            clear HSE HRE
            go_wp2_with (first
              | ((with_reducible refine gate_load (ty := 27) rfl ?_); refine wpList_ldw ?_ 27 _ rfl ⟨g12, 0, none⟩ ?_ V.toArray _ (HLVs.out _ _ _ HSF.out) Tryd.underlying27 rfl HSZs.out ?_; exact rfl; exact rfl; skip)
              | ((with_reducible refine gate_load (ty := 27) rfl ?_); refine wpList_ldw ?_ 27 _ rfl ⟨g8, 0, none⟩ ?_ V.toArray _ (HLVs.out _ _ _ HSF.out.up3) Tryd.underlying27 rfl HSZs.out ?_; exact rfl; exact rfl; skip)
              | ((with_reducible refine gate_load (ty := 27) rfl ?_); refine wpList_ldw ?_ 27 _ rfl ⟨g10, 0, none⟩ ?_ Vt.toArray _ (HLVt.out _ _ _ HSF.out.up2) Tryd.underlying27 rfl HSZt.out ?_; exact rfl; exact rfl; skip)
              | ((with_reducible refine gate_neq (t := 27) rfl ?_); refine wpList_neqw ?_ 27 27 _ _ rfl V.toArray V.toArray ?_ ?_ guard27 true (HEs.out _) ?_; exact rfl; exact rfl; exact rfl; skip)
              | ((with_reducible refine gate_store (ty := 27) rfl ?_); refine Sep.store_own rfl 27 _ _ rfl rfl rfl HSF.out.up3 HSZs.out rfl HVA.out ?_; intro w14 h14; have HSG := Aside0.mk h14; clear h14))
            go_roundg (gk - 1)
            case measure => have := HJ.out; omega
            case rel => exact ⟨i + 1, (((D.put pi eb)).crash T.f5).readsJ 2, s, rfl, ⟨by have := HJ.out; omega⟩, ⟨HGO.out _ s (by simp) HRr.out⟩, ⟨by have := HSG.out.sel 4 [0, 2] (cellsT g8 V.toArray 27 :: dkT gd ((((D.put pi eb)).crash T.f5).readsJ 2) :: []) rfl ⟨by decide, by decide⟩ rfl; rwa [← HVs.out] at this⟩⟩
          · skip
            have HSB := Aside0.mk (show Sep w0 w9 (dkT gd ((D.put pi eb)) :: cellsT g10 Vt.toArray 27 :: cellsT g8 V.toArray 27 :: []) from HSA.out)
            clear HSA
            have r4 := (HRWi.out _ HSB.out.below).2.2.2.2.1
            go_upto_region 22 with (fail)
            have HSC := HSB
            clear HSB
            have r5 := (HRWi.out _ HSC.out.below).2.2.2.2.2
            go_upto_region 24 with (go_at_call 34; (with_reducible refine (HCR.out _ _ _ HDc.out.2.1 HSC.out).mono ?_); rintro e w11 ⟨⟨v11, rfl⟩, h11⟩; have HSD := Aside0.mk h11; clear h11 HSC r4 r5)
            have HRr := Aside0.mk (show RowAt (40 + m) (((D.put pi eb)).crash T.f5) t from hrr)
            have HRE := Aside0.mk (fun W (M : List Th) (h : Sep w0 W (dkT gd (((D.put pi eb)).crash T.f5) :: M)) => (show Calls Tryd.prog 28 #[.pointer (some ⟨gd, 0, none⟩)] W (fun e w' => e = .returned (.tuple #[.agg Vt.toArray, .int .i64 0]) ∧ Sep w0 w' (dkT gd ((((D.put pi eb)).crash T.f5).readsJ 2) :: M)) from by have hk := HRD.out W M _ t HRr.out h; rwa [HVt.out] at hk))
            go_upto_region 25 with (first
              | (go_at_call 28; (with_reducible refine (HRE.out _ _ HSD.out).mono ?_); rintro e w12 ⟨rfl, h12⟩; have HSE := Aside0.mk h12; clear h12 HSD)
              | ((with_reducible refine gate_store (ty := 27) rfl ?_); refine Sep.store_own rfl 27 _ _ rfl rfl rfl (HSE.out.push_alloc Z 27) HSZt.out HSQt.out.1 HVAt.out ?_; intro w13 h13; have HSF := Aside0.mk h13; clear h13))
            generalize w12.heap.size = g12 at HSF ⊢
            clear HSE HRE
            obtain ⟨b, hb⟩ := HEa.out w13
            cases b with
            | true =>
              go_wp2_with (first
                | ((with_reducible refine gate_load (ty := 27) rfl ?_); refine wpList_ldw ?_ 27 _ rfl ⟨g12, 0, none⟩ ?_ Vt.toArray _ (HLVt.out _ _ _ HSF.out) Tryd.underlying27 rfl HSZt.out ?_; exact rfl; exact rfl; skip)
                | ((with_reducible refine gate_load (ty := 27) rfl ?_); refine wpList_ldw ?_ 27 _ rfl ⟨g8, 0, none⟩ ?_ V.toArray _ (HLVs.out _ _ _ HSF.out.up3) Tryd.underlying27 rfl HSZs.out ?_; exact rfl; exact rfl; skip)
                | ((with_reducible refine gate_load (ty := 27) rfl ?_); refine wpList_ldw ?_ 27 _ rfl ⟨g10, 0, none⟩ ?_ Vt.toArray _ (HLVt.out _ _ _ HSF.out.up2) Tryd.underlying27 rfl HSZt.out ?_; exact rfl; exact rfl; skip)
                | ((with_reducible refine gate_neq (t := 27) rfl ?_); refine wpList_neqw ?_ 27 27 _ _ rfl Vt.toArray Vt.toArray ?_ ?_ guard27 true (HEt.out _) ?_; exact rfl; exact rfl; exact rfl; skip)
                | ((with_reducible refine gate_neq (t := 27) rfl ?_); refine wpList_neqw ?_ 27 27 _ _ rfl Vt.toArray V.toArray ?_ ?_ guard27 true hb ?_; exact rfl; exact rfl; exact rfl; skip)
                | ((with_reducible refine gate_store (ty := 27) rfl ?_); refine Sep.store_own rfl 27 _ _ rfl rfl rfl HSF.out.up3 HSZt.out HSQt.out.2 HVAt.out ?_; intro w14 h14; have HSG := Aside0.mk h14; clear h14))
              go_roundg (gk - 1)
              case measure => have := HJ.out; omega
              case rel => exact ⟨i + 1, (((D.put pi eb)).crash T.f5).readsJ 2, t, rfl, ⟨by have := HJ.out; omega⟩, ⟨HGO.out _ t (by simp) HRr.out⟩, ⟨by have := HSG.out.sel 4 [0, 2] (cellsT g8 Vt.toArray 27 :: dkT gd ((((D.put pi eb)).crash T.f5).readsJ 2) :: []) rfl ⟨by decide, by decide⟩ rfl; rwa [← HVt.out] at this⟩⟩
            | false =>
              go_wp2_with (first
                | ((with_reducible refine gate_load (ty := 27) rfl ?_); refine wpList_ldw ?_ 27 _ rfl ⟨g12, 0, none⟩ ?_ Vt.toArray _ (HLVt.out _ _ _ HSF.out) Tryd.underlying27 rfl HSZt.out ?_; exact rfl; exact rfl; skip)
                | ((with_reducible refine gate_load (ty := 27) rfl ?_); refine wpList_ldw ?_ 27 _ rfl ⟨g8, 0, none⟩ ?_ V.toArray _ (HLVs.out _ _ _ HSF.out.up3) Tryd.underlying27 rfl HSZs.out ?_; exact rfl; exact rfl; skip)
                | ((with_reducible refine gate_load (ty := 27) rfl ?_); refine wpList_ldw ?_ 27 _ rfl ⟨g10, 0, none⟩ ?_ Vt.toArray _ (HLVt.out _ _ _ HSF.out.up2) Tryd.underlying27 rfl HSZt.out ?_; exact rfl; exact rfl; skip)
                | ((with_reducible refine gate_neq (t := 27) rfl ?_); refine wpList_neqw ?_ 27 27 _ _ rfl Vt.toArray Vt.toArray ?_ ?_ guard27 true (HEt.out _) ?_; exact rfl; exact rfl; exact rfl; skip)
                | ((with_reducible refine gate_neq (t := 27) rfl ?_); refine wpList_neqw ?_ 27 27 _ _ rfl Vt.toArray V.toArray ?_ ?_ guard27 false hb ?_; exact rfl; exact rfl; exact rfl; skip)
                | ((with_reducible refine gate_store (ty := 27) rfl ?_); refine Sep.store_own rfl 27 _ _ rfl rfl rfl HSF.out.up3 HSZt.out HSQt.out.2 HVAt.out ?_; intro w14 h14; have HSG := Aside0.mk h14; clear h14))
              go_roundg (gk - 1)
              case measure => have := HJ.out; omega
              case rel => exact ⟨i + 1, (((D.put pi eb)).crash T.f5).readsJ 2, t, rfl, ⟨by have := HJ.out; omega⟩, ⟨HGO.out _ t (by simp) HRr.out⟩, ⟨by have := HSG.out.sel 4 [0, 2] (cellsT g8 Vt.toArray 27 :: dkT gd ((((D.put pi eb)).crash T.f5).readsJ 2) :: []) rfl ⟨by decide, by decide⟩ rfl; rwa [← HVt.out] at this⟩⟩
        · skip
          have HSB := Aside0.mk (show Sep w0 w9 (dkT gd ((D.put pi eb).flush) :: cellsT g10 Vt.toArray 27 :: cellsT g8 V.toArray 27 :: []) from HSA.out)
          clear HSA
          have r4 := (HRWi.out _ HSB.out.below).2.2.2.2.1
          go_upto_region 22 with (fail)
          have HSC := HSB
          clear HSB
          go_upto_region 24 with (fail)
          have HSD := HSC
          clear HSC
          have HRr := Aside0.mk (show RowAt (40 + m) ((D.put pi eb).flush) t from (HOt.out []).2.1)
          have HRE := Aside0.mk (fun W (M : List Th) (h : Sep w0 W (dkT gd ((D.put pi eb).flush) :: M)) => (show Calls Tryd.prog 28 #[.pointer (some ⟨gd, 0, none⟩)] W (fun e w' => e = .returned (.tuple #[.agg Vt.toArray, .int .i64 0]) ∧ Sep w0 w' (dkT gd (((D.put pi eb).flush).readsJ 2) :: M)) from by have hk := HRD.out W M _ t HRr.out h; rwa [HVt.out] at hk))
          go_upto_region 25 with (first
            | (go_at_call 28; (with_reducible refine (HRE.out _ _ HSD.out).mono ?_); rintro e w12 ⟨rfl, h12⟩; have HSE := Aside0.mk h12; clear h12 HSD)
            | ((with_reducible refine gate_store (ty := 27) rfl ?_); refine Sep.store_own rfl 27 _ _ rfl rfl rfl (HSE.out.push_alloc Z 27) HSZt.out HSQt.out.1 HVAt.out ?_; intro w13 h13; have HSF := Aside0.mk h13; clear h13))
          generalize w12.heap.size = g12 at HSF ⊢
          clear HSE HRE
          obtain ⟨b, hb⟩ := HEa.out w13
          cases b with
          | true =>
            go_wp2_with (first
              | ((with_reducible refine gate_load (ty := 27) rfl ?_); refine wpList_ldw ?_ 27 _ rfl ⟨g12, 0, none⟩ ?_ Vt.toArray _ (HLVt.out _ _ _ HSF.out) Tryd.underlying27 rfl HSZt.out ?_; exact rfl; exact rfl; skip)
              | ((with_reducible refine gate_load (ty := 27) rfl ?_); refine wpList_ldw ?_ 27 _ rfl ⟨g8, 0, none⟩ ?_ V.toArray _ (HLVs.out _ _ _ HSF.out.up3) Tryd.underlying27 rfl HSZs.out ?_; exact rfl; exact rfl; skip)
              | ((with_reducible refine gate_load (ty := 27) rfl ?_); refine wpList_ldw ?_ 27 _ rfl ⟨g10, 0, none⟩ ?_ Vt.toArray _ (HLVt.out _ _ _ HSF.out.up2) Tryd.underlying27 rfl HSZt.out ?_; exact rfl; exact rfl; skip)
              | ((with_reducible refine gate_neq (t := 27) rfl ?_); refine wpList_neqw ?_ 27 27 _ _ rfl Vt.toArray Vt.toArray ?_ ?_ guard27 true (HEt.out _) ?_; exact rfl; exact rfl; exact rfl; skip)
              | ((with_reducible refine gate_neq (t := 27) rfl ?_); refine wpList_neqw ?_ 27 27 _ _ rfl Vt.toArray V.toArray ?_ ?_ guard27 true hb ?_; exact rfl; exact rfl; exact rfl; skip)
              | ((with_reducible refine gate_store (ty := 27) rfl ?_); refine Sep.store_own rfl 27 _ _ rfl rfl rfl HSF.out.up3 HSZt.out HSQt.out.2 HVAt.out ?_; intro w14 h14; have HSG := Aside0.mk h14; clear h14))
            go_roundg (gk - 1)
            case measure => have := HJ.out; omega
            case rel => exact ⟨i + 1, ((D.put pi eb).flush).readsJ 2, t, rfl, ⟨by have := HJ.out; omega⟩, ⟨HGO.out _ t (by simp) HRr.out⟩, ⟨by have := HSG.out.sel 4 [0, 2] (cellsT g8 Vt.toArray 27 :: dkT gd (((D.put pi eb).flush).readsJ 2) :: []) rfl ⟨by decide, by decide⟩ rfl; rwa [← HVt.out] at this⟩⟩
          | false =>
            go_wp2_with (first
              | ((with_reducible refine gate_load (ty := 27) rfl ?_); refine wpList_ldw ?_ 27 _ rfl ⟨g12, 0, none⟩ ?_ Vt.toArray _ (HLVt.out _ _ _ HSF.out) Tryd.underlying27 rfl HSZt.out ?_; exact rfl; exact rfl; skip)
              | ((with_reducible refine gate_load (ty := 27) rfl ?_); refine wpList_ldw ?_ 27 _ rfl ⟨g8, 0, none⟩ ?_ V.toArray _ (HLVs.out _ _ _ HSF.out.up3) Tryd.underlying27 rfl HSZs.out ?_; exact rfl; exact rfl; skip)
              | ((with_reducible refine gate_load (ty := 27) rfl ?_); refine wpList_ldw ?_ 27 _ rfl ⟨g10, 0, none⟩ ?_ Vt.toArray _ (HLVt.out _ _ _ HSF.out.up2) Tryd.underlying27 rfl HSZt.out ?_; exact rfl; exact rfl; skip)
              | ((with_reducible refine gate_neq (t := 27) rfl ?_); refine wpList_neqw ?_ 27 27 _ _ rfl Vt.toArray Vt.toArray ?_ ?_ guard27 true (HEt.out _) ?_; exact rfl; exact rfl; exact rfl; skip)
              | ((with_reducible refine gate_neq (t := 27) rfl ?_); refine wpList_neqw ?_ 27 27 _ _ rfl Vt.toArray V.toArray ?_ ?_ guard27 false hb ?_; exact rfl; exact rfl; exact rfl; skip)
              | ((with_reducible refine gate_store (ty := 27) rfl ?_); refine Sep.store_own rfl 27 _ _ rfl rfl rfl HSF.out.up3 HSZt.out HSQt.out.2 HVAt.out ?_; intro w14 h14; have HSG := Aside0.mk h14; clear h14))
            go_roundg (gk - 1)
            case measure => have := HJ.out; omega
            case rel => exact ⟨i + 1, ((D.put pi eb).flush).readsJ 2, t, rfl, ⟨by have := HJ.out; omega⟩, ⟨HGO.out _ t (by simp) HRr.out⟩, ⟨by have := HSG.out.sel 4 [0, 2] (cellsT g8 Vt.toArray 27 :: dkT gd (((D.put pi eb).flush).readsJ 2) :: []) rfl ⟨by decide, by decide⟩ rfl; rwa [← HVt.out] at this⟩⟩
        · skip
          have HSB := Aside0.mk (show Sep w0 w9 (dkT gd ((D.put pi eb).flush) :: cellsT g10 Vt.toArray 27 :: cellsT g8 V.toArray 27 :: []) from HSA.out)
          clear HSA
          have r4 := (HRWi.out _ HSB.out.below).2.2.2.2.1
          go_upto_region 22 with (fail)
          have HSC := HSB
          clear HSB
          have r5 := (HRWi.out _ HSC.out.below).2.2.2.2.2
          go_upto_region 24 with (go_at_call 34; (with_reducible refine (HCR.out _ _ _ HDc.out.2.2 HSC.out).mono ?_); rintro e w11 ⟨⟨v11, rfl⟩, h11⟩; have HSD := Aside0.mk h11; clear h11 HSC r4 r5)
          have HRr := Aside0.mk (show RowAt (40 + m) (((D.put pi eb).flush).crash T.f5) t from (HOt.out T.f5).2.2.2)
          have HRE := Aside0.mk (fun W (M : List Th) (h : Sep w0 W (dkT gd (((D.put pi eb).flush).crash T.f5) :: M)) => (show Calls Tryd.prog 28 #[.pointer (some ⟨gd, 0, none⟩)] W (fun e w' => e = .returned (.tuple #[.agg Vt.toArray, .int .i64 0]) ∧ Sep w0 w' (dkT gd ((((D.put pi eb).flush).crash T.f5).readsJ 2) :: M)) from by have hk := HRD.out W M _ t HRr.out h; rwa [HVt.out] at hk))
          go_upto_region 25 with (first
            | (go_at_call 28; (with_reducible refine (HRE.out _ _ HSD.out).mono ?_); rintro e w12 ⟨rfl, h12⟩; have HSE := Aside0.mk h12; clear h12 HSD)
            | ((with_reducible refine gate_store (ty := 27) rfl ?_); refine Sep.store_own rfl 27 _ _ rfl rfl rfl (HSE.out.push_alloc Z 27) HSZt.out HSQt.out.1 HVAt.out ?_; intro w13 h13; have HSF := Aside0.mk h13; clear h13))
          generalize w12.heap.size = g12 at HSF ⊢
          clear HSE HRE
          obtain ⟨b, hb⟩ := HEa.out w13
          cases b with
          | true =>
            go_wp2_with (first
              | ((with_reducible refine gate_load (ty := 27) rfl ?_); refine wpList_ldw ?_ 27 _ rfl ⟨g12, 0, none⟩ ?_ Vt.toArray _ (HLVt.out _ _ _ HSF.out) Tryd.underlying27 rfl HSZt.out ?_; exact rfl; exact rfl; skip)
              | ((with_reducible refine gate_load (ty := 27) rfl ?_); refine wpList_ldw ?_ 27 _ rfl ⟨g8, 0, none⟩ ?_ V.toArray _ (HLVs.out _ _ _ HSF.out.up3) Tryd.underlying27 rfl HSZs.out ?_; exact rfl; exact rfl; skip)
              | ((with_reducible refine gate_load (ty := 27) rfl ?_); refine wpList_ldw ?_ 27 _ rfl ⟨g10, 0, none⟩ ?_ Vt.toArray _ (HLVt.out _ _ _ HSF.out.up2) Tryd.underlying27 rfl HSZt.out ?_; exact rfl; exact rfl; skip)
              | ((with_reducible refine gate_neq (t := 27) rfl ?_); refine wpList_neqw ?_ 27 27 _ _ rfl Vt.toArray Vt.toArray ?_ ?_ guard27 true (HEt.out _) ?_; exact rfl; exact rfl; exact rfl; skip)
              | ((with_reducible refine gate_neq (t := 27) rfl ?_); refine wpList_neqw ?_ 27 27 _ _ rfl Vt.toArray V.toArray ?_ ?_ guard27 true hb ?_; exact rfl; exact rfl; exact rfl; skip)
              | ((with_reducible refine gate_store (ty := 27) rfl ?_); refine Sep.store_own rfl 27 _ _ rfl rfl rfl HSF.out.up3 HSZt.out HSQt.out.2 HVAt.out ?_; intro w14 h14; have HSG := Aside0.mk h14; clear h14))
            go_roundg (gk - 1)
            case measure => have := HJ.out; omega
            case rel => exact ⟨i + 1, (((D.put pi eb).flush).crash T.f5).readsJ 2, t, rfl, ⟨by have := HJ.out; omega⟩, ⟨HGO.out _ t (by simp) HRr.out⟩, ⟨by have := HSG.out.sel 4 [0, 2] (cellsT g8 Vt.toArray 27 :: dkT gd ((((D.put pi eb).flush).crash T.f5).readsJ 2) :: []) rfl ⟨by decide, by decide⟩ rfl; rwa [← HVt.out] at this⟩⟩
          | false =>
            go_wp2_with (first
              | ((with_reducible refine gate_load (ty := 27) rfl ?_); refine wpList_ldw ?_ 27 _ rfl ⟨g12, 0, none⟩ ?_ Vt.toArray _ (HLVt.out _ _ _ HSF.out) Tryd.underlying27 rfl HSZt.out ?_; exact rfl; exact rfl; skip)
              | ((with_reducible refine gate_load (ty := 27) rfl ?_); refine wpList_ldw ?_ 27 _ rfl ⟨g8, 0, none⟩ ?_ V.toArray _ (HLVs.out _ _ _ HSF.out.up3) Tryd.underlying27 rfl HSZs.out ?_; exact rfl; exact rfl; skip)
              | ((with_reducible refine gate_load (ty := 27) rfl ?_); refine wpList_ldw ?_ 27 _ rfl ⟨g10, 0, none⟩ ?_ Vt.toArray _ (HLVt.out _ _ _ HSF.out.up2) Tryd.underlying27 rfl HSZt.out ?_; exact rfl; exact rfl; skip)
              | ((with_reducible refine gate_neq (t := 27) rfl ?_); refine wpList_neqw ?_ 27 27 _ _ rfl Vt.toArray Vt.toArray ?_ ?_ guard27 true (HEt.out _) ?_; exact rfl; exact rfl; exact rfl; skip)
              | ((with_reducible refine gate_neq (t := 27) rfl ?_); refine wpList_neqw ?_ 27 27 _ _ rfl Vt.toArray V.toArray ?_ ?_ guard27 false hb ?_; exact rfl; exact rfl; exact rfl; skip)
              | ((with_reducible refine gate_store (ty := 27) rfl ?_); refine Sep.store_own rfl 27 _ _ rfl rfl rfl HSF.out.up3 HSZt.out HSQt.out.2 HVAt.out ?_; intro w14 h14; have HSG := Aside0.mk h14; clear h14))
            go_roundg (gk - 1)
            case measure => have := HJ.out; omega
            case rel => exact ⟨i + 1, (((D.put pi eb).flush).crash T.f5).readsJ 2, t, rfl, ⟨by have := HJ.out; omega⟩, ⟨HGO.out _ t (by simp) HRr.out⟩, ⟨by have := HSG.out.sel 4 [0, 2] (cellsT g8 Vt.toArray 27 :: dkT gd ((((D.put pi eb).flush).crash T.f5).readsJ 2) :: []) rfl ⟨by decide, by decide⟩ rfl; rwa [← HVt.out] at this⟩⟩
        · skip
          have HSB := Aside0.mk (show Sep w0 w9 (dkT gd ((D.put pi eb).flush) :: cellsT g10 Vt.toArray 27 :: cellsT g8 V.toArray 27 :: []) from HSA.out)
          clear HSA
          have r4 := (HRWi.out _ HSB.out.below).2.2.2.2.1
          go_upto_region 22 with (fail)
          have HSC := HSB
          clear HSB
          go_upto_region 24 with (fail)
          have HSD := HSC
          clear HSC
          have HRr := Aside0.mk (show RowAt (40 + m) ((D.put pi eb).flush) t from (HOt.out []).2.1)
          have HRE := Aside0.mk (fun W (M : List Th) (h : Sep w0 W (dkT gd ((D.put pi eb).flush) :: M)) => (show Calls Tryd.prog 28 #[.pointer (some ⟨gd, 0, none⟩)] W (fun e w' => e = .returned (.tuple #[.agg Vt.toArray, .int .i64 0]) ∧ Sep w0 w' (dkT gd (((D.put pi eb).flush).readsJ 2) :: M)) from by have hk := HRD.out W M _ t HRr.out h; rwa [HVt.out] at hk))
          go_upto_region 25 with (first
            | (go_at_call 28; (with_reducible refine (HRE.out _ _ HSD.out).mono ?_); rintro e w12 ⟨rfl, h12⟩; have HSE := Aside0.mk h12; clear h12 HSD)
            | ((with_reducible refine gate_store (ty := 27) rfl ?_); refine Sep.store_own rfl 27 _ _ rfl rfl rfl (HSE.out.push_alloc Z 27) HSZt.out HSQt.out.1 HVAt.out ?_; intro w13 h13; have HSF := Aside0.mk h13; clear h13))
          generalize w12.heap.size = g12 at HSF ⊢
          clear HSE HRE
          obtain ⟨b, hb⟩ := HEa.out w13
          cases b with
          | true =>
            go_wp2_with (first
              | ((with_reducible refine gate_load (ty := 27) rfl ?_); refine wpList_ldw ?_ 27 _ rfl ⟨g12, 0, none⟩ ?_ Vt.toArray _ (HLVt.out _ _ _ HSF.out) Tryd.underlying27 rfl HSZt.out ?_; exact rfl; exact rfl; skip)
              | ((with_reducible refine gate_load (ty := 27) rfl ?_); refine wpList_ldw ?_ 27 _ rfl ⟨g8, 0, none⟩ ?_ V.toArray _ (HLVs.out _ _ _ HSF.out.up3) Tryd.underlying27 rfl HSZs.out ?_; exact rfl; exact rfl; skip)
              | ((with_reducible refine gate_load (ty := 27) rfl ?_); refine wpList_ldw ?_ 27 _ rfl ⟨g10, 0, none⟩ ?_ Vt.toArray _ (HLVt.out _ _ _ HSF.out.up2) Tryd.underlying27 rfl HSZt.out ?_; exact rfl; exact rfl; skip)
              | ((with_reducible refine gate_neq (t := 27) rfl ?_); refine wpList_neqw ?_ 27 27 _ _ rfl Vt.toArray Vt.toArray ?_ ?_ guard27 true (HEt.out _) ?_; exact rfl; exact rfl; exact rfl; skip)
              | ((with_reducible refine gate_neq (t := 27) rfl ?_); refine wpList_neqw ?_ 27 27 _ _ rfl Vt.toArray V.toArray ?_ ?_ guard27 true hb ?_; exact rfl; exact rfl; exact rfl; skip)
              | ((with_reducible refine gate_store (ty := 27) rfl ?_); refine Sep.store_own rfl 27 _ _ rfl rfl rfl HSF.out.up3 HSZt.out HSQt.out.2 HVAt.out ?_; intro w14 h14; have HSG := Aside0.mk h14; clear h14))
            go_roundg (gk - 1)
            case measure => have := HJ.out; omega
            case rel => exact ⟨i + 1, ((D.put pi eb).flush).readsJ 2, t, rfl, ⟨by have := HJ.out; omega⟩, ⟨HGO.out _ t (by simp) HRr.out⟩, ⟨by have := HSG.out.sel 4 [0, 2] (cellsT g8 Vt.toArray 27 :: dkT gd (((D.put pi eb).flush).readsJ 2) :: []) rfl ⟨by decide, by decide⟩ rfl; rwa [← HVt.out] at this⟩⟩
          | false =>
            go_wp2_with (first
              | ((with_reducible refine gate_load (ty := 27) rfl ?_); refine wpList_ldw ?_ 27 _ rfl ⟨g12, 0, none⟩ ?_ Vt.toArray _ (HLVt.out _ _ _ HSF.out) Tryd.underlying27 rfl HSZt.out ?_; exact rfl; exact rfl; skip)
              | ((with_reducible refine gate_load (ty := 27) rfl ?_); refine wpList_ldw ?_ 27 _ rfl ⟨g8, 0, none⟩ ?_ V.toArray _ (HLVs.out _ _ _ HSF.out.up3) Tryd.underlying27 rfl HSZs.out ?_; exact rfl; exact rfl; skip)
              | ((with_reducible refine gate_load (ty := 27) rfl ?_); refine wpList_ldw ?_ 27 _ rfl ⟨g10, 0, none⟩ ?_ Vt.toArray _ (HLVt.out _ _ _ HSF.out.up2) Tryd.underlying27 rfl HSZt.out ?_; exact rfl; exact rfl; skip)
              | ((with_reducible refine gate_neq (t := 27) rfl ?_); refine wpList_neqw ?_ 27 27 _ _ rfl Vt.toArray Vt.toArray ?_ ?_ guard27 true (HEt.out _) ?_; exact rfl; exact rfl; exact rfl; skip)
              | ((with_reducible refine gate_neq (t := 27) rfl ?_); refine wpList_neqw ?_ 27 27 _ _ rfl Vt.toArray V.toArray ?_ ?_ guard27 false hb ?_; exact rfl; exact rfl; exact rfl; skip)
              | ((with_reducible refine gate_store (ty := 27) rfl ?_); refine Sep.store_own rfl 27 _ _ rfl rfl rfl HSF.out.up3 HSZt.out HSQt.out.2 HVAt.out ?_; intro w14 h14; have HSG := Aside0.mk h14; clear h14))
            go_roundg (gk - 1)
            case measure => have := HJ.out; omega
            case rel => exact ⟨i + 1, ((D.put pi eb).flush).readsJ 2, t, rfl, ⟨by have := HJ.out; omega⟩, ⟨HGO.out _ t (by simp) HRr.out⟩, ⟨by have := HSG.out.sel 4 [0, 2] (cellsT g8 Vt.toArray 27 :: dkT gd (((D.put pi eb).flush).readsJ 2) :: []) rfl ⟨by decide, by decide⟩ rfl; rwa [← HVt.out] at this⟩⟩
        · skip
          have HSB := Aside0.mk (show Sep w0 w9 (dkT gd ((D.put pi eb).flush) :: cellsT g10 Vt.toArray 27 :: cellsT g8 V.toArray 27 :: []) from HSA.out)
          clear HSA
          have r4 := (HRWi.out _ HSB.out.below).2.2.2.2.1
          go_upto_region 22 with (fail)
          have HSC := HSB
          clear HSB
          have r5 := (HRWi.out _ HSC.out.below).2.2.2.2.2
          go_upto_region 24 with (go_at_call 34; (with_reducible refine (HCR.out _ _ _ HDc.out.2.2 HSC.out).mono ?_); rintro e w11 ⟨⟨v11, rfl⟩, h11⟩; have HSD := Aside0.mk h11; clear h11 HSC r4 r5)
          have HRr := Aside0.mk (show RowAt (40 + m) (((D.put pi eb).flush).crash T.f5) t from (HOt.out T.f5).2.2.2)
          have HRE := Aside0.mk (fun W (M : List Th) (h : Sep w0 W (dkT gd (((D.put pi eb).flush).crash T.f5) :: M)) => (show Calls Tryd.prog 28 #[.pointer (some ⟨gd, 0, none⟩)] W (fun e w' => e = .returned (.tuple #[.agg Vt.toArray, .int .i64 0]) ∧ Sep w0 w' (dkT gd ((((D.put pi eb).flush).crash T.f5).readsJ 2) :: M)) from by have hk := HRD.out W M _ t HRr.out h; rwa [HVt.out] at hk))
          go_upto_region 25 with (first
            | (go_at_call 28; (with_reducible refine (HRE.out _ _ HSD.out).mono ?_); rintro e w12 ⟨rfl, h12⟩; have HSE := Aside0.mk h12; clear h12 HSD)
            | ((with_reducible refine gate_store (ty := 27) rfl ?_); refine Sep.store_own rfl 27 _ _ rfl rfl rfl (HSE.out.push_alloc Z 27) HSZt.out HSQt.out.1 HVAt.out ?_; intro w13 h13; have HSF := Aside0.mk h13; clear h13))
          generalize w12.heap.size = g12 at HSF ⊢
          clear HSE HRE
          obtain ⟨b, hb⟩ := HEa.out w13
          cases b with
          | true =>
            go_wp2_with (first
              | ((with_reducible refine gate_load (ty := 27) rfl ?_); refine wpList_ldw ?_ 27 _ rfl ⟨g12, 0, none⟩ ?_ Vt.toArray _ (HLVt.out _ _ _ HSF.out) Tryd.underlying27 rfl HSZt.out ?_; exact rfl; exact rfl; skip)
              | ((with_reducible refine gate_load (ty := 27) rfl ?_); refine wpList_ldw ?_ 27 _ rfl ⟨g8, 0, none⟩ ?_ V.toArray _ (HLVs.out _ _ _ HSF.out.up3) Tryd.underlying27 rfl HSZs.out ?_; exact rfl; exact rfl; skip)
              | ((with_reducible refine gate_load (ty := 27) rfl ?_); refine wpList_ldw ?_ 27 _ rfl ⟨g10, 0, none⟩ ?_ Vt.toArray _ (HLVt.out _ _ _ HSF.out.up2) Tryd.underlying27 rfl HSZt.out ?_; exact rfl; exact rfl; skip)
              | ((with_reducible refine gate_neq (t := 27) rfl ?_); refine wpList_neqw ?_ 27 27 _ _ rfl Vt.toArray Vt.toArray ?_ ?_ guard27 true (HEt.out _) ?_; exact rfl; exact rfl; exact rfl; skip)
              | ((with_reducible refine gate_neq (t := 27) rfl ?_); refine wpList_neqw ?_ 27 27 _ _ rfl Vt.toArray V.toArray ?_ ?_ guard27 true hb ?_; exact rfl; exact rfl; exact rfl; skip)
              | ((with_reducible refine gate_store (ty := 27) rfl ?_); refine Sep.store_own rfl 27 _ _ rfl rfl rfl HSF.out.up3 HSZt.out HSQt.out.2 HVAt.out ?_; intro w14 h14; have HSG := Aside0.mk h14; clear h14))
            go_roundg (gk - 1)
            case measure => have := HJ.out; omega
            case rel => exact ⟨i + 1, (((D.put pi eb).flush).crash T.f5).readsJ 2, t, rfl, ⟨by have := HJ.out; omega⟩, ⟨HGO.out _ t (by simp) HRr.out⟩, ⟨by have := HSG.out.sel 4 [0, 2] (cellsT g8 Vt.toArray 27 :: dkT gd ((((D.put pi eb).flush).crash T.f5).readsJ 2) :: []) rfl ⟨by decide, by decide⟩ rfl; rwa [← HVt.out] at this⟩⟩
          | false =>
            go_wp2_with (first
              | ((with_reducible refine gate_load (ty := 27) rfl ?_); refine wpList_ldw ?_ 27 _ rfl ⟨g12, 0, none⟩ ?_ Vt.toArray _ (HLVt.out _ _ _ HSF.out) Tryd.underlying27 rfl HSZt.out ?_; exact rfl; exact rfl; skip)
              | ((with_reducible refine gate_load (ty := 27) rfl ?_); refine wpList_ldw ?_ 27 _ rfl ⟨g8, 0, none⟩ ?_ V.toArray _ (HLVs.out _ _ _ HSF.out.up3) Tryd.underlying27 rfl HSZs.out ?_; exact rfl; exact rfl; skip)
              | ((with_reducible refine gate_load (ty := 27) rfl ?_); refine wpList_ldw ?_ 27 _ rfl ⟨g10, 0, none⟩ ?_ Vt.toArray _ (HLVt.out _ _ _ HSF.out.up2) Tryd.underlying27 rfl HSZt.out ?_; exact rfl; exact rfl; skip)
              | ((with_reducible refine gate_neq (t := 27) rfl ?_); refine wpList_neqw ?_ 27 27 _ _ rfl Vt.toArray Vt.toArray ?_ ?_ guard27 true (HEt.out _) ?_; exact rfl; exact rfl; exact rfl; skip)
              | ((with_reducible refine gate_neq (t := 27) rfl ?_); refine wpList_neqw ?_ 27 27 _ _ rfl Vt.toArray V.toArray ?_ ?_ guard27 false hb ?_; exact rfl; exact rfl; exact rfl; skip)
              | ((with_reducible refine gate_store (ty := 27) rfl ?_); refine Sep.store_own rfl 27 _ _ rfl rfl rfl HSF.out.up3 HSZt.out HSQt.out.2 HVAt.out ?_; intro w14 h14; have HSG := Aside0.mk h14; clear h14))
            go_roundg (gk - 1)
            case measure => have := HJ.out; omega
            case rel => exact ⟨i + 1, (((D.put pi eb).flush).crash T.f5).readsJ 2, t, rfl, ⟨by have := HJ.out; omega⟩, ⟨HGO.out _ t (by simp) HRr.out⟩, ⟨by have := HSG.out.sel 4 [0, 2] (cellsT g8 Vt.toArray 27 :: dkT gd ((((D.put pi eb).flush).crash T.f5).readsJ 2) :: []) rfl ⟨by decide, by decide⟩ rfl; rwa [← HVt.out] at this⟩⟩
      · skip
        go_wp2
        go_ret
        exact ⟨rfl, hS.out.below⟩
    · skip
      go_wp2
      go_ret
      exact ⟨rfl, hS.out.below⟩
end Go.Proofs.YtaflofcnjakaaaaDoor.M

namespace Go.Proofs.YtaflofcnjakaaaaDoor.M
open Go.RowKit Go.Maps Go.Proofs.YtaflofcnjakaaaaDoorW.PrintWords Go.Proofs.YtaflofcnjakaaaaDoorW.PrintLast Go.Proofs.YtaflofcnjakaaaaDoorW.PrintMore Go.Proofs.YtaflofcnjakaaaaDoor.Wr Go.Proofs.YtaflofcnjakaaaaDoor.Pl Go.Proofs.YtaflofcnjakaaaaDoor.P Go.Proofs.YtaflofcnjakaaaaDoor.A
set_option linter.unusedVariables false
def newestF (_k : Nat) (_x : Int) (_l : List T79) : Option Bool := some true
theorem newest_row (k : Nat) (x : Int) (A : Option Addr) (c : Nat) (l : List T79) (v : Bool) (W : World) (hr : Kd.C k79 W A l.length l) (hc : l.length ≤ c) (hG : Wr.Half W) (h : newestF k x l = some v) : Calls Tryd.prog 11 #[.int .i64 x, .slice A l.length c] W fun e w' => e = .returned (.bool v) ∧ Below W.heap.size W w' := by
  cases h
  exact newest_calls hG x A c l hr hc (x % 1024).toNat (by omega) (by omega)
theorem newest_pure (x : Int) (l : List T79) (_ : (Lit.int .i64 x).wf = true) (_ : l.length ≤ 9223372036854775807) (_ : True) : ∃ k, newestF k x l = some true := ⟨0, rfl⟩
end Go.Proofs.YtaflofcnjakaaaaDoor.M

namespace Go.Proofs.YtaflofcnjakaaaaDoor.Bulk
open Go.ChangeShapes Go.WideShapes Go.RowKit Go.Proofs.YtaflofcnjakaaaaDoorW.PrintWords Go.Proofs.YtaflofcnjakaaaaDoorW.PrintLast Go.Proofs.YtaflofcnjakaaaaDoorW.PrintMore Go.Proofs.YtaflofcnjakaaaaDoor.M Go.Proofs.YtaflofcnjakaaaaDoor.Pl Go.Proofs.YtaflofcnjakaaaaDoor.Wr Go.Proofs.YtaflofcnjakaaaaDoor.A
set_option linter.unusedVariables false
section
variable {H : Type} {enc : TypeId × Value → H} {W : World} {base : Nat} {spare : Nat → Bool} {held : Bool}
theorem opens_i64 {fuel : Nat} {c : List Value} {x : DataW H × List MemPlace} (h : DataW.trod enc Tryd.prog W base spare held fuel 3 c = some x) : ∃ n, c = [.int .i64 n] := by
  obtain ⟨n, he, _, hw⟩ := DataW.trod_int Tryd.underlying3 h
  exact ⟨n, he⟩
end
end Go.Proofs.YtaflofcnjakaaaaDoor.Bulk

namespace Go.Proofs.YtaflofcnjakaaaaDoor.rootNewest
open Go.ChangeShapes Go.WideShapes Go.ChangeAt Go.RowKit Go.Proofs.YtaflofcnjakaaaaDoorW.PrintWords Go.Proofs.YtaflofcnjakaaaaDoorW.PrintLast Go.Proofs.YtaflofcnjakaaaaDoorW.PrintMore Go.Proofs.YtaflofcnjakaaaaDoor.P Go.Proofs.YtaflofcnjakaaaaDoor.M Go.Proofs.YtaflofcnjakaaaaDoor.Wr Go.Proofs.YtaflofcnjakaaaaDoor.Pl Go.Proofs.YtaflofcnjakaaaaDoor.A
set_option linter.unusedVariables false
theorem own : ownKnob Tryd.prog.godebug = none := by kernel_rfl
theorem laidOut : laidOutB Tryd.prog = true := by kernel_rfl
theorem gTab : Tryd.prog.globalNamed "kiln/wire.half" = some 0 := by kernel_rfl
theorem gTabType : (Tryd.prog.globals[0]?).map (·.type) = some 129 := by kernel_rfl
theorem cellsTab : Tryd.prog.cellsOf 129 = 16 := by kernel_rfl
theorem cells90 : Tryd.prog.cellsOf 90 = 1 := by kernel_rfl
theorem half_of {W : World} (h : laidMetH Tryd.prog Rows.rootNewestRow.laid W) : Wr.Half W := by
  have t : Lib.TabIs Tryd.prog W "kiln/wire.half" .u32 [0, 498536548, 997073096, 651767980, 1994146192, 1802195444, 1303535960, 1342533948, 3988292384, 4027552580, 3604390888, 3412177804, 2607071920, 2262029012, 2685067896, 3183342108] := Lib.tabIs_of_head (rest := []) gTab gTabType Tryd.underlying129 Tryd.underlying90 cells90 cellsTab h
  intro i hi
  have hc := t.cell gTab i (by simpa using hi)
  have e : ∀ j : Fin 16, ([0, 498536548, 997073096, 651767980, 1994146192, 1802195444, 1303535960, 1342533948, 3988292384, 4027552580, 3604390888, 3412177804, 2607071920, 2262029012, 2685067896, 3183342108] : List Int)[j.1]? = some ((halfL.getD j.1 0 : Nat) : Int) := by decide
  have e2 := e ⟨i, hi⟩
  first
  | (rw [List.getD_eq_getElem?_getD, e2] at hc; exact hc)
  | (rw [List.getElem?_eq_some_iff] at e2; obtain ⟨_, e3⟩ := e2; rw [e3] at hc; exact hc)
def IsRow (k : IntKind) (w : World) (a : Option Addr) (len cap : Nat) (zs : List Int) : Prop :=
  (a = none ∧ len = 0 ∧ cap = 0 ∧ zs = []) ∨
  ∃ x, a = some x ∧ len ≤ cap ∧ cap ≤ maxLen ∧ zs.length = cap ∧ (∀ i, i < zs.length → w.cell? (x.add i) = some (.int k (zs.getD i 0))) ∧ ∀ n ∈ zs, (Lit.int k n).wf = true
set_option maxRecDepth 100000 in
theorem contract (H : Type) (enc : TypeId × Value → H) (W : World) (base : Nat) (args : Array Value) (ds gs : List (DataW H)) (before : List MemPlace)
    (hval : ∀ (j : Nat) t v, Tryd.f11.params[j]? = some t → args[j]? = some v → Value.okWide Tryd.prog W .any base t v)
    (hW : DataW.Whole enc Tryd.prog Tryd.f11.params.toList Rows.rootNewestSpec.vars false W args.toList ds gs before)
    (hsz0 : (DataW.weightsEach Tryd.prog (Tryd.f11.params.toList ++ Rows.rootNewestSpec.plain.varTypes Tryd.prog) (ds ++ gs)).all (· ≤ reachBytes) = true)
    (hL : laidMetH Tryd.prog Rows.rootNewestRow.laid W) :
    Calls Tryd.prog 11 args W fun e W' => ∃ v, e = .returned v ∧ Rows.rootNewestSpec.post enc Tryd.prog Tryd.f11 false true false false W args v W' := by
  have hG := half_of hL
  have hW' := hW
  have hsz : (DataW.weightsEach Tryd.prog (Tryd.f11.params.toList ++ Rows.rootNewestSpec.plain.varTypes Tryd.prog) (ds ++ gs)).all (· ≤ reachBytes) = true := hsz0
  obtain ⟨p, q, hA0, hV, rfl, hfz, hnd⟩ := hW
  have hA : DataW.TrodAll enc Tryd.prog W 0 (fun _ => true) true Tryd.f11.params.toList args.toList ds p := hA0
  rw [Tryd.params11] at hA hval hsz
  obtain ⟨v0, vs0, d0, ds0, p0, q0, hargs, rfl, rfl, h0, r0⟩ := trodAll_cons hA
  obtain ⟨v1, vs1, d1, ds1, p1, q1, rfl, rfl, rfl, h1, r1⟩ := trodAll_cons r0
  obtain ⟨rfl, rfl, rfl⟩ := trodAll_nil r1
  obtain rfl : args = #[v0, v1] := by cases args; simp_all
  obtain ⟨rfl, rfl⟩ := trodVars_none hV
  obtain ⟨a0, rfl, rfl, rfl, w0⟩ := open_int Tryd.underlying3 (hval 0 3 v0 rfl rfl) h0
  obtain ⟨a1, len1, cap1, rfl⟩ := okWide_slice Tryd.underlying75 (hval 1 75 v1 rfl rfl)
  have k1 := h1
  have lt1 : ∀ x ∈ p1, x.block < W.heap.size := by obtain ⟨m, hm⟩ := k1; exact DataW.trod_lt m _ _ _ hm
  obtain ⟨l1, rfl, hc1, hr1, hn1, hw1⟩ := BulkW.arg_75 h1 (BulkW.weights_at hsz 1 75 d1 rfl rfl)
  clear hA0 hsz0 hsz
  obtain ⟨k, h⟩ := M.newest_pure a0 l1 w0 (by omega) hw1
  refine (M.newest_row k a0 _ _ l1 true W hr1 hc1 hG h).mono ?_
  rintro e W' ⟨rfl, bel⟩
  exact ⟨_, rfl, _, _, _, [], _, [], hW', trodAll_mk1 (shut_bool Tryd.underlying4 _), (trodAll_cons_mk (shut_int Tryd.underlying3 w0) (trodAll_cons_mk (Below.trod laidOut (by kernel_rfl) (of_decide_eq_true (by kernel_rfl)) k1 bel lt1) trodAll_mk0)), rfl, bel.frame _, fun h => by cases h⟩
noncomputable def laidWorld (os : Os) : World :=
  { World.holding Tryd.prog os ⟨#[], #[], []⟩ with heap := (World.holding Tryd.prog os ⟨#[], #[], []⟩).heap.modify 0 fun
      | .cells _ t frozen => .cells #[.int .u32 0, .int .u32 498536548, .int .u32 997073096, .int .u32 651767980, .int .u32 1994146192, .int .u32 1802195444, .int .u32 1303535960, .int .u32 1342533948, .int .u32 3988292384, .int .u32 4027552580, .int .u32 3604390888, .int .u32 3412177804, .int .u32 2607071920, .int .u32 2262029012, .int .u32 2685067896, .int .u32 3183342108] t frozen
      | o => o }
set_option maxRecDepth 100000 in
theorem laid_met (os : Os) : laidMet Tryd.prog Rows.rootNewestRow.laid ((laidWorld os).forCall (fun _ _ => 0) ⟨#[], #[.int .i64 0, .slice none 0 0], []⟩).memory :=
  laidMet_of_run' 8 (by kernel_rfl) (by kernel_rfl)
set_option maxRecDepth 100000 in
theorem reads (os : Os) {H : Type} (enc : TypeId × Value → H) : ∃ places, DataW.whole enc Tryd.prog ((laidWorld os).forCall (fun _ _ => 0) ⟨#[], #[.int .i64 0, .slice none 0 0], []⟩).memory Tryd.f11.params.toList Rows.rootNewestSpec.vars false (#[.int .i64 0, .slice none 0 0] : Array Value).toList 8 = some ([.lit (.int .i64 0), .nil], [], places) :=
  ⟨[], by kernel_rfl⟩
set_option maxRecDepth 100000 in
theorem lifted (os : Os) (started : os.Started) (H : Type) (enc : TypeId × Value → H) (F : Stop.Interp) :
    ReturnsInHanded {} Tryd.checked os 11 .any ((OpenSpec.ofChange Rows.rootNewestSpec).preRow enc Tryd.prog Tryd.f11 Rows.rootNewestRow.domain false Rows.rootNewestRow.laid) (((OpenSpec.ofChange Rows.rootNewestSpec).at F).post enc Tryd.prog Tryd.f11 false true false false) := by
  obtain ⟨places, hx⟩ := reads os enc
  refine returnsInHanded_of_row (C := Tryd.checked) (s := OpenSpec.ofChange Rows.rootNewestSpec) own started (by kernel_rfl) Tryd.func11
    (witness_row_at (enc := enc) (C := Tryd.checked) false (laidWorld os) #[.int .i64 0, .slice none 0 0] rfl (by kernel_rfl) (by kernel_rfl) (by kernel_rfl)
      (OpenSpec.preRow_of_cond 8 hx (by kernel_rfl) (fun k hk => by cases hk) (by kernel_rfl) (laid_met os))) ?_
  intro W base args ds gs before hval hW _ hcond hsz hL _ _
  exact contract H enc W base args ds gs before hval hW hsz hL
set_option maxRecDepth 100000 in
theorem said : Rows.RootNewestSaid :=
  OpenClaim.holds_of_cond 11 Tryd.f11 rfl rfl rfl rfl rfl rfl rfl ⟨rfl, rfl, rfl, rfl, rfl⟩ rfl rfl rfl rfl rfl (by kernel_rfl) Tryd.func11 (by kernel_rfl)
    (of_decide_eq_true (by kernel_rfl)) (by unfold Func.isWrapper; first | (rw [if_pos (by decide +kernel)]; kernel_rfl) | (rw [if_neg (by decide +kernel)]; exact ⟨rfl, rfl⟩))
    (fun os started H enc _ F => by rw [OpenClaim.pre_eq_preRow]; exact lifted os started H enc F)
theorem plain (f : FuncId) (fn : Func) (hf : Tryd.pinned.checked.prog.funcNamed "kiln/kilnlaw18.RootNewest" = some f) (hfn : Tryd.pinned.checked.prog.funcs[f]? = some fn) :
    false = Tryd.pinned.checked.prog.looks [] ∧ ∀ (j : Nat) t, fn.params[j]? = some t → Tryd.pinned.checked.prog.wantsStandIn t = false := by
  obtain rfl : f = 11 := Option.some.inj ((show Tryd.prog.funcNamed "kiln/kilnlaw18.RootNewest" = some 11 by kernel_rfl).symm.trans hf) |>.symm
  obtain rfl : fn = Tryd.f11 := (Option.some.inj (Tryd.func11.symm.trans hfn)).symm
  refine ⟨by kernel_rfl, fun j t ht => ?_⟩
  rw [Tryd.params11] at ht
  have hm : t ∈ [3, 75] := by simpa using Array.mem_of_getElem? ht
  have hall : ([3, 75].all fun u => !Tryd.prog.wantsStandIn u) = true := by kernel_rfl
  exact (show Tryd.prog.wantsStandIn t = false by simpa using List.all_eq_true.1 hall t hm)
set_option maxRecDepth 100000 in
theorem card : Rows.RootNewestCardSaid :=
  Claim7.holds_tied_plain_at .later [] _ _ _ _ said (fun _ h => by cases h) (by kernel_rfl) (fun _ h => by cases h) rootNewest_row_tie rfl ⟨rfl, rfl⟩ (by kernel_rfl) rfl plain (by kernel_rfl)
#print axioms card
end Go.Proofs.YtaflofcnjakaaaaDoor.rootNewest
namespace Go.Proofs.YtaflofcnjakaaaaDoor
theorem rootNewest_card_holds : Rows.RootNewestCardSaid := rootNewest.card
end Go.Proofs.YtaflofcnjakaaaaDoor
