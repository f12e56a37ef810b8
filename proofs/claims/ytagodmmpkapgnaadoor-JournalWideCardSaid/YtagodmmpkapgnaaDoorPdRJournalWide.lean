/- JournalWide: journals of 1 to 1024 sectors anywhere on a disk: each record stands in its sector, nothing else is written, and all that count are told. No condition beyond the statement's own. -/
import Derived.Test.YtagodmmpkapgnaaDoorPdZ2
import Derived.Test.YtagodmmpkapgnaaDoorCards
import Derived.Test.YtagodmmpkapgnaaDoorTie
import Derived.WalkKit
import Derived.ProofKit
import Derived.OpenShut
import Derived.ShutString
import Derived.ChangeOld
import Derived.Below
import Derived.SizedLaws
import Derived.Deep.DeepHandedRow
import Derived.Lib.LaidTab
namespace Go.Proofs.YtagodmmpkapgnaaDoor.M
open Go.RowKit Go.Maps Go.Proofs.YtagodmmpkapgnaaDoorW.PrintWords Go.Proofs.YtagodmmpkapgnaaDoorW.PrintLast Go.Proofs.YtagodmmpkapgnaaDoorW.PrintMore Go.Proofs.YtagodmmpkapgnaaDoor.Wr Go.Proofs.YtagodmmpkapgnaaDoor.Pl Go.Proofs.YtagodmmpkapgnaaDoor.P Go.Proofs.YtagodmmpkapgnaaDoor.A
set_option linter.unusedVariables false
set_option linter.unusedSimpArgs false
def mv1_T : Bool × List (List Nat × List Nat) := (true, [([], []), ([], []), ([1], [1]), ([2], [2]), ([3], [3]), ([], []), ([5], [5]), ([6], [6]), ([7], [7]), ([0, 4, 8], [0, 4, 8])])
def mv1_B : List Nat := [0, 0, 2, 6, 14, 0, 32, 96, 224, 511]
theorem mv1_tab : rtab .any (opsOf Tryd.f48 1) = mv1_T := by kernel_rfl
theorem mv1_bits : waitsOk mv1_T.2 mv1_B = true := by kernel_rfl
set_option maxHeartbeats 4000000 in
set_option maxRecDepth 100000 in
theorem start47 {gj gd : Nat} {fr n st nx : Int} {w : World} (h : w.heap[gj]? = some (.cells (jC gd fr n st nx) 134 (0, 0))) :
    Calls Tryd.prog 47 #[.pointer (some ⟨gj, 0, none⟩)] w fun e w' => e = .returned (.int .i64 st) ∧ Below w.heap.size w w' := by
  have x3 : w.cell? ⟨gj, 3, none⟩ = some (.int .i64 st) := blk_cell h 3
  have HB0 := Aside0.mk (Below.refl w.heap.size w)
  clear h
  go_enter Tryd.func47, Tryd.ntmps47
  go_wp2
  go_ret
  exact ⟨rfl, HB0.out⟩
set_option maxHeartbeats 8000000 in
set_option maxRecDepth 100000 in
theorem Sep.move {w0 w : World} {L : List Th} {gj gd : Nat} {fr n st nx : Int} (h : Sep w0 w (cellsT gj (jC gd fr n st nx) 134 :: L)) (to9 : Int) (h1 : st ≤ to9) (h2 : to9 ≤ nx) :
    Calls Tryd.prog 48 #[.pointer (some ⟨gj, 0, none⟩), .int .i64 to9] w fun e w' => e = .returned (.int .i64 0) ∧ Sep w0 w' (cellsT gj (jC gd fr n to9 nx) 134 :: L) := by
  have HX := Aside0.mk (show w.cell? ⟨gj, 3, none⟩ = some (.int .i64 st) ∧ w.cell? ⟨gj, 4, none⟩ = some (.int .i64 nx) from ⟨blk_cell h.cells.1 3, blk_cell h.cells.1 4⟩)
  have HS := Aside0.mk h
  have HO := Aside0.mk (fun (W : World) => outj_false to9 st nx W ⟨h1, h2⟩)
  clear h h1 h2
  go_enter Tryd.func48, Tryd.ntmps48
  go_upto_region 1 with (fail)
  have HBx := Aside0.mk (below_drew1 (Below.refl w.heap.size w))
  refine start_ (n := 10) (S := fun W => W.cell? ⟨gj, 3, none⟩ = some (.int .i64 st) ∧ W.cell? ⟨gj, 4, none⟩ = some (.int .i64 nx)) (ds := []) (bb 10 0) (by kernel_rfl) rfl rfl (⟨pw_cell_below HBx.out HX.out.1, pw_cell_below HBx.out HX.out.2⟩) (fun hHeld => ?_); refine with_tabW mv1_tab mv1_bits (fun HT_ HW_ => ?_)
  generalize w.drew = wd at hHeld HBx ⊢
  refine pure_ (i := 0) (N := (some 5)) (v := ?_) (a' := ?_) (bb 10 1) rfl rfl (any_of HT_.out (by kernel_rfl)) (fun _ _ _ h => h) (Or.inl ⟨by rfl, ?_⟩) ?_ ?_
  rotate_left
  · intro w'
    go_simp
    with_reducible rfl
  rotate_left
  · simp only [Act.put, List.setIfInBounds_toArray, List.set_cons_zero, List.set_cons_succ, i64_w, i32_w]
    rfl
  refine pure_ (i := 1) (N := (some 6)) (v := ?_) (a' := ?_) (bb 10 3) rfl rfl (any_of HT_.out (by kernel_rfl)) (fun _ _ _ h => h) (Or.inl ⟨by rfl, ?_⟩) ?_ ?_
  rotate_left
  · intro w'
    go_simp
    with_reducible rfl
  rotate_left
  · simp only [Act.put, List.setIfInBounds_toArray, List.set_cons_zero, List.set_cons_succ, i64_w, i32_w]
    rfl
  refine pure_ (i := 2) (N := (some 7)) (v := ?_) (a' := ?_) (bb 10 7) rfl rfl (any_of HT_.out (by kernel_rfl)) (fun _ _ _ h => h) (Or.inl ⟨by rfl, ?_⟩) ?_ ?_
  rotate_left
  · intro w'
    go_simp
    with_reducible rfl
  rotate_left
  · simp only [Act.put, List.setIfInBounds_toArray, List.set_cons_zero, List.set_cons_succ, i64_w, i32_w]
    rfl
  refine pure_ (i := 3) (N := (some 8)) (v := ?_) (a' := ?_) (bb 10 15) rfl rfl (any_of HT_.out (by kernel_rfl)) (fun _ _ _ h => h) (Or.inl ⟨by rfl, ?_⟩) ?_ ?_
  rotate_left
  · intro w'
    go_simp
    with_reducible rfl
  rotate_left
  · simp only [Act.put, List.setIfInBounds_toArray, List.set_cons_zero, List.set_cons_succ, i64_w, i32_w]
    rfl
  refine take_ (i := 4) (N := (some 9)) (v := ?_) (a' := ?_) (bb 10 31) rfl rfl (take_ofW HT_.out HW_.out (by kernel_rfl)) (fun _ _ _ h => h) (Or.inl ⟨by rfl, ?_⟩) hHeld ?_ ?_
  rotate_left
  · intro w' s0
    (try dsimp only at s0)
    go_simp
    with_reducible rfl
  rotate_left
  · simp only [Act.put, List.setIfInBounds_toArray, List.set_cons_zero, List.set_cons_succ, i64_w, i32_w]
    rfl
  refine pure_ (i := 5) (N := (some 10)) (v := ?_) (a' := ?_) (bb 10 63) rfl rfl (any_of HT_.out (by kernel_rfl)) (fun _ _ _ h => h) (Or.inl ⟨by rfl, ?_⟩) ?_ ?_
  rotate_left
  · intro w'
    go_simp
    with_reducible rfl
  rotate_left
  · simp only [Act.put, List.setIfInBounds_toArray, List.set_cons_zero, List.set_cons_succ, i64_w, i32_w]
    rfl
  refine pure_ (i := 6) (N := (some 11)) (v := ?_) (a' := ?_) (bb 10 127) rfl rfl (any_of HT_.out (by kernel_rfl)) (fun _ _ _ h => h) (Or.inl ⟨by rfl, ?_⟩) ?_ ?_
  rotate_left
  · intro w'
    go_simp
    with_reducible rfl
  rotate_left
  · simp only [Act.put, List.setIfInBounds_toArray, List.set_cons_zero, List.set_cons_succ, i64_w, i32_w]
    rfl
  refine pure_ (i := 7) (N := (some 12)) (v := ?_) (a' := ?_) (bb 10 255) rfl rfl (any_of HT_.out (by kernel_rfl)) (fun _ _ _ h => h) (Or.inl ⟨by rfl, ?_⟩) ?_ ?_
  rotate_left
  · intro w'
    go_simp
    with_reducible rfl
  rotate_left
  · simp only [Act.put, List.setIfInBounds_toArray, List.set_cons_zero, List.set_cons_succ, i64_w, i32_w]
    rfl
  refine take_ (i := 8) (N := (some 13)) (v := ?_) (a' := ?_) (bb 10 511) rfl rfl (take_ofW HT_.out HW_.out (by kernel_rfl)) (fun _ _ _ h => h) (Or.inl ⟨by rfl, ?_⟩) hHeld ?_ ?_
  rotate_left
  · intro w' s0
    (try dsimp only at s0)
    go_simp
    with_reducible rfl
  rotate_left
  · simp only [Act.put, List.setIfInBounds_toArray, List.set_cons_zero, List.set_cons_succ, i64_w, i32_w]
    rfl
  refine one_ (i := 9) (N := (some 14)) (bb 10 1023) rfl rfl (one_of HT_.out (by kernel_rfl)) (by decide) (fun K hK => ?_)
  refine goes_ Tryd.func62 (by kernel_rfl) rfl #[.int .i64 to9, .int .i64 st, .int .i64 nx] (by rfl) rfl rfl (by (try simp only [List.map_toArray, List.map_cons, List.map_nil]); first | done | rfl) ?_
  with_reducible refine (HO.out _).mono ?_
  rintro e w2 ⟨rfl, hb⟩
  have HB2 := Aside0.mk (below_step HBx.out hb)
  clear hb
  refine ⟨_, rfl, ?_⟩
  refine hK.out _ _ (⟨pw_cell_below HB2.out HX.out.1, pw_cell_below HB2.out HX.out.2⟩) (fun hHeld => ?_)
  clear hK K
  refine norm_ (a' := ?_) ?_ ?_
  rotate_left
  · show Act.put _ (some 14) _ = _
    simp only [Act.put, List.setIfInBounds_toArray, List.set_cons_zero, List.set_cons_succ, i64_w, i32_w]
    rfl
  refine done_ (done_of HT_.out (by kernel_rfl)) ?_
  clear hHeld HT_ HW_
  have HS2 := Aside0.mk (HS.out.step HB2.out)
  clear HX HBx HB2
  have y3 : w2.cell? ⟨gj, 3, none⟩ = some (.int .i64 st) := blk_cell HS2.out.cells.1 3
  have f3 := frozen_of HS2.out 3
  go_wp2
  go_ret
  exact ⟨rfl, HS2.out.cset 3 (.int .i64 to9)⟩
set_option maxHeartbeats 4000000 in
set_option maxRecDepth 100000 in
theorem Sep.num_new {w0 w : World} {L : List Th} {gj gw gd : Nat} {p : List Int} {r : List RF} {fr n st nx : Int} (h : Sep w0 w (wT gw (newW gj p r) :: cellsT gj (jC gd fr n st nx) 134 :: L)) :
    Calls Tryd.prog 49 #[.pointer (some ⟨gw, 0, none⟩)] w fun e w' => e = .returned (.int .i64 nx) ∧ Below w.heap.size w w' := by
  obtain ⟨A, c, h⟩ := WR.open_ h
  have x0 : w.cell? ⟨gw, 0, none⟩ = some (.bool false) := cell_at h.cells.1 0 rfl
  have x4 : w.cell? ⟨gw, 4, none⟩ = some (.pointer (some ⟨gj, 0, none⟩)) := cell_at h.cells.1 4 rfl
  have y4 : w.cell? ⟨gj, 4, none⟩ = some (.int .i64 nx) := blk_cell h.up2.cells.1 4
  have HB0 := Aside0.mk (Below.refl w.heap.size w)
  clear h
  go_enter Tryd.func49, Tryd.ntmps49
  go_wp2
  go_ret
  exact ⟨rfl, HB0.out⟩
set_option maxRecDepth 100000 in
theorem field88 (a b c : Int) (W : World) : (Instr.field 88 (.agg #[.int .i64 a, .int .i64 b, .int .i64 c]) 0).run Tryd.prog W = .ok (.int .i64 a) W ∧ (Instr.field 88 (.agg #[.int .i64 a, .int .i64 b, .int .i64 c]) 1).run Tryd.prog W = .ok (.int .i64 b) W ∧ (Instr.field 88 (.agg #[.int .i64 a, .int .i64 b, .int .i64 c]) 2).run Tryd.prog W = .ok (.int .i64 c) W := ⟨by kernel_rfl, by kernel_rfl, by kernel_rfl⟩
end Go.Proofs.YtagodmmpkapgnaaDoor.M

namespace Go.Proofs.YtagodmmpkapgnaaDoor.M
open Go.RowKit Go.Maps Go.Proofs.YtagodmmpkapgnaaDoorW.PrintWords Go.Proofs.YtagodmmpkapgnaaDoorW.PrintLast Go.Proofs.YtagodmmpkapgnaaDoorW.PrintMore Go.Proofs.YtagodmmpkapgnaaDoor.Wr Go.Proofs.YtagodmmpkapgnaaDoor.Pl Go.Proofs.YtagodmmpkapgnaaDoor.P Go.Proofs.YtagodmmpkapgnaaDoor.A
set_option linter.unusedVariables false
set_option linter.unusedSimpArgs false
def wd38_T : Bool × List (List Nat × List Nat) := (true, [([], []), ([], []), ([0, 1], [0, 1]), ([2], [2]), ([], []), ([4], [4]), ([], []), ([5, 6], [5, 6]), ([], []), ([], []), ([7, 8, 9], [7, 8, 9]), ([3, 10, 5], [3, 10]), ([11], [11])])
def wd38_B : List Nat := [0, 0, 3, 7, 0, 16, 0, 112, 0, 0, 1008, 2047, 4095]
theorem wd38_tab : rtab .any (opsOf Tryd.f11 38) = wd38_T := by kernel_rfl
theorem wd38_bits : waitsOk wd38_T.2 wd38_B = true := by kernel_rfl
def wideR (x : Nat) : RC := madeC (x : Int) (x % 65536)
theorem wideR_ok (x : Nat) : (wideR x).Ok := madeC_ok _ _
theorem wideR_may (x : Nat) (h : x ≤ 1099511627776) : (wideR x).May := madeC_may _ _ (by omega) (by omega)
structure WideD (s : DS) (fr n a x : Nat) : Prop where
  sn : s.n = fr + 1027
  c : s.c = 0
  wr : s.wr = (x : Int) - (a : Int)
  fl : s.fl = (x : Int) - (a : Int)
  j : JAt s fr n wideR a x
  z : ∀ k, k < fr + 1027 → (k < fr ∨ fr + n ≤ k) → s.cur k = zeros
theorem DS.rdN_wr (s : DS) : ∀ k, (s.rdN k).wr = s.wr ∧ (s.rdN k).fl = s.fl
  | 0 => ⟨rfl, rfl⟩
  | k + 1 => DS.rdN_wr s k
theorem WideD.rd {s : DS} {fr n a x : Nat} (h : WideD s fr n a x) (k : Nat) : WideD (s.rdN k) fr n a x :=
  ⟨by rw [DS.rdN_n]; exact h.sn, by rw [DS.rdN_c]; exact h.c, by rw [(DS.rdN_wr s k).1]; exact h.wr, by rw [(DS.rdN_wr s k).2]; exact h.fl, h.j.rd k, fun i h1 h2 => by rw [DS.rdN_cur]; exact h.z i h1 h2⟩
theorem WideD.add {s : DS} {fr n a x : Nat} (h : WideD s fr n a x) (ha : a ≤ x) (hx : x ≤ 8589934592) : WideD (s.put (fr + x % n) (encJ (wideR x))).flush fr n a (x + 1) := by
  have hq := Nat.mod_lt x h.j.n1
  have hf := h.j.fit
  have hn := h.sn
  refine ⟨h.sn, rfl, ?_, ?_, (h.j.put ha (wideR_ok x) (wideR_may x (by omega)) rfl).flush, fun k h1 h2 => ?_⟩
  · show wrap64 (s.wr + 1) = _
    rw [h.wr, w64 (by omega) (by omega)]
    omega
  · show wrap64 (s.fl + 1) = _
    rw [h.fl, w64 (by omega) (by omega)]
    omega
  · rw [flush_cur (s.put (fr + x % n) (encJ (wideR x))) (show k < s.n by omega), put_cur_ne _ _ (by omega)]
    exact h.z k h1 h2
theorem WideD.at_ {s : DS} {fr n a x : Nat} (h : WideD s fr n a x) : (s.put (fr + x % n) (encJ (wideR x))).flush.cur (fr + x % n) = encJ (wideR x) := by
  have hq := Nat.mod_lt x h.j.n1
  have hf := h.j.fit
  have hn := h.sn
  rw [flush_cur (s.put (fr + x % n) (encJ (wideR x))) (show fr + x % n < s.n by omega), put_cur]
set_option maxHeartbeats 32000000 in
set_option maxRecDepth 100000 in
theorem wide11 (a0 a1 a2 more : Int) (w : World) (hH : Wr.Half w) : Calls Tryd.prog 11 #[.int .i64 a0, .int .i64 a1, .int .i64 a2, .int .i64 more] w fun e w' => e = .returned (.bool true) ∧ Below w.heap.size w w' := by
  have HP0 := Aside0.mk (fun W => place28 a0 1024 (by decide) (by decide) W)
  have HP1 := Aside0.mk (fun W => place28 a1 900 (by decide) (by decide) W)
  have HP2 := Aside0.mk (fun W => place28 a2 4294967296 (by decide) (by decide) W)
  obtain ⟨n, hn1, hn2, hn⟩ : ∃ n : Nat, 1 ≤ n ∧ n ≤ 1024 ∧ a0 % 1024 = (n : Int) - 1 := ⟨(a0 % 1024).toNat + 1, by omega, by omega, by omega⟩
  obtain ⟨fr, hfr, hfe⟩ : ∃ F : Nat, F < 900 ∧ a1 % 900 = (F : Int) := ⟨(a1 % 900).toNat, by omega, by omega⟩
  obtain ⟨a, ha, hae⟩ : ∃ F : Nat, F < 4294967296 ∧ a2 % 4294967296 = (F : Int) := ⟨(a2 % 4294967296).toNat, by omega, by omega⟩
  have HP3 := Aside0.mk (fun W => place28 more ((n : Int) + 1) (by omega) (by omega) W)
  have hc0 := Int.emod_nonneg more (show (n : Int) + 1 ≠ 0 by omega)
  have hc1 := Int.emod_lt_of_pos more (show (0 : Int) < (n : Int) + 1 by omega)
  obtain ⟨z, hz1, hz2, hze⟩ : ∃ z : Nat, a + n ≤ z ∧ z ≤ a + n + n ∧ (a : Int) + (n : Int) + more % ((n : Int) + 1) = (z : Int) := ⟨a + n + (more % ((n : Int) + 1)).toNat, by omega, by omega, by omega⟩
  have HP4 := Aside0.mk (fun W => place28 more n (by omega) (by omega) W)
  have hd0 := Int.emod_nonneg more (show (n : Int) ≠ 0 by omega)
  have hd1 := Int.emod_lt_of_pos more (show (0 : Int) < (n : Int) by omega)
  obtain ⟨D, hD, hDe⟩ : ∃ D : Nat, D < n ∧ more % (n : Int) = (D : Int) := ⟨(more % (n : Int)).toNat, by omega, by omega⟩
  rw [hn] at HP0
  rw [hfe] at HP1
  rw [hae] at HP2
  rw [hDe] at HP4
  generalize more % ((n : Int) + 1) = M1 at HP3 hc0 hc1 hze
  clear hn hfe hae hDe hd0 hd1
  have HS0 := Aside0.mk (Sep.refl w)
  have HNN := Aside0.mk (show (1 ≤ n ∧ n ≤ 1024) ∧ fr < 900 ∧ a < 4294967296 ∧ (a + n ≤ z ∧ z ≤ a + n + n) ∧ D < n from ⟨⟨hn1, hn2⟩, hfr, ha, ⟨hz1, hz2⟩, hD⟩)
  have HTO := Aside0.mk (fun W (hb : Below w.heap.size w W) => told_calls W (hH.below hb))
  have HNW := Aside0.mk (fun (W : World) (h : Sep w W []) => (show Calls Tryd.prog 29 #[.int .i64 ((fr : Int) + 1027)] W (fun e w' => ∃ g, e = .returned (.tuple #[.pointer (some ⟨g, 0, none⟩), .int .i64 0]) ∧ Sep w w' [dkT g (DS.fresh (fr + 1027) (List.replicate (fr + 1027) zeros))]) from by
    have h2 := h.new (fr + 1027) (by omega) (by omega)
    rw [Int.natCast_add] at h2
    exact h2))
  have HJ0 := Aside0.mk (show JAt (DS.fresh (fr + 1027) (List.replicate (fr + 1027) zeros)) fr n wideR a a from JAt.fresh (fr + 1027) fr n wideR a hn1 (by omega))
  have HW0 := Aside0.mk (show WideD (DS.fresh (fr + 1027) (List.replicate (fr + 1027) zeros)) fr n a a from ⟨rfl, rfl, (Int.sub_self _).symm, (Int.sub_self _).symm, HJ0.out, fun k h1 h2 => fresh_cur h1⟩)
  generalize hD0 : DS.fresh (fr + 1027) (List.replicate (fr + 1027) zeros) = s0 at HNW HJ0 HW0
  clear hD0
  have HNO := Aside0.mk (fun (W : World) (g : Nat) (h : Sep w W (dkT g s0 :: [])) => h.replay_no (fr : Int) 1025 (a : Int) (fun hx => absurd hx.2.2.1 (by decide)))
  have HOP := Aside0.mk (fun (W : World) (g : Nat) (h : Sep w W (dkT g s0 :: [])) => h.opens_none hH HJ0.out.bytes fr n a hn1 hn2 HJ0.out.fit (by omega) (by have h := HJ0.out.rep a (Nat.le_refl _) (Nat.le_refl _) (by omega); rw [Nat.sub_self] at h; exact h))
  have HMD := Aside0.mk (fun (k : Nat) (hk : k ≤ 65536) (W : World) => made31 k hk W)
  have hz := (zero_of_info (P := Tryd.prog) (t := 23) (v := .agg (nums .u8 (List.replicate 32 0)).toArray) (n := 32) (by kernel_rfl)).1
  have HKV := Aside0.mk (fun (k : Nat) => (show (nums .u8 (List.replicate 32 0)).toArray.size = (nums .u8 (madeK k)).toArray.size from by simp [nums_length, madeK_len]))
  have HKA := Aside0.mk (fun (k : Nat) => nums_all (madeK k))
  have HSK := Aside0.mk (fun (k : Nat) => (show (Tryd.prog.info? 23).map (·.size) = some (nums .u8 (madeK k)).toArray.size from size23 (by simp [nums_length, madeK_len])))
  have hzr := (zero_of_info (P := Tryd.prog) (t := 26) (v := .agg zRC) (n := 34) (by unfold zRC; kernel_rfl)).1
  have HZs := Aside0.mk zRC_size
  generalize zRC = Z at hzr HZs
  have HFU := Aside0.mk (fun (gj gd st x : Nat) (W : World) (b : Bool) (h : W.heap[gj]? = some (.cells (jC gd fr n st x) 134 (0, 0))) (h1 : st ≤ x) (h2 : x ≤ 8589934592) (hb : decide ((n : Int) ≤ (x : Int) - (st : Int)) = b) => (show Calls Tryd.prog 46 #[.pointer (some ⟨gj, 0, none⟩)] W (fun e w' => e = .returned (.bool b) ∧ Below W.heap.size W w') from by
    have h2 := full_calls h (by omega) (by omega) (by omega) (by omega)
    rwa [hb] at h2))
  have HADD := Aside0.mk (fun (st x y : Nat) (W : World) (L : List Th) (gj gd : Nat) (A : Option Addr) (c : Nat) (h : Sep w W (cellsT gj (jC gd fr n st x) 134 :: L)) (h1 : st ≤ x) (h2 : x ≤ 8589934592) (h3 : x < st + n) (hC : kRF.C W A (y % 8 + 1) (madeL y (y % 8 + 1))) => h.add_yes (by omega) (by omega) (by omega) (by omega) (madeK y) (madeK_len y) (madeL y (y % 8 + 1)) (y % 8 + 1) (madeL_len _ _) A c hC (madeC_refs y) (roomE_zero (by omega) (by omega)))
  have HSTY := Aside0.mk (fun (st x y : Nat) (W : World) (L : List Th) (gj gd gw : Nat) (s : DS) (h : Sep w W (wT gw (newW gj (madeK y) (madeL y (y % 8 + 1))) :: cellsT gj (jC gd fr n st x) 134 :: dkT gd s :: L)) (h1 : st ≤ x) (h2 : x ≤ 8589934592) (h3 : x < st + n) (hn : s.n = fr + 1027) (hc : s.c = 0) (hy : y = x % 65536) => (show Calls Tryd.prog 33 #[.pointer (some ⟨gw, 0, none⟩)] W (fun e w' => e = .returned (.tuple #[.bool false, .int .i64 0]) ∧ Sep w w' (wT gw (wrW gj (madeK y) (madeL y (y % 8 + 1)) (x : Int)) :: cellsT gj (jC gd fr n st ((x + 1 : Nat) : Int)) 134 :: dkT gd (s.put (fr + x % n) (encJ (wideR x))) :: L)) from by
    have e : wideR x = (⟨(x : Int), madeK y, madeL y (y % 8 + 1)⟩ : RC) := by subst hy; rfl
    rw [e]
    exact Sep.step1 (fr := fr) (n := n) (st := st) (nx := x) h hH (madeC_ok _ y) (madeC_refs y) (by omega) (by omega) (roomE_zero (by omega) (by omega)) hn1 (by omega) (by omega)))
  have HHH := Aside0.mk (fun W (hb : Below w.heap.size w W) => hH.below hb)
  have e1 : 1 + ((n : Int) - 1) = (n : Int) := by omega
  have hn1' : (1 : Int) ≤ (n : Int) := by omega
  have hn2' : (n : Int) ≤ 1024 := by omega
  have hfr' : (fr : Int) < 900 := by omega
  have ha' : (a : Int) < 4294967296 := by omega
  have hz' : (z : Int) ≤ 4294969344 := by omega
  have HH := Aside0.mk hH
  clear hH hn1 hn2 hfr ha hz1 hz2 hD
  generalize (nums .u8 (List.replicate 32 0)).toArray = K0 at hz HKV
  go_enter Tryd.func11, Tryd.ntmps11
  go_upto_region 14 with (first
    | (go_at_call 28; (with_reducible refine (HP0.out _).mono ?_); rintro e w1 ⟨rfl, hb⟩; have HS1 := Aside0.mk (HS0.out.step hb); clear hb)
    | (go_at_call 28; (with_reducible refine (HP1.out _).mono ?_); rintro e w1b ⟨rfl, hb⟩; have HS1b := Aside0.mk (HS1.out.step hb); clear hb)
    | (go_at_call 28; (with_reducible refine (HP2.out _).mono ?_); rintro e w1c ⟨rfl, hb⟩; have HS1c := Aside0.mk (HS1b.out.step hb); clear hb)
    | (go_at_call 29; (with_reducible refine (HNW.out _ HS1c.out).mono ?_); rintro e w2 ⟨g, rfl, h2⟩; have HS2 := Aside0.mk h2; clear h2)
    | (go_at_call 14; (with_reducible refine (HTO.out _ HS2.out.below).mono ?_); rintro e w2b ⟨rfl, hb⟩; have HS2b := Aside0.mk (HS2.out.step hb); clear hb)
    | (go_at_call 37; (with_reducible refine (HNO.out _ _ HS2b.out).mono ?_); rintro e w2c ⟨rfl, hb⟩; have HS2c := Aside0.mk (HS2b.out.step hb); clear hb)
    | (go_at_call 30; (with_reducible refine (HOP.out _ _ HS2c.out).mono ?_); rintro e w3 ⟨gj, A3, c3, rfl, h3⟩; have HS3 := Aside0.mk h3; clear h3)
    | (go_at_call 28; (with_reducible refine (HP3.out _).mono ?_); rintro e w4 ⟨rfl, hb⟩; have HS4 := Aside0.mk (HS3.out.step hb); clear hb))
  clear HS0 HS1 HS1b HS1c HS2 HS2b HS2c HS3 HNW HOP HNO HTO HP0 HP1 HP2 HP3 e1
  go_upto_region 15 with (fail)
  go_loopg [15] (z - a) (fun kq v15 wr => ∃ x st : Nat, v15 = .int .i64 (x : Int) ∧ Aside0 (x + kq = z ∧ a ≤ st ∧ st ≤ x ∧ x ≤ st + n) ∧ Aside0 (∃ s : DS, WideD s fr n a x ∧ Sep w wr (cellsT gj (jC g fr n st x) 134 :: dkT g s :: [])))
  case atStart => exact ⟨a, a, rfl, ⟨by have := HNN.out; omega⟩, ⟨s0.rdN 1, HW0.out.rd 1, HS4.out⟩⟩
  case round =>
    obtain ⟨x, st, rfl, HJ, hS⟩ := hrel
    obtain ⟨s, hsn, hS⟩ := hS.out
    have HS := Aside0.mk hS
    have HSN := Aside0.mk hsn
    clear hS hsn HS4
    have hxz : (x : Int) ≤ (z : Int) := by have := HJ.out; omega
    have hsx : (st : Int) ≤ (x : Int) := by have := HJ.out; omega
    by_cases hx : x < z
    · have t0 : decide (x < z) = true := decide_eq_true hx
      have HX := Aside0.mk hx
      by_cases hf : n + st ≤ x
      · have hf2 : (n : Int) ≤ (x : Int) - (st : Int) := by omega
        have tf : decide ((n : Int) ≤ (x : Int) - (st : Int)) = true := decide_eq_true hf2
        have HF := Aside0.mk (fun (W : World) (M : List Th) (h : Sep w W (cellsT gj (jC g fr n st x) 134 :: M)) => HFU.out gj g st x W true h.cells.1 (by omega) (by have := HJ.out; have := HNN.out; omega) tf)
        obtain ⟨sq, hsq⟩ : ∃ sq : Nat, (sq : Int) = (st : Int) + 1 + (D : Int) := ⟨st + 1 + D, by omega⟩
        have HSQ := Aside0.mk (show a ≤ sq ∧ sq ≤ x ∧ x < sq + n from by have := HJ.out; have := HNN.out; omega)
        have HMV := Aside0.mk (fun (W : World) (M : List Th) (h : Sep w W (cellsT gj (jC g fr n st x) 134 :: M)) => (show Calls Tryd.prog 48 #[.pointer (some ⟨gj, 0, none⟩), .int .i64 ((st : Int) + 1 + (D : Int))] W (fun e w' => e = .returned (.int .i64 0) ∧ Sep w w' (cellsT gj (jC g fr n sq x) 134 :: M)) from by
          rw [← hsq]
          exact h.move (sq : Int) (by omega) (by have := HSQ.out; omega)))
        have hD1 : (D : Int) < 1024 := by have := HNN.out; omega
        have hst0 : (0 : Int) ≤ (st : Int) := by omega
        clear hf hf2 hsq
        go_upto_region 19 with (first
          | (go_at_call 46; (with_reducible refine (HF.out _ _ HS.out).mono ?_); rintro e w5 ⟨rfl, hb⟩; have HS5 := Aside0.mk (HS.out.step hb); clear hb)
          | (go_at_call 34; (with_reducible refine (next_calls HS5.out.cells.1).mono ?_); rintro e w6 ⟨rfl, hb⟩; have HS6 := Aside0.mk (HS5.out.step hb); clear hb)
          | (go_at_call 47; (with_reducible refine (start47 HS6.out.cells.1).mono ?_); rintro e w7 ⟨rfl, hb⟩; have HS7 := Aside0.mk (HS6.out.step hb); clear hb)
          | (go_at_call 46; (with_reducible refine (HF.out _ _ HS7.out).mono ?_); rintro e w8 ⟨rfl, hb⟩; have HS8 := Aside0.mk (HS7.out.step hb); clear hb)
          | (go_at_call 47; (with_reducible refine (start47 HS8.out.cells.1).mono ?_); rintro e w9 ⟨rfl, hb⟩; have HS9 := Aside0.mk (HS8.out.step hb); clear hb)
          | (go_at_call 28; (with_reducible refine (HP4.out _).mono ?_); rintro e wA ⟨rfl, hb⟩; have HSA := Aside0.mk (HS9.out.step hb); clear hb)
          | (go_at_call 48; (with_reducible refine (HMV.out _ _ HSA.out).mono ?_); rintro e wB ⟨rfl, hb⟩; have HSB := Aside0.mk hb; clear hb))
        clear HS HS5 HS6 HS7 HS8 HS9 HSA HF HMV tf hst0 hD1 hsx
        generalize wB = wC at HSB ⊢
        have hy1 : (x : Int) % 65536 = ((x % 65536 : Nat) : Int) := by omega
        have HY := Aside0.mk (show x % 65536 ≤ 65536 ∧ x % 65536 = x % 65536 from ⟨by omega, rfl⟩)
        have HYX := Aside0.mk (show ∃ y, y = x % 65536 from ⟨_, rfl⟩)
        obtain ⟨y, hyx⟩ : ∃ y, y = x % 65536 := ⟨_, rfl⟩
        rw [← hyx] at hy1
        have HYE := Aside0.mk hyx
        have HY6 := Aside0.mk (show y ≤ 65536 from by omega)
        clear hyx HY HYX
        have hmod : ((x : Int)).tmod (n : Int) = ((x % n : Nat) : Int) := tmod_nat x n
        have HMQ := Aside0.mk (Nat.mod_lt x (show 0 < n by have := HNN.out; omega))
        have hn0 : ¬ n = 0 := by have := HNN.out; omega
        have HWA := Aside0.mk (HSN.out.add (by have := HSQ.out; omega) (by have := HX.out; have := HNN.out; omega))
        have HWT := Aside0.mk HSN.out.at_
        have HST := Aside0.mk (fun (W : World) (L : List Th) (gw : Nat) (h : Sep w W (wT gw (newW gj (madeK y) (madeL y (y % 8 + 1))) :: cellsT gj (jC g fr n sq x) 134 :: dkT g s :: L)) => HSTY.out sq x y W L gj g gw s h HSQ.out.2.1 (by have := HX.out; have := HNN.out; omega) HSQ.out.2.2 HSN.out.sn HSN.out.c HYE.out)
        generalize x % n = q at hmod HMQ HWA HWT HST
        have hq1 : (q : Int) < (n : Int) := by have := HMQ.out; omega
        go_upto_region 20 with (first
          | (go_at_call 31; (with_reducible refine (HMD.out y HY6.out _).mono ?_); rintro e wD ⟨AD, cD, rfl, hD⟩; have HSD := Aside0.mk (HSB.out.then_ hD); clear hD)
          | ((with_reducible refine gate_store (ty := 23) rfl ?_); refine Sep.store_own rfl 23 _ _ rfl rfl rfl (HSD.out.push_alloc K0 23) (HSK.out y) (HKV.out y) (HKA.out y) ?_; intro wE hE; have HSE := Aside0.mk hE; clear hE))
        generalize wD.heap.size = g6 at HSE ⊢
        clear HSD hz
        go_upto_region 25 with (first
          | ((with_reducible refine gate_load (ty := 23) rfl ?_); refine wpList_ldw ?_ 23 _ rfl ⟨g6, 0, none⟩ ?_ _ _ (cells_agg HSE.out) Tryd.underlying23 rfl (HSK.out y) ?_; exact rfl; exact rfl; skip)
          | (go_at_call 32; (with_reducible refine (HADD.out sq x y _ _ _ _ _ _ HSE.out.up2 HSQ.out.2.1 (by have := HX.out; have := HNN.out; omega) HSQ.out.2.2 (by have h := HSE.out.up1.own_C.1; rwa [madeL_len] at h)).mono ?_); rintro e wF ⟨gw, rfl, hF⟩; have HSF := Aside0.mk (show Sep w wF (wT gw (newW gj (madeK y) (madeL y (y % 8 + 1))) :: cellsT gj (jC g fr n sq x) 134 :: dkT g s :: cellsT g6 (nums .u8 (madeK y)).toArray 23 :: ownT kRF 69 (.slice AD (y % 8 + 1) cD) (madeL y (y % 8 + 1)) :: []) from hF.sel 5 [0, 1, 4, 2, 3] _ rfl (by decide) rfl); clear hF)
          | (go_at_call 49; (with_reducible refine (Sep.num_new HSF.out).mono ?_); rintro e wG ⟨rfl, hb⟩; have HSG := Aside0.mk (HSF.out.step hb); clear hb HSF)
          | (go_at_call 33; (with_reducible refine (HST.out _ _ _ HSG.out).mono ?_); rintro e wH ⟨rfl, hH2⟩; have HSH := Aside0.mk hH2; clear hH2 HSG)
          | (go_at_call 33; (with_reducible refine (Sep.step2 HSH.out).mono ?_); rintro e wI ⟨rfl, hI⟩; have HSI := Aside0.mk hI; clear hI))
        clear HSE HSH HST HSB
        generalize (s.put (fr + q) (encJ (wideR x))).flush = s2 at HSI HWA HWT
        have HRE := Aside0.mk (show Calls Tryd.prog 50 #[.pointer (some ⟨g, 0, none⟩), .int .i64 ((fr : Int) + (q : Int))] wI (fun e w' => ∃ v, e = .returned (.tuple #[v, .int .i64 0]) ∧ Sep w w' (ownT (Kd.int .u8) 5 v (encJ (wideR x)) :: dkT g s2.reads :: cellsT gj (jC g fr n sq ((x + 1 : Nat) : Int)) 134 :: cellsT g6 (nums .u8 (madeK y)).toArray 23 :: ownT kRF 69 (.slice AD (y % 8 + 1) cD) (madeL y (y % 8 + 1)) :: [])) from by
          have h := HSI.out.up1.read (fr + q) (by rw [HWA.out.sn]; have := HMQ.out; have := HNN.out; omega)
          rw [HWT.out, Int.natCast_add] at h
          exact h)
        have HEB := Aside0.mk (show bytes_ (encJ (wideR x)) ∧ (encJ (wideR x)).length = 512 ∧ decJ (encJ (wideR x)) = some (wideR x) from by
          have hm := wideR_may x (by have := HX.out; have := HNN.out; omega)
          exact ⟨bytes_encJ (wideR_ok x) hm.r8, encJ_len (wideR_ok x) hm.r8, decJ_enc (wideR_ok x) hm⟩)
        have HRR := Aside0.mk (show wideR x = ⟨(x : Int), madeK y, madeL y (y % 8 + 1)⟩ from by rw [HYE.out]; rfl)
        have HRO := Aside0.mk (wideR_ok x)
        generalize encJ (wideR x) = eb at HRE HEB
        go_upto_region 26 with (go_at_call 50; (with_reducible refine HRE.out.mono ?_); rintro e wJ ⟨vJ, rfl, hJ2⟩; have HSJ := Aside0.mk hJ2; clear hJ2)
        clear HRE HSI
        obtain ⟨AJ, cJ, rfl⟩ := HSJ.out.own_slice
        rw [HEB.out.2.1] at HSJ ⊢
        have HDE := Aside0.mk (show Calls Tryd.prog 24 #[.slice AJ 512 cJ] wJ (fun e w' => ∃ A' c', e = .returned (.tuple #[.agg ((wideR x).V A' c').toArray, .int .i64 0]) ∧ Sep wJ w' [ownT kRF 69 (.slice A' (wideR x).r.length c') (wideR x).r]) from by
          have h := HSJ.out.own_C
          rw [HEB.out.2.1] at h
          exact decode_some eb HEB.out.1 AJ 512 cJ HEB.out.2.1 h.2 wJ (HHH.out _ HSJ.out.below) h.1 (wideR x) HEB.out.2.2)
        have HSZ := Aside0.mk (fun (A' : Option Addr) (c' : Nat) => RC.size HRO.out A' c')
        have HVA := Aside0.mk (fun (A' : Option Addr) (c' : Nat) => RC.V_all (wideR x) A' c')
        have HVS := Aside0.mk (fun (A' : Option Addr) (c' : Nat) => (show ((wideR x).V A' c').toArray.size = 34 from by simpa using RC.V_len HRO.out A' c'))
        have HBU := Aside0.mk (fun (A' : Option Addr) (c' : Nat) => (show Tryd.prog.built 26 [(0, .int .i64 (x : Int)), (1, .agg (nums .u8 (madeK y)).toArray), (2, .slice A' (y % 8 + 1) c')] = some ((wideR x).V A' c').toArray from by
          rw [HRR.out]
          exact built26f (x : Int) (madeK y) (madeK_len y) (madeL y (y % 8 + 1)) A' c' _ (madeL_len _ _)))
        have HRL := Aside0.mk (show (wideR x).r.length = y % 8 + 1 ∧ (wideR x).r = madeL y (y % 8 + 1) from by rw [HRR.out]; exact ⟨madeL_len _ _, rfl⟩)
        go_upto_region 27 with (first
          | (go_at_call 24; (with_reducible refine HDE.out.mono ?_); rintro e wK ⟨AK, cK, rfl, hK⟩; have HSK2 := Aside0.mk (HSJ.out.then_ hK); clear hK)
          | ((with_reducible refine gate_store (ty := 26) rfl ?_); refine Sep.store_own rfl 26 _ _ rfl rfl rfl (HSK2.out.push_alloc Z 26) (HSZ.out AK cK) (HZs.out.trans (HVS.out AK cK).symm) (HVA.out AK cK) ?_; intro wL hL; have HSL := Aside0.mk hL; clear hL))
        generalize wK.heap.size = g22 at HSL ⊢
        clear HSJ HSK2 HDE hzr
        have HSL := Aside0.mk (show Sep w wL (cellsT g22 ((wideR x).V AK cK).toArray 26 :: ownT kRF 69 (.slice AK (wideR x).r.length cK) (wideR x).r :: ownT (Kd.int .u8) 5 (.slice AJ 512 cJ) eb :: dkT g s2.reads :: cellsT gj (jC g fr n sq ((x + 1 : Nat) : Int)) 134 :: cellsT g6 (nums .u8 (madeK y)).toArray 23 :: ownT kRF 69 (.slice AD (y % 8 + 1) cD) (madeL y (y % 8 + 1)) :: []) from HSL.out)
        have HSR := Aside0.mk (show Calls Tryd.prog 27 #[.agg ((wideR x).V AK cK).toArray, .agg ((wideR x).V AD cD).toArray] wL (fun e w' => e = .returned (.bool true) ∧ Below wL.heap.size wL w') from sameRecord (wideR x) HRO.out (wideR x).r.length rfl AK AD cK cD wL HSL.out.up1.own_C.1 (by
          have h := HSL.out.drop.drop.drop.up3.own_C.1
          rw [madeL_len] at h
          rw [HRL.out.1, HRL.out.2]
          exact h))
        go_wp2_with (first
          | ((with_reducible refine gate_load (ty := 26) rfl ?_); refine wpList_ldw ?_ 26 _ rfl ⟨g22, 0, none⟩ ?_ _ _ (cells_agg HSL.out) Tryd.underlying26 rfl (HSZ.out AK cK) ?_; exact rfl; exact rfl; skip)
          | ((with_reducible refine gate_load (ty := 23) rfl ?_); refine wpList_ldw ?_ 23 _ rfl ⟨g6, 0, none⟩ ?_ _ _ (cells_agg HSL.out.up5) Tryd.underlying23 rfl (HSK.out y) ?_; exact rfl; exact rfl; skip)
          | ((with_reducible refine gate_build (ty := 26) rfl ?_); refine gate_guard (by rfl) ?_; dsimp only; refine wpList_buildTo rfl 26 _ rfl (some 174) rfl ((wideR x).V AD cD).toArray ?aB ?_; (case aB => (simp only [List.map_toArray, List.map_cons, List.map_nil]; exact HBU.out _ _)))
          | (go_at_call 27; (with_reducible refine HSR.out.mono ?_); rintro e wM ⟨rfl, hb⟩; have HSM := Aside0.mk (HSL.out.step hb); clear hb))
        go_roundg (z - (x + 1))
        case measure => have := HJ.out; have := HX.out; have := HNN.out; omega
        case rel => exact ⟨x + 1, sq, by rw [Int.natCast_add]; rfl, ⟨by have := HX.out; have := HSQ.out; omega⟩, ⟨s2.reads, HWA.out.rd 1, HSM.out.sel 7 [4, 3] _ rfl (by decide) rfl⟩⟩
      · have hf2 : ¬ (n : Int) ≤ (x : Int) - (st : Int) := by omega
        have tf : decide ((n : Int) ≤ (x : Int) - (st : Int)) = false := decide_eq_false hf2
        have HF := Aside0.mk (fun (W : World) (M : List Th) (h : Sep w W (cellsT gj (jC g fr n st x) 134 :: M)) => HFU.out gj g st x W false h.cells.1 (by omega) (by have := HJ.out; have := HNN.out; omega) tf)
        have HSQ := Aside0.mk (show a ≤ st ∧ st ≤ x ∧ x < st + n from by have := HJ.out; omega)
        clear hf hf2
        go_upto_region 19 with (first
          | (go_at_call 46; (with_reducible refine (HF.out _ _ HS.out).mono ?_); rintro e w5 ⟨rfl, hb⟩; have HS5 := Aside0.mk (HS.out.step hb); clear hb)
          | (go_at_call 34; (with_reducible refine (next_calls HS5.out.cells.1).mono ?_); rintro e w6 ⟨rfl, hb⟩; have HS6 := Aside0.mk (HS5.out.step hb); clear hb)
          | (go_at_call 47; (with_reducible refine (start47 HS6.out.cells.1).mono ?_); rintro e w7 ⟨rfl, hb⟩; have HS7 := Aside0.mk (HS6.out.step hb); clear hb)
          | (go_at_call 46; (with_reducible refine (HF.out _ _ HS7.out).mono ?_); rintro e w8 ⟨rfl, hb⟩; have HSB := Aside0.mk (HS7.out.step hb); clear hb))
        clear HS HS5 HS6 HS7 HF tf hsx
        generalize st = sq at HSB HSQ
        generalize w8 = wC at HSB ⊢
        have hy1 : (x : Int) % 65536 = ((x % 65536 : Nat) : Int) := by omega
        have HY := Aside0.mk (show x % 65536 ≤ 65536 ∧ x % 65536 = x % 65536 from ⟨by omega, rfl⟩)
        have HYX := Aside0.mk (show ∃ y, y = x % 65536 from ⟨_, rfl⟩)
        obtain ⟨y, hyx⟩ : ∃ y, y = x % 65536 := ⟨_, rfl⟩
        rw [← hyx] at hy1
        have HYE := Aside0.mk hyx
        have HY6 := Aside0.mk (show y ≤ 65536 from by omega)
        clear hyx HY HYX
        have hmod : ((x : Int)).tmod (n : Int) = ((x % n : Nat) : Int) := tmod_nat x n
        have HMQ := Aside0.mk (Nat.mod_lt x (show 0 < n by have := HNN.out; omega))
        have hn0 : ¬ n = 0 := by have := HNN.out; omega
        have HWA := Aside0.mk (HSN.out.add (by have := HSQ.out; omega) (by have := HX.out; have := HNN.out; omega))
        have HWT := Aside0.mk HSN.out.at_
        have HST := Aside0.mk (fun (W : World) (L : List Th) (gw : Nat) (h : Sep w W (wT gw (newW gj (madeK y) (madeL y (y % 8 + 1))) :: cellsT gj (jC g fr n sq x) 134 :: dkT g s :: L)) => HSTY.out sq x y W L gj g gw s h HSQ.out.2.1 (by have := HX.out; have := HNN.out; omega) HSQ.out.2.2 HSN.out.sn HSN.out.c HYE.out)
        generalize x % n = q at hmod HMQ HWA HWT HST
        have hq1 : (q : Int) < (n : Int) := by have := HMQ.out; omega
        go_upto_region 20 with (first
          | (go_at_call 31; (with_reducible refine (HMD.out y HY6.out _).mono ?_); rintro e wD ⟨AD, cD, rfl, hD⟩; have HSD := Aside0.mk (HSB.out.then_ hD); clear hD)
          | ((with_reducible refine gate_store (ty := 23) rfl ?_); refine Sep.store_own rfl 23 _ _ rfl rfl rfl (HSD.out.push_alloc K0 23) (HSK.out y) (HKV.out y) (HKA.out y) ?_; intro wE hE; have HSE := Aside0.mk hE; clear hE))
        generalize wD.heap.size = g6 at HSE ⊢
        clear HSD hz
        go_upto_region 25 with (first
          | ((with_reducible refine gate_load (ty := 23) rfl ?_); refine wpList_ldw ?_ 23 _ rfl ⟨g6, 0, none⟩ ?_ _ _ (cells_agg HSE.out) Tryd.underlying23 rfl (HSK.out y) ?_; exact rfl; exact rfl; skip)
          | (go_at_call 32; (with_reducible refine (HADD.out sq x y _ _ _ _ _ _ HSE.out.up2 HSQ.out.2.1 (by have := HX.out; have := HNN.out; omega) HSQ.out.2.2 (by have h := HSE.out.up1.own_C.1; rwa [madeL_len] at h)).mono ?_); rintro e wF ⟨gw, rfl, hF⟩; have HSF := Aside0.mk (show Sep w wF (wT gw (newW gj (madeK y) (madeL y (y % 8 + 1))) :: cellsT gj (jC g fr n sq x) 134 :: dkT g s :: cellsT g6 (nums .u8 (madeK y)).toArray 23 :: ownT kRF 69 (.slice AD (y % 8 + 1) cD) (madeL y (y % 8 + 1)) :: []) from hF.sel 5 [0, 1, 4, 2, 3] _ rfl (by decide) rfl); clear hF)
          | (go_at_call 49; (with_reducible refine (Sep.num_new HSF.out).mono ?_); rintro e wG ⟨rfl, hb⟩; have HSG := Aside0.mk (HSF.out.step hb); clear hb HSF)
          | (go_at_call 33; (with_reducible refine (HST.out _ _ _ HSG.out).mono ?_); rintro e wH ⟨rfl, hH2⟩; have HSH := Aside0.mk hH2; clear hH2 HSG)
          | (go_at_call 33; (with_reducible refine (Sep.step2 HSH.out).mono ?_); rintro e wI ⟨rfl, hI⟩; have HSI := Aside0.mk hI; clear hI))
        clear HSE HSH HST HSB
        generalize (s.put (fr + q) (encJ (wideR x))).flush = s2 at HSI HWA HWT
        have HRE := Aside0.mk (show Calls Tryd.prog 50 #[.pointer (some ⟨g, 0, none⟩), .int .i64 ((fr : Int) + (q : Int))] wI (fun e w' => ∃ v, e = .returned (.tuple #[v, .int .i64 0]) ∧ Sep w w' (ownT (Kd.int .u8) 5 v (encJ (wideR x)) :: dkT g s2.reads :: cellsT gj (jC g fr n sq ((x + 1 : Nat) : Int)) 134 :: cellsT g6 (nums .u8 (madeK y)).toArray 23 :: ownT kRF 69 (.slice AD (y % 8 + 1) cD) (madeL y (y % 8 + 1)) :: [])) from by
          have h := HSI.out.up1.read (fr + q) (by rw [HWA.out.sn]; have := HMQ.out; have := HNN.out; omega)
          rw [HWT.out, Int.natCast_add] at h
          exact h)
        have HEB := Aside0.mk (show bytes_ (encJ (wideR x)) ∧ (encJ (wideR x)).length = 512 ∧ decJ (encJ (wideR x)) = some (wideR x) from by
          have hm := wideR_may x (by have := HX.out; have := HNN.out; omega)
          exact ⟨bytes_encJ (wideR_ok x) hm.r8, encJ_len (wideR_ok x) hm.r8, decJ_enc (wideR_ok x) hm⟩)
        have HRR := Aside0.mk (show wideR x = ⟨(x : Int), madeK y, madeL y (y % 8 + 1)⟩ from by rw [HYE.out]; rfl)
        have HRO := Aside0.mk (wideR_ok x)
        generalize encJ (wideR x) = eb at HRE HEB
        go_upto_region 26 with (go_at_call 50; (with_reducible refine HRE.out.mono ?_); rintro e wJ ⟨vJ, rfl, hJ2⟩; have HSJ := Aside0.mk hJ2; clear hJ2)
        clear HRE HSI
        obtain ⟨AJ, cJ, rfl⟩ := HSJ.out.own_slice
        rw [HEB.out.2.1] at HSJ ⊢
        have HDE := Aside0.mk (show Calls Tryd.prog 24 #[.slice AJ 512 cJ] wJ (fun e w' => ∃ A' c', e = .returned (.tuple #[.agg ((wideR x).V A' c').toArray, .int .i64 0]) ∧ Sep wJ w' [ownT kRF 69 (.slice A' (wideR x).r.length c') (wideR x).r]) from by
          have h := HSJ.out.own_C
          rw [HEB.out.2.1] at h
          exact decode_some eb HEB.out.1 AJ 512 cJ HEB.out.2.1 h.2 wJ (HHH.out _ HSJ.out.below) h.1 (wideR x) HEB.out.2.2)
        have HSZ := Aside0.mk (fun (A' : Option Addr) (c' : Nat) => RC.size HRO.out A' c')
        have HVA := Aside0.mk (fun (A' : Option Addr) (c' : Nat) => RC.V_all (wideR x) A' c')
        have HVS := Aside0.mk (fun (A' : Option Addr) (c' : Nat) => (show ((wideR x).V A' c').toArray.size = 34 from by simpa using RC.V_len HRO.out A' c'))
        have HBU := Aside0.mk (fun (A' : Option Addr) (c' : Nat) => (show Tryd.prog.built 26 [(0, .int .i64 (x : Int)), (1, .agg (nums .u8 (madeK y)).toArray), (2, .slice A' (y % 8 + 1) c')] = some ((wideR x).V A' c').toArray from by
          rw [HRR.out]
          exact built26f (x : Int) (madeK y) (madeK_len y) (madeL y (y % 8 + 1)) A' c' _ (madeL_len _ _)))
        have HRL := Aside0.mk (show (wideR x).r.length = y % 8 + 1 ∧ (wideR x).r = madeL y (y % 8 + 1) from by rw [HRR.out]; exact ⟨madeL_len _ _, rfl⟩)
        go_upto_region 27 with (first
          | (go_at_call 24; (with_reducible refine HDE.out.mono ?_); rintro e wK ⟨AK, cK, rfl, hK⟩; have HSK2 := Aside0.mk (HSJ.out.then_ hK); clear hK)
          | ((with_reducible refine gate_store (ty := 26) rfl ?_); refine Sep.store_own rfl 26 _ _ rfl rfl rfl (HSK2.out.push_alloc Z 26) (HSZ.out AK cK) (HZs.out.trans (HVS.out AK cK).symm) (HVA.out AK cK) ?_; intro wL hL; have HSL := Aside0.mk hL; clear hL))
        generalize wK.heap.size = g22 at HSL ⊢
        clear HSJ HSK2 HDE hzr
        have HSL := Aside0.mk (show Sep w wL (cellsT g22 ((wideR x).V AK cK).toArray 26 :: ownT kRF 69 (.slice AK (wideR x).r.length cK) (wideR x).r :: ownT (Kd.int .u8) 5 (.slice AJ 512 cJ) eb :: dkT g s2.reads :: cellsT gj (jC g fr n sq ((x + 1 : Nat) : Int)) 134 :: cellsT g6 (nums .u8 (madeK y)).toArray 23 :: ownT kRF 69 (.slice AD (y % 8 + 1) cD) (madeL y (y % 8 + 1)) :: []) from HSL.out)
        have HSR := Aside0.mk (show Calls Tryd.prog 27 #[.agg ((wideR x).V AK cK).toArray, .agg ((wideR x).V AD cD).toArray] wL (fun e w' => e = .returned (.bool true) ∧ Below wL.heap.size wL w') from sameRecord (wideR x) HRO.out (wideR x).r.length rfl AK AD cK cD wL HSL.out.up1.own_C.1 (by
          have h := HSL.out.drop.drop.drop.up3.own_C.1
          rw [madeL_len] at h
          rw [HRL.out.1, HRL.out.2]
          exact h))
        go_wp2_with (first
          | ((with_reducible refine gate_load (ty := 26) rfl ?_); refine wpList_ldw ?_ 26 _ rfl ⟨g22, 0, none⟩ ?_ _ _ (cells_agg HSL.out) Tryd.underlying26 rfl (HSZ.out AK cK) ?_; exact rfl; exact rfl; skip)
          | ((with_reducible refine gate_load (ty := 23) rfl ?_); refine wpList_ldw ?_ 23 _ rfl ⟨g6, 0, none⟩ ?_ _ _ (cells_agg HSL.out.up5) Tryd.underlying23 rfl (HSK.out y) ?_; exact rfl; exact rfl; skip)
          | ((with_reducible refine gate_build (ty := 26) rfl ?_); refine gate_guard (by rfl) ?_; dsimp only; refine wpList_buildTo rfl 26 _ rfl (some 174) rfl ((wideR x).V AD cD).toArray ?aB ?_; (case aB => (simp only [List.map_toArray, List.map_cons, List.map_nil]; exact HBU.out _ _)))
          | (go_at_call 27; (with_reducible refine HSR.out.mono ?_); rintro e wM ⟨rfl, hb⟩; have HSM := Aside0.mk (HSL.out.step hb); clear hb))
        go_roundg (z - (x + 1))
        case measure => have := HJ.out; have := HX.out; have := HNN.out; omega
        case rel => exact ⟨x + 1, sq, by rw [Int.natCast_add]; rfl, ⟨by have := HX.out; have := HSQ.out; omega⟩, ⟨s2.reads, HWA.out.rd 1, HSM.out.sel 7 [4, 3] _ rfl (by decide) rfl⟩⟩
    · obtain rfl : x = z := by have := HJ.out; omega
      have t0 : decide (x < x) = false := decide_eq_false (Nat.lt_irrefl x)
      have HAC := Aside0.mk (fun (W : World) (M : List Th) (h : Sep w W (dkT g s :: M)) => (show Calls Tryd.prog 44 #[.pointer (some ⟨g, 0, none⟩)] W (fun e w' => e = .returned (.agg #[.int .i64 s.r, .int .i64 ((x : Int) - (a : Int)), .int .i64 ((x : Int) - (a : Int))]) ∧ Sep w w' (dkT g s :: M)) from by
        have h2 := h.acts
        rw [HSN.out.wr, HSN.out.fl] at h2
        exact h2))
      have HF8 := Aside0.mk (fun (W : World) => field88 s.r ((x : Int) - (a : Int)) ((x : Int) - (a : Int)) W)
      generalize s.r = sr at HAC HF8
      have hax : (a : Int) ≤ (x : Int) := by have := HNN.out; omega
      go_upto_region 31 with (first
        | (go_at_call 44; (with_reducible refine (HAC.out _ _ HS.out.up1).mono ?_); rintro e w5 ⟨rfl, h5⟩; have HS5 := Aside0.mk h5; clear h5)
        | ((with_reducible refine gate_field (ty := 88) (f := 1) rfl ?_); refine wpList_fieldw rfl 88 _ 1 rfl _ _ rfl (HF8.out _).2.1 ?_)
        | (go_at_call 44; (with_reducible refine (HAC.out _ _ HS5.out).mono ?_); rintro e w6 ⟨rfl, h6⟩; have HS6 := Aside0.mk h6; clear h6)
        | ((with_reducible refine gate_field (ty := 88) (f := 2) rfl ?_); refine gate_guard (by rfl) ?_; dsimp only; refine wpList_fieldw rfl 88 _ 2 rfl _ _ rfl (HF8.out _).2.2 ?_)
        | (go_at_call 34; (with_reducible refine (next_calls HS6.out.up1.cells.1).mono ?_); rintro e w7 ⟨rfl, hb⟩; have HS7 := Aside0.mk (HS6.out.step hb); clear hb))
      clear HS HS5 HS6 HAC HF8
      have HRP := Aside0.mk (fun (W : World) (M : List Th) (h : Sep w W (dkT g s :: M)) => h.replay_at HH.out HSN.out.j HNN.out.1.2 st (by have := HJ.out; have := HNN.out; omega) HJ.out.2.1 HJ.out.2.2.1 HJ.out.2.2.2)
      have hm0 : (x : Int) - (st : Int) = ((x - st : Nat) : Int) := by have := HJ.out; omega
      have HMM := Aside0.mk (show x - st ≤ 1024 ∧ st + (x - st) = x from by have := HJ.out; have := HNN.out; omega)
      generalize x - st = m at HRP hm0 HMM
      go_upto_region 34 with (first
        | (go_at_call 47; (with_reducible refine (start47 HS7.out.up1.cells.1).mono ?_); rintro e w8 ⟨rfl, hb⟩; have HS8 := Aside0.mk (HS7.out.step hb); clear hb)
        | (go_at_call 37; (with_reducible refine (HRP.out _ _ HS8.out).mono ?_); rintro e w9 ⟨Al, cl, rfl, h9⟩; have HS9 := Aside0.mk h9; clear h9)
        | (go_at_call 47; (with_reducible refine (start47 HS9.out.up2.cells.1).mono ?_); rintro e wA ⟨rfl, hb⟩; have HSA := Aside0.mk (HS9.out.step hb); clear hb))
      clear HS7 HS8 HS9 HRP
      have HWR := Aside0.mk (HSN.out.rd (readsJ m n))
      generalize s.rdN (readsJ m n) = s3 at HSA HWR
      have HRL := Aside0.mk (rowsJ_len wideR st m)
      have hm1 : (m : Int) ≤ 1024 := by have := HMM.out; omega
      have hst1 : (st : Int) ≤ 4294969344 := by omega
      go_upto_region 35 with (fail)
      go_loopg [25] m (fun kq v25 wr2 => ∃ k : Nat, v25 = .int .i64 k ∧ Aside0 (k + kq = m) ∧ Aside0 (Sep w wr2 (ownT kRC 26 (.slice Al m cl) (rowsJ wideR st m) :: dkT g s3 :: cellsT gj (jC g fr n st x) 134 :: [])))
      case atStart => exact ⟨0, rfl, ⟨by omega⟩, HSA⟩
      case round =>
        obtain ⟨k, rfl, HJ2, HSB⟩ := hrel
        clear HSA
        by_cases hk : k < m
        · have t5 : decide (k < m) = true := decide_eq_true hk
          have HKM := Aside0.mk hk
          have hkm : (k : Int) < (m : Int) := by omega
          have hx65 : ((st : Int) + (k : Int)) % 65536 = (((st + k) % 65536 : Nat) : Int) := by omega
          obtain ⟨y, hyx⟩ : ∃ y, y = (st + k) % 65536 := ⟨_, rfl⟩
          rw [← hyx] at hx65
          have HYE := Aside0.mk hyx
          have HY6 := Aside0.mk (show y ≤ 65536 from by omega)
          clear hyx
          go_upto_region 38 with (first
            | (go_at_call 47; (with_reducible refine (start47 HSB.out.up2.cells.1).mono ?_); rintro e wC ⟨rfl, hb⟩; have HSC := Aside0.mk (HSB.out.step hb); clear hb)
            | (go_at_call 31; (with_reducible refine (HMD.out y HY6.out _).mono ?_); rintro e wD ⟨AD, cD, rfl, hD⟩; have HSD := Aside0.mk (HSC.out.then_ hD); clear hD)
            | ((with_reducible refine gate_store (ty := 23) rfl ?_); refine Sep.store_own rfl 23 _ _ rfl rfl rfl (HSD.out.push_alloc K0 23) (HSK.out y) (HKV.out y) (HKA.out y) ?_; intro wX hE; have HSE := Aside0.mk hE; clear hE))
          generalize wD.heap.size = g6 at HSE ⊢
          clear HSC HSD hz
          have HSE := Aside0.mk (show Sep w wX (cellsT g6 (nums .u8 (madeK y)).toArray 23 :: ownT kRF 69 (.slice AD (y % 8 + 1) cD) (madeL y (y % 8 + 1)) :: ownT kRC 26 (.slice Al m cl) (rowsJ wideR st m) :: dkT g s3 :: cellsT gj (jC g fr n st x) 134 :: []) from HSE.out)
          have hCL : kRC.C wX Al m (rowsJ wideR st m) := by have h := HSE.out.up2.own_C.1; rwa [HRL.out] at h
          obtain ⟨hRo, aL, Ar, cr, hAl, hcl, hlr, hCr⟩ := at_RC hCL k HKM.out
          have hgd : (rowsJ wideR st m).getD k noRC = wideR (st + k) := by
            unfold rowsJ
            rw [List.getD_eq_getElem?_getD, List.getElem?_map, List.getElem?_range HKM.out]
            rfl
          rw [hgd] at hRo hcl hlr hCr
          subst hAl
          have HRR := Aside0.mk (show wideR (st + k) = ⟨((st + k : Nat) : Int), madeK y, madeL y (y % 8 + 1)⟩ from by rw [HYE.out]; rfl)
          have HRL2 := Aside0.mk (show (wideR (st + k)).r.length = y % 8 + 1 ∧ (wideR (st + k)).r = madeL y (y % 8 + 1) from by rw [HRR.out]; exact ⟨madeL_len _ _, rfl⟩)
          have HBU := Aside0.mk (show Tryd.prog.built 26 [(0, .int .i64 (Go.RowKit.wrap64 ((st : Int) + (k : Int)))), (1, .agg (nums .u8 (madeK y)).toArray), (2, .slice AD (y % 8 + 1) cD)] = some ((wideR (st + k)).V AD cD).toArray from by
            rw [w64 (by omega) (by omega), HRR.out, Int.natCast_add]
            exact built26f ((st : Int) + (k : Int)) (madeK y) (madeK_len y) (madeL y (y % 8 + 1)) AD cD _ (madeL_len _ _))
          have HSZL := Aside0.mk (RC.size hRo Ar cr)
          have HSR := Aside0.mk (fun (W : World) (hb : Below wX.heap.size wX W) => sameRecord (wideR (st + k)) hRo (wideR (st + k)).r.length rfl Ar AD cr cD W (Kd.C_below hCr hb) (Kd.C_below (by
            have h := HSE.out.up1.own_C.1
            rw [madeL_len] at h
            rw [HRL2.out.1, HRL2.out.2]
            exact h) hb))
          have HHL := Aside0.mk (fun (W : World) (hb : Below wX.heap.size wX W) => (show ∀ j v, ((wideR (st + k)).V Ar cr).toArray.toList[j]? = some v → W.cell? ((aL.add (k * 34)).add j) = some v from fun j v hv => by rw [Addr.add_add]; exact pw_cell_below hb (hcl j v (by simpa using hv))))
          have HHK := Aside0.mk (fun (W : World) (hb : Below wX.heap.size wX W) => (show ∀ j v, (nums .u8 (madeK y)).toArray.toList[j]? = some v → W.cell? ((⟨g6, 0, none⟩ : Addr).add j) = some v from fun j v hv => pw_cell_below hb (cells_agg HSE.out j v hv)))
          have HSKY := Aside0.mk (HSK.out y)
          clear hRo hcl hlr hCr hgd hCL
          generalize ((wideR (st + k)).V Ar cr).toArray = VL at HSZL HSR HHL
          generalize ((wideR (st + k)).V AD cD).toArray = VM at HSR HBU
          generalize (nums .u8 (madeK y)).toArray = KY at HSE HBU HHK HSKY
          have HHS := Aside0.mk (fun (W : World) (hb : Below wX.heap.size wX W) => And.intro (HHL.out W hb) (HHK.out W hb))
          have HBx := Aside0.mk (below_drew1 (Below.refl wX.heap.size wX))
          have HSx := Aside0.mk (show Sep w wX.drew (ownT kRC 26 (.slice (some aL) m cl) (rowsJ wideR st m) :: dkT g s3 :: cellsT gj (jC g fr n st x) 134 :: []) from (HSE.out.step (below_drew1 (Below.refl wX.heap.size wX))).drop.drop)
          have HSE2 := Aside0.mk HSE.out.drop.drop
          clear HSE HHL HHK
          refine start_ (n := 13) (S := fun W => (∀ j v, VL.toList[j]? = some v → W.cell? ((aL.add (k * 34)).add j) = some v) ∧ (∀ j v, KY.toList[j]? = some v → W.cell? ((⟨g6, 0, none⟩ : Addr).add j) = some v)) (ds := []) (bb 13 0) (by kernel_rfl) rfl rfl (HHS.out _ HBx.out) (fun hHeld => ?_); refine with_tabW wd38_tab wd38_bits (fun HT_ HW_ => ?_)
          generalize wX.drew = wd at hHeld HSx HBx ⊢
          refine pure_ (i := 0) (N := (some 235)) (v := ?_) (a' := ?_) (bb 13 1) rfl rfl (any_of HT_.out (by kernel_rfl)) (fun _ _ _ h => h) (Or.inl ⟨by rfl, ?_⟩) ?_ ?_
          rotate_left
          · intro w'
            go_simp
            with_reducible rfl
          rotate_left
          · simp only [Act.put, List.setIfInBounds_toArray, List.set_cons_zero, List.set_cons_succ, i64_w, i32_w]
            rfl
          refine pure_ (i := 1) (N := (some 236)) (v := ?_) (a' := ?_) (bb 13 3) rfl rfl (any_of HT_.out (by kernel_rfl)) (fun _ _ _ h => h) (Or.inl ⟨by rfl, ?_⟩) ?_ ?_
          rotate_left
          · intro w'
            go_simp
            with_reducible rfl
          rotate_left
          · simp only [Act.put, List.setIfInBounds_toArray, List.set_cons_zero, List.set_cons_succ, i64_w, i32_w]
            rfl
          refine pure_ (i := 2) (N := (some 237)) (v := ?_) (a' := ?_) (bb 13 7) rfl rfl (any_of HT_.out (by kernel_rfl)) (fun _ _ _ h => h) (Or.inl ⟨by rfl, ?_⟩) ?_ ?_
          rotate_left
          · intro w'
            go_simp
            with_reducible rfl
          rotate_left
          · simp only [Act.put, List.setIfInBounds_toArray, List.set_cons_zero, List.set_cons_succ, i64_w, i32_w]
            rfl
          refine take_ (i := 3) (N := (some 238)) (v := .agg VL) (a' := ?_) (bb 13 15) rfl rfl (take_ofW HT_.out HW_.out (by kernel_rfl)) (fun _ _ _ h => h) (Or.inl ⟨by rfl, fun w' s0 => yields_ld 26 _ rfl (aL.add (k * 34)) rfl VL _ s0.1 Tryd.underlying26 rfl HSZL.out⟩) hHeld ?_ ?_
          rotate_left
          · simp only [Act.put, List.setIfInBounds_toArray, List.set_cons_zero, List.set_cons_succ, i64_w, i32_w]
            rfl
          refine pure_ (i := 4) (N := (some 239)) (v := ?_) (a' := ?_) (bb 13 31) rfl rfl (any_of HT_.out (by kernel_rfl)) (fun _ _ _ h => h) (Or.inl ⟨by rfl, ?_⟩) ?_ ?_
          rotate_left
          · intro w'
            go_simp
            with_reducible rfl
          rotate_left
          · simp only [Act.put, List.setIfInBounds_toArray, List.set_cons_zero, List.set_cons_succ, i64_w, i32_w]
            rfl
          refine pure_ (i := 6) (N := (some 241)) (v := ?_) (a' := ?_) (bb 13 95) rfl rfl (any_of HT_.out (by kernel_rfl)) (fun _ _ _ h => h) (Or.inl ⟨by rfl, ?_⟩) ?_ ?_
          rotate_left
          · intro w'
            go_simp
            with_reducible rfl
          rotate_left
          · simp only [Act.put, List.setIfInBounds_toArray, List.set_cons_zero, List.set_cons_succ, i64_w, i32_w]
            rfl
          refine take_ (i := 8) (N := (some 243)) (v := .agg KY) (a' := ?_) (bb 13 351) rfl rfl (take_ofW HT_.out HW_.out (by kernel_rfl)) (fun _ _ _ h => h) (Or.inl ⟨by rfl, fun w' s0 => yields_ld 23 _ rfl ⟨g6, 0, none⟩ rfl KY _ s0.2 Tryd.underlying23 rfl HSKY.out⟩) hHeld ?_ ?_
          rotate_left
          · simp only [Act.put, List.setIfInBounds_toArray, List.set_cons_zero, List.set_cons_succ, i64_w, i32_w]
            rfl
          refine pure_ (i := 9) (N := (some 244)) (v := ?_) (a' := ?_) (bb 13 863) rfl rfl (any_of HT_.out (by kernel_rfl)) (fun _ _ _ h => h) (Or.inl ⟨by rfl, ?_⟩) ?_ ?_
          rotate_left
          · intro w'
            go_simp
            with_reducible rfl
          rotate_left
          · simp only [Act.put, List.setIfInBounds_toArray, List.set_cons_zero, List.set_cons_succ, i64_w, i32_w]
            rfl
          refine one_ (i := 5) (N := (some 240)) (bb 13 895) rfl rfl (one_of HT_.out (by kernel_rfl)) (by decide) (fun K hK => ?_)
          refine goes_ Tryd.func47 (by kernel_rfl) rfl #[.pointer (some ⟨gj, 0, none⟩)] (by rfl) rfl rfl (by (try simp only [List.map_toArray, List.map_cons, List.map_nil]); first | done | rfl) ?_
          with_reducible refine (start47 HSx.out.up2.cells.1).mono ?_
          rintro e wY ⟨rfl, hb⟩
          have HBY := Aside0.mk (below_step HBx.out hb)
          clear hb
          refine ⟨_, rfl, ?_⟩
          refine hK.out _ _ (HHS.out _ HBY.out) (fun hHeld => ?_)
          clear hK K
          refine norm_ (a' := ?_) ?_ ?_
          rotate_left
          · show Act.put _ (some 240) _ = _
            simp only [Act.put, List.setIfInBounds_toArray, List.set_cons_zero, List.set_cons_succ, i64_w, i32_w]
            rfl
          refine pure_ (i := 7) (N := (some 242)) (v := ?_) (a' := ?_) (bb 13 1023) rfl rfl (any_of HT_.out (by kernel_rfl)) (fun _ _ _ h => h) (Or.inl ⟨by rfl, ?_⟩) ?_ ?_
          rotate_left
          · intro w'
            go_simp
            with_reducible rfl
          rotate_left
          · simp only [Act.put, List.setIfInBounds_toArray, List.set_cons_zero, List.set_cons_succ, i64_w, i32_w]
            rfl
          refine pure_ (i := 10) (N := (some 245)) (v := .agg VM) (a' := ?_) (bb 13 2047) rfl rfl (any_of HT_.out (by kernel_rfl)) (fun _ _ _ h => h) (Or.inl ⟨by rfl, fun w' => yields_build 26 rfl VM (by (try simp only [List.map_toArray, List.map_cons, List.map_nil]); exact HBU.out)⟩) ?_ ?_
          rotate_left
          · simp only [Act.put, List.setIfInBounds_toArray, List.set_cons_zero, List.set_cons_succ, i64_w, i32_w]
            rfl
          refine one_ (i := 11) (N := (some 246)) (bb 13 4095) rfl rfl (one_of HT_.out (by kernel_rfl)) (by decide) (fun K hK => ?_)
          refine goes_ Tryd.func27 (by kernel_rfl) rfl #[.agg VL, .agg VM] (by rfl) rfl rfl (by (try simp only [List.map_toArray, List.map_cons, List.map_nil]); first | done | rfl) ?_
          with_reducible refine (HSR.out _ HBY.out).mono ?_
          rintro e wZ ⟨rfl, hb⟩
          have HBZ := Aside0.mk (below_step HBY.out hb)
          clear hb
          refine ⟨_, rfl, ?_⟩
          refine hK.out _ _ (HHS.out _ HBZ.out) (fun hHeld => ?_)
          clear hK K
          refine norm_ (a' := ?_) ?_ ?_
          rotate_left
          · show Act.put _ (some 246) _ = _
            simp only [Act.put, List.setIfInBounds_toArray, List.set_cons_zero, List.set_cons_succ, i64_w, i32_w]
            rfl
          refine pure_ (i := 12) (N := (some 247)) (v := ?_) (a' := ?_) (bb 13 8191) rfl rfl (any_of HT_.out (by kernel_rfl)) (fun _ _ _ h => h) (Or.inl ⟨by rfl, ?_⟩) ?_ ?_
          rotate_left
          · intro w'
            go_simp
            with_reducible rfl
          rotate_left
          · simp only [Act.put, List.setIfInBounds_toArray, List.set_cons_zero, List.set_cons_succ, i64_w, i32_w]
            rfl
          refine done_ (done_of HT_.out (by kernel_rfl)) ?_
          clear hHeld HT_ HW_ HHS HSR
          go_wp2
          go_roundg (m - (k + 1))
          case measure => have := HJ2.out; have := HKM.out; omega
          case rel => exact ⟨k + 1, rfl, ⟨by have := HJ2.out; have := HKM.out; omega⟩, ⟨HSE2.out.step HBZ.out⟩⟩
        · have t5 : decide (k < m) = false := decide_eq_false hk
          go_upto_region 41 with (at_make; refine Kd.R_make (Kd.int .u8) (w0 := wr) wr.heap.size 5 rfl (N := 248) rfl 29 (.const (.int .i64 512)) (.const (.int .i64 512)) rfl (512 : Int) rfl rfl Tryd.underlying29 (.int .u8 0) 1 info_u8 rfl (by decide) (by decide) 0 (ok := fun _ => True) (okp := fun _ => True) rfl (fun _ h => h) trivial (by decide) (by decide) (Below.refl _ _) (Nat.le_refl _) ?_; intro v7 w7 hr hb hg hat; have hS7 := HSB.out.push_own (xs := zeros) hr hb; have HSC := Aside0.mk hS7; clear hr hb hg hat hS7; obtain ⟨A7, c7, rfl⟩ := HSC.out.own_slice; rw [zeros_len] at HSC ⊢)
          have HSC := Aside0.mk (show Sep w w7 (ownT (Kd.int .u8) 5 (.slice A7 512 c7) zeros :: dkT g s3 :: []) from HSC.out.sel 4 [0, 2] _ rfl (by decide) rfl)
          clear HSB
          go_upto_region 42 with (fail)
          go_loopg [29] (fr + 1027) (fun kq v29 wr3 => ∃ k2 : Nat, v29 = .int .i64 k2 ∧ Aside0 (k2 + kq = fr + 1027) ∧ Aside0 (∃ k3, Sep w wr3 (ownT (Kd.int .u8) 5 (.slice A7 512 c7) zeros :: dkT g (s3.rdN k3) :: [])))
          case atStart => exact ⟨0, rfl, ⟨by omega⟩, ⟨0, HSC.out⟩⟩
          case round =>
            obtain ⟨k2, rfl, HJ3, hS3⟩ := hrel
            obtain ⟨k3, hS3⟩ := hS3.out
            have HSD := Aside0.mk hS3
            clear hS3 HSC
            by_cases hk2 : k2 < fr + 1027
            · have t6 : decide ((k2 : Int) < (fr : Int) + 1027) = true := decide_eq_true (by omega)
              have HK2 := Aside0.mk hk2
              have HW3 := Aside0.mk (HWR.out.rd k3)
              have HRE := Aside0.mk (show Calls Tryd.prog 50 #[.pointer (some ⟨g, 0, none⟩), .int .i64 (k2 : Int)] wr (fun e w' => ∃ v, e = .returned (.tuple #[v, .int .i64 0]) ∧ Sep w w' (ownT (Kd.int .u8) 5 v ((s3.rdN k3).cur k2) :: dkT g (s3.rdN (k3 + 1)) :: ownT (Kd.int .u8) 5 (.slice A7 512 c7) zeros :: [])) from HSD.out.up1.read k2 (by rw [HW3.out.sn]; exact HK2.out))
              have HLC := Aside0.mk (HSD.out.up1.dk_cur k2 (by rw [HW3.out.sn]; exact HK2.out))
              go_upto_region 45 with (go_at_call 50; (with_reducible refine HRE.out.mono ?_); rintro e wE ⟨vE, rfl, hE⟩; have HSE := Aside0.mk hE; clear hE)
              clear HSD HRE
              obtain ⟨AE, cE, rfl⟩ := HSE.out.own_slice
              rw [HLC.out] at HSE ⊢
              have HSM := Aside0.mk (fun (hz : k2 < fr ∨ fr + n ≤ k2) => (show Calls Tryd.prog 19 #[.slice AE 512 cE, .slice A7 512 c7] wE (fun e w' => e = .returned (.bool true) ∧ Below wE.heap.size wE w') from by
                have h7 := HSE.out.own_C
                have h8 := HSE.out.up2.own_C
                rw [HLC.out] at h7
                rw [zeros_len] at h8
                have h5 := same19 h7.1 h8.1 HLC.out zeros_len h7.2 h8.2 (by decide)
                rwa [decide_eq_true (HW3.out.z k2 HK2.out hz)] at h5))
              by_cases ca : k2 < fr
              · have t7 : decide (k2 < fr) = true := decide_eq_true ca
                have HSM := Aside0.mk (HSM.out (.inl ca))
                go_wp2_with (go_at_call 19; (with_reducible refine HSM.out.mono ?_); rintro e wF ⟨rfl, hb⟩; have HSF := Aside0.mk (HSE.out.step hb); clear hb)
                go_roundg (fr + 1027 - (k2 + 1))
                case measure => have := HJ3.out; have := HK2.out; omega
                case rel => exact ⟨k2 + 1, rfl, ⟨by have := HJ3.out; have := HK2.out; omega⟩, ⟨k3 + 1, HSF.out.sel 3 [2, 1] _ rfl (by decide) rfl⟩⟩
              · have t7 : decide (k2 < fr) = false := decide_eq_false ca
                by_cases cb : fr + n ≤ k2
                · have t8 : decide ((fr : Int) + (n : Int) ≤ (k2 : Int)) = true := decide_eq_true (by omega)
                  have HSM := Aside0.mk (HSM.out (.inr cb))
                  go_wp2_with (go_at_call 19; (with_reducible refine HSM.out.mono ?_); rintro e wF ⟨rfl, hb⟩; have HSF := Aside0.mk (HSE.out.step hb); clear hb)
                  go_roundg (fr + 1027 - (k2 + 1))
                  case measure => have := HJ3.out; have := HK2.out; omega
                  case rel => exact ⟨k2 + 1, rfl, ⟨by have := HJ3.out; have := HK2.out; omega⟩, ⟨k3 + 1, HSF.out.sel 3 [2, 1] _ rfl (by decide) rfl⟩⟩
                · have t8 : decide ((fr : Int) + (n : Int) ≤ (k2 : Int)) = false := decide_eq_false (by omega)
                  go_wp2
                  go_roundg (fr + 1027 - (k2 + 1))
                  case measure => have := HJ3.out; have := HK2.out; omega
                  case rel => exact ⟨k2 + 1, rfl, ⟨by have := HJ3.out; have := HK2.out; omega⟩, ⟨k3 + 1, HSE.out.sel 3 [2, 1] _ rfl (by decide) rfl⟩⟩
            · have t6 : decide ((k2 : Int) < (fr : Int) + 1027) = false := decide_eq_false (by omega)
              go_wp2
              go_ret
              exact ⟨rfl, HSD.out.below⟩
theorem journalWide_pure (a0 a1 a2 a3 : Int) (h0 : (Lit.int .i64 a0).wf = true) (h1 : (Lit.int .i64 a1).wf = true) (h2 : (Lit.int .i64 a2).wf = true) (h3 : (Lit.int .i64 a3).wf = true) : ∃ k : Nat, true = true := ⟨0, rfl⟩
theorem journalWide_row (k : Nat) (a0 a1 a2 a3 : Int) (r : Bool) (w : World) (hG : Wr.Half w) (h : r = true) :
    Calls Tryd.prog 11 #[.int .i64 a0, .int .i64 a1, .int .i64 a2, .int .i64 a3] w fun e w' => e = .returned (.bool r) ∧ Below w.heap.size w w' := by
  subst h
  exact wide11 a0 a1 a2 a3 w hG
end Go.Proofs.YtagodmmpkapgnaaDoor.M

namespace Go.Proofs.YtagodmmpkapgnaaDoor.journalWide
open Go.ChangeShapes Go.WideShapes Go.ChangeAt Go.RowKit Go.Proofs.YtagodmmpkapgnaaDoorW.PrintWords Go.Proofs.YtagodmmpkapgnaaDoorW.PrintLast Go.Proofs.YtagodmmpkapgnaaDoorW.PrintMore Go.Proofs.YtagodmmpkapgnaaDoor.P Go.Proofs.YtagodmmpkapgnaaDoor.M Go.Proofs.YtagodmmpkapgnaaDoor.Wr Go.Proofs.YtagodmmpkapgnaaDoor.Pl Go.Proofs.YtagodmmpkapgnaaDoor.A
set_option linter.unusedVariables false
theorem own : ownKnob Tryd.prog.godebug = none := by kernel_rfl
theorem laidOut : laidOutB Tryd.prog = true := by kernel_rfl
theorem gTab : Tryd.prog.globalNamed "kiln/wire.half" = some 0 := by kernel_rfl
theorem gTabType : (Tryd.prog.globals[0]?).map (·.type) = some 165 := by kernel_rfl
theorem cellsTab : Tryd.prog.cellsOf 165 = 16 := by kernel_rfl
theorem cells124 : Tryd.prog.cellsOf 124 = 1 := by kernel_rfl
theorem half_of {W : World} (h : laidMetH Tryd.prog Rows.journalWideRow.laid W) : Wr.Half W := by
  have t : Lib.TabIs Tryd.prog W "kiln/wire.half" .u32 [0, 498536548, 997073096, 651767980, 1994146192, 1802195444, 1303535960, 1342533948, 3988292384, 4027552580, 3604390888, 3412177804, 2607071920, 2262029012, 2685067896, 3183342108] := Lib.tabIs_of_head (rest := []) gTab gTabType Tryd.underlying165 Tryd.underlying124 cells124 cellsTab h
  intro i hi
  have hc := t.cell gTab i (by simpa using hi)
  have e : ∀ j : Fin 16, ([0, 498536548, 997073096, 651767980, 1994146192, 1802195444, 1303535960, 1342533948, 3988292384, 4027552580, 3604390888, 3412177804, 2607071920, 2262029012, 2685067896, 3183342108] : List Int)[j.1]? = some ((halfL.getD j.1 0 : Nat) : Int) := by decide
  have e2 := e ⟨i, hi⟩
  first
  | (rw [List.getD_eq_getElem?_getD, e2] at hc; exact hc)
  | (rw [List.getElem?_eq_some_iff] at e2; obtain ⟨_, e3⟩ := e2; rw [e3] at hc; exact hc)
def IsRow (k : IntKind) (w : World) (a : Option Addr) (len cap : Nat) (zs : List Int) : Prop :=
  (a = none ∧ len = 0 ∧ cap = 0 ∧ zs = []) ∨
  ∃ x, a = some x ∧ len ≤ cap ∧ cap ≤ maxLen ∧ zs.length = cap ∧ (∀ i, i < zs.length → w.cell? (x.add i) = some (.int k (zs.getD i 0))) ∧ ∀ n ∈ zs, (Lit.int k n).wf = true
set_option maxRecDepth 100000 in
theorem contract (H : Type) (enc : TypeId × Value → H) (W : World) (base : Nat) (args : Array Value) (ds gs : List (DataW H)) (before : List MemPlace)
    (hval : ∀ (j : Nat) t v, Tryd.f11.params[j]? = some t → args[j]? = some v → Value.okWide Tryd.prog W .any base t v)
    (hW : DataW.Whole enc Tryd.prog Tryd.f11.params.toList Rows.journalWideSpec.vars false W args.toList ds gs before)
    (hsz0 : (DataW.weightsEach Tryd.prog (Tryd.f11.params.toList ++ Rows.journalWideSpec.plain.varTypes Tryd.prog) (ds ++ gs)).all (· ≤ reachBytes) = true)
    (hL : laidMetH Tryd.prog Rows.journalWideRow.laid W) :
    Calls Tryd.prog 11 args W fun e W' => ∃ v, e = .returned v ∧ Rows.journalWideSpec.post enc Tryd.prog Tryd.f11 false true false false W args v W' := by
  have hG := half_of hL
  have hW' := hW
  have hsz : (DataW.weightsEach Tryd.prog (Tryd.f11.params.toList ++ Rows.journalWideSpec.plain.varTypes Tryd.prog) (ds ++ gs)).all (· ≤ reachBytes) = true := hsz0
  obtain ⟨p, q, hA0, hV, rfl, hfz, hnd⟩ := hW
  have hA : DataW.TrodAll enc Tryd.prog W 0 (fun _ => true) true Tryd.f11.params.toList args.toList ds p := hA0
  rw [Tryd.params11] at hA hval hsz
  obtain ⟨v0, vs0, d0, ds0, p0, q0, hargs, rfl, rfl, h0, r0⟩ := trodAll_cons hA
  obtain ⟨v1, vs1, d1, ds1, p1, q1, rfl, rfl, rfl, h1, r1⟩ := trodAll_cons r0
  obtain ⟨v2, vs2, d2, ds2, p2, q2, rfl, rfl, rfl, h2, r2⟩ := trodAll_cons r1
  obtain ⟨v3, vs3, d3, ds3, p3, q3, rfl, rfl, rfl, h3, r3⟩ := trodAll_cons r2
  obtain ⟨rfl, rfl, rfl⟩ := trodAll_nil r3
  obtain rfl : args = #[v0, v1, v2, v3] := by cases args; simp_all
  obtain ⟨rfl, rfl⟩ := trodVars_none hV
  obtain ⟨a0, rfl, rfl, rfl, w0⟩ := open_int Tryd.underlying3 (hval 0 3 v0 rfl rfl) h0
  obtain ⟨a1, rfl, rfl, rfl, w1⟩ := open_int Tryd.underlying3 (hval 1 3 v1 rfl rfl) h1
  obtain ⟨a2, rfl, rfl, rfl, w2⟩ := open_int Tryd.underlying3 (hval 2 3 v2 rfl rfl) h2
  obtain ⟨a3, rfl, rfl, rfl, w3⟩ := open_int Tryd.underlying3 (hval 3 3 v3 rfl rfl) h3
  clear hA0 hsz0 hsz
  obtain ⟨k, h⟩ := M.journalWide_pure a0 a1 a2 a3 w0 w1 w2 w3
  refine (M.journalWide_row k a0 a1 a2 a3 true W  hG h).mono ?_
  rintro e W' ⟨rfl, bel⟩
  exact ⟨_, rfl, _, _, _, [], _, [], hW', trodAll_mk1 (shut_bool Tryd.underlying4 _), (trodAll_cons_mk (shut_int Tryd.underlying3 w0) (trodAll_cons_mk (shut_int Tryd.underlying3 w1) (trodAll_cons_mk (shut_int Tryd.underlying3 w2) (trodAll_cons_mk (shut_int Tryd.underlying3 w3) trodAll_mk0)))), rfl, bel.frame _, fun h => by cases h⟩
noncomputable def laidWorld (os : Os) : World :=
  { World.holding Tryd.prog os ⟨#[], #[], []⟩ with heap := (World.holding Tryd.prog os ⟨#[], #[], []⟩).heap.modify 0 fun
      | .cells _ t frozen => .cells #[.int .u32 0, .int .u32 498536548, .int .u32 997073096, .int .u32 651767980, .int .u32 1994146192, .int .u32 1802195444, .int .u32 1303535960, .int .u32 1342533948, .int .u32 3988292384, .int .u32 4027552580, .int .u32 3604390888, .int .u32 3412177804, .int .u32 2607071920, .int .u32 2262029012, .int .u32 2685067896, .int .u32 3183342108] t frozen
      | o => o }
set_option maxRecDepth 100000 in
theorem laid_met (os : Os) : laidMet Tryd.prog Rows.journalWideRow.laid ((laidWorld os).forCall (fun _ _ => 0) ⟨#[], #[.int .i64 0, .int .i64 0, .int .i64 0, .int .i64 0], []⟩).memory :=
  laidMet_of_run' 8 (by kernel_rfl) (by kernel_rfl)
set_option maxRecDepth 100000 in
theorem reads (os : Os) {H : Type} (enc : TypeId × Value → H) : ∃ places, DataW.whole enc Tryd.prog ((laidWorld os).forCall (fun _ _ => 0) ⟨#[], #[.int .i64 0, .int .i64 0, .int .i64 0, .int .i64 0], []⟩).memory Tryd.f11.params.toList Rows.journalWideSpec.vars false (#[.int .i64 0, .int .i64 0, .int .i64 0, .int .i64 0] : Array Value).toList 8 = some ([.lit (.int .i64 0), .lit (.int .i64 0), .lit (.int .i64 0), .lit (.int .i64 0)], [], places) :=
  ⟨[], by kernel_rfl⟩
set_option maxRecDepth 100000 in
theorem lifted (os : Os) (started : os.Started) (H : Type) (enc : TypeId × Value → H) (F : Stop.Interp) :
    ReturnsInHanded {} Tryd.checked os 11 .any ((OpenSpec.ofChange Rows.journalWideSpec).preRow enc Tryd.prog Tryd.f11 Rows.journalWideRow.domain false Rows.journalWideRow.laid) (((OpenSpec.ofChange Rows.journalWideSpec).at F).post enc Tryd.prog Tryd.f11 false true false false) := by
  obtain ⟨places, hx⟩ := reads os enc
  refine returnsInHanded_of_row (C := Tryd.checked) (s := OpenSpec.ofChange Rows.journalWideSpec) own started (by kernel_rfl) Tryd.func11
    (witness_row_at (enc := enc) (C := Tryd.checked) false (laidWorld os) #[.int .i64 0, .int .i64 0, .int .i64 0, .int .i64 0] rfl (by kernel_rfl) (by kernel_rfl) (by kernel_rfl)
      (OpenSpec.preRow_of_cond 8 hx (by kernel_rfl) (fun k hk => by cases hk) (by kernel_rfl) (laid_met os))) ?_
  intro W base args ds gs before hval hW _ hcond hsz hL _ _
  exact contract H enc W base args ds gs before hval hW hsz hL
set_option maxRecDepth 100000 in
theorem said : Rows.JournalWideSaid :=
  OpenClaim.holds_of_cond 11 Tryd.f11 rfl rfl rfl rfl rfl rfl rfl ⟨rfl, rfl, rfl, rfl, rfl⟩ rfl rfl rfl rfl rfl (by kernel_rfl) Tryd.func11 (by kernel_rfl)
    (of_decide_eq_true (by kernel_rfl)) (by unfold Func.isWrapper; first | (rw [if_pos (by decide +kernel)]; kernel_rfl) | (rw [if_neg (by decide +kernel)]; exact ⟨rfl, rfl⟩))
    (fun os started H enc _ F => by rw [OpenClaim.pre_eq_preRow]; exact lifted os started H enc F)
theorem plain (f : FuncId) (fn : Func) (hf : Tryd.pinned.checked.prog.funcNamed "kiln/kilnlaw17.JournalWide" = some f) (hfn : Tryd.pinned.checked.prog.funcs[f]? = some fn) :
    false = Tryd.pinned.checked.prog.looks [] ∧ ∀ (j : Nat) t, fn.params[j]? = some t → Tryd.pinned.checked.prog.wantsStandIn t = false := by
  obtain rfl : f = 11 := Option.some.inj ((show Tryd.prog.funcNamed "kiln/kilnlaw17.JournalWide" = some 11 by kernel_rfl).symm.trans hf) |>.symm
  obtain rfl : fn = Tryd.f11 := (Option.some.inj (Tryd.func11.symm.trans hfn)).symm
  refine ⟨by kernel_rfl, fun j t ht => ?_⟩
  rw [Tryd.params11] at ht
  have hm : t ∈ [3, 3, 3, 3] := by simpa using Array.mem_of_getElem? ht
  have hall : ([3, 3, 3, 3].all fun u => !Tryd.prog.wantsStandIn u) = true := by kernel_rfl
  exact (show Tryd.prog.wantsStandIn t = false by simpa using List.all_eq_true.1 hall t hm)
set_option maxRecDepth 100000 in
theorem card : Rows.JournalWideCardSaid :=
  Claim7.holds_tied_plain_at .later [] _ _ _ _ said (fun _ h => by cases h) (by kernel_rfl) (fun _ h => by cases h) journalWide_row_tie rfl ⟨rfl, rfl⟩ (by kernel_rfl) rfl plain (by kernel_rfl)
#print axioms card
end Go.Proofs.YtagodmmpkapgnaaDoor.journalWide
namespace Go.Proofs.YtagodmmpkapgnaaDoor
theorem journalWide_card_holds : Rows.JournalWideCardSaid := journalWide.card
end Go.Proofs.YtagodmmpkapgnaaDoor
