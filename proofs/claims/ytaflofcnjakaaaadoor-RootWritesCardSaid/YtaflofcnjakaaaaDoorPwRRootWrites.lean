/- A writer of any slot on any disk of at most 4096 sectors is refused, or does a Write, then a Flush, then nothing more: the acts and the image behind each Step are the document's; the table of package wire as the program's text lays it. -/
import Derived.Test.YtaflofcnjakaaaaDoorPwZ3
import Derived.OpenShut
import Derived.WideShapes
import Derived.ChangeArms
import Derived.Test.YtaflofcnjakaaaaDoorCards
import Derived.Test.YtaflofcnjakaaaaDoorTie
import Derived.WalkKit
import Derived.ProofKit
import Derived.ShutString
import Derived.ChangeOld
import Derived.Below
import Derived.SizedLaws
import Derived.Deep.DeepHandedRow
import Derived.Lib.LaidTab
namespace Go.Proofs.YtaflofcnjakaaaaDoor.M
open Go.RowKit Go.Maps Go.Proofs.YtaflofcnjakaaaaDoorW.PrintWords Go.Proofs.YtaflofcnjakaaaaDoorW.PrintLast Go.Proofs.YtaflofcnjakaaaaDoorW.PrintMore Go.Proofs.YtaflofcnjakaaaaDoor.Wr Go.Proofs.YtaflofcnjakaaaaDoor.Pl Go.Proofs.YtaflofcnjakaaaaDoor.Z Go.Proofs.YtaflofcnjakaaaaDoor.A
set_option linter.unusedVariables false
set_option linter.unusedSimpArgs false
theorem ref_new_f (n : Nat) (h2 : 2 ≤ n) (hm : n ≤ 65536) : kilnref3_New.f (n : Int) = some ((n : Int), [], [], 0, 0, 0, 0) := by
  unfold kilnref3_New.f
  rw [if_neg (by omega), if_neg (by omega)]
theorem ref_new_no (a : Int) (h : a < 2 ∨ 65536 < a) : kilnref3_New.f a = some (0, [], [], 0, 0, 0, 30) := by
  unfold kilnref3_New.f
  by_cases e : a < 2
  · rw [if_pos e]
  · rw [if_neg e, if_pos (by omega)]
theorem rf_held {w0 W : World} {L : List Th} {gp : Nat} {a0 a1 a2 a3 a4 a5 : Value} (h : Sep w0 W (cellsT gp #[a0, a1, a2, a3, a4, a5] 43 :: L)) :
    W.cell? ⟨gp, 0, none⟩ = some a0 ∧ W.cell? ⟨gp, 1, none⟩ = some a1 ∧ W.cell? ⟨gp, 2, none⟩ = some a2 ∧ W.cell? ⟨gp, 3, none⟩ = some a3 ∧ W.cell? ⟨gp, 4, none⟩ = some a4 ∧ W.cell? ⟨gp, 5, none⟩ = some a5 :=
  ⟨blk_cell h.cells.1 0, blk_cell h.cells.1 1, blk_cell h.cells.1 2, blk_cell h.cells.1 3, blk_cell h.cells.1 4, blk_cell h.cells.1 5⟩
set_option maxHeartbeats 8000000 in
set_option maxRecDepth 100000 in
theorem wr_out (x : Int) (hx : ¬ (2 ≤ x ∧ x ≤ 65536)) (V : Array Value) (st : Int) (w : World) : Calls Tryd.prog 4 #[.int .i64 x, .agg V, .int .i64 st] w fun e w' => e = .returned (.bool true) ∧ Below w.heap.size w w' := by
  have HS0 := Aside0.mk ((Sep.refl w).push_alloc V 27)
  have HN := Aside0.mk (fun W => new_none x W hx)
  have HR := Aside0.mk (fun W (L : List Th) (h : Sep w W L) => Sep.rNew h x 0 [] [] 0 0 0 30 (ref_new_no x (by omega)))
  clear hx
  go_enter Tryd.func4, Tryd.ntmps4
  go_upto_region 1 with (fail)
  generalize w.alloc (.cells V 27) = w1 at HS0 ⊢
  generalize w.heap.size = g0 at HS0 ⊢
  go_upto_region 3 with (first
    | (go_at_call 15; (with_reducible refine (HN.out _).mono ?_); rintro e w2 ⟨rfl, rfl⟩)
    | (go_at_call 16; (with_reducible refine (HR.out _ _ HS0.out).mono ?_); rintro e w3 ⟨A1, c1, A2, c2, rfl, h⟩; have HS2 := Aside0.mk h; clear h HS0))
  have HB := Aside0.mk (below_alloc HS2.out.below (.cells #[.int .i64 0, .slice A1 0 c1, .slice A2 0 c2, .int .i64 0, .int .i64 0, .int .i64 0] 43))
  clear HN HR HS2
  generalize w3.alloc (.cells #[.int .i64 0, .slice A1 0 c1, .slice A2 0 c2, .int .i64 0, .int .i64 0, .int .i64 0] 43) = w4 at HB ⊢
  go_wp2
  go_ret
  exact ⟨rfl, HB.out⟩
set_option maxHeartbeats 8000000 in
set_option maxRecDepth 100000 in
theorem wr_big (n : Nat) (h2 : 2 ≤ n) (hm : n ≤ 65536) (hb : 4096 < n) (V : Array Value) (st : Int) (w0 : World) : Calls Tryd.prog 4 #[.int .i64 (n : Int), .agg V, .int .i64 st] w0 fun e w' => e = .returned (.bool true) ∧ Below w0.heap.size w0 w' := by
  have HS0 := Aside0.mk ((Sep.refl w0).push_alloc V 27)
  have HN := Aside0.mk (fun W (M : List Th) (h : Sep w0 W M) => Sep.new h n h2 (by omega))
  have HR := Aside0.mk (fun W (M : List Th) (h : Sep w0 W M) => Sep.rNew h (n : Int) (n : Int) [] [] 0 0 0 0 (ref_new_f n h2 (by omega)))
  have hb1 : (4096 : Int) < (n : Int) := by omega
  clear h2 hm hb
  go_enter Tryd.func4, Tryd.ntmps4
  go_upto_region 1 with (fail)
  generalize w0.alloc (.cells V 27) = w1 at HS0 ⊢
  generalize w0.heap.size = g4 at HS0 ⊢
  go_upto_region 3 with (first
    | (go_at_call 15; (with_reducible refine (HN.out _ _ HS0.out).mono ?_); rintro e w2 ⟨gd, rfl, h⟩; have HS1 := Aside0.mk h; clear h HS0)
    | (go_at_call 16; (with_reducible refine (HR.out _ _ HS1.out).mono ?_); rintro e w3 ⟨A1, c1, A2, c2, rfl, h⟩; have HS2 := Aside0.mk h; clear h HS1))
  have HS3 := Aside0.mk (HS2.out.push_alloc #[.int .i64 (n : Int), .slice A1 0 c1, .slice A2 0 c2, .int .i64 0, .int .i64 0, .int .i64 0] 43)
  clear HN HR HS2
  generalize w3.alloc (.cells #[.int .i64 (n : Int), .slice A1 0 c1, .slice A2 0 c2, .int .i64 0, .int .i64 0, .int .i64 0] 43) = w4 at HS3 ⊢
  generalize w3.heap.size = gw at HS3 ⊢
  go_wp2
  go_ret
  exact ⟨rfl, HS3.out.below⟩
set_option maxHeartbeats 8000000 in
set_option maxRecDepth 100000 in
theorem wr_no {w0 : World} (hH : Wr.Half w0) (n : Nat) (h2 : 2 ≤ n) (h4 : n ≤ 4096) (s : SL) (hs : s.Ok) (hm : mayM s = false) (st : Int) : Calls Tryd.prog 4 #[.int .i64 (n : Int), .agg s.V.toArray, .int .i64 st] w0 fun e w' => e = .returned (.bool true) ∧ Below w0.heap.size w0 w' := by
  have HS0 := Aside0.mk ((Sep.refl w0).push_alloc s.V.toArray 27)
  have HN := Aside0.mk (fun W (M : List Th) (h : Sep w0 W M) => Sep.new h n h2 (by omega))
  have HR := Aside0.mk (fun W (M : List Th) (h : Sep w0 W M) => Sep.rNew h (n : Int) (n : Int) [] [] 0 0 0 0 (ref_new_f n h2 (by omega)))
  have HNN := Aside0.mk (fun W => writer_nil s.V.toArray W)
  have HSZ := Aside0.mk (SlAt.sa hs)
  have HLV := Aside0.mk (fun W (M : List Th) g (h : Sep w0 W (cellsT g s.V.toArray 27 :: M)) => (show ∀ j v, s.V.toArray.toList[j]? = some v → W.cell? ((⟨g, 0, none⟩ : Addr).add j) = some v from fun j v hv => seg_at h.cells.1 0 s.V (by rw [List.drop_zero]; exact List.take_of_length_le (Nat.le_refl _)) j v (by simpa using hv)))
  have HLF := Aside0.mk (fun W (M : List Th) g (h : Sep w0 W (cellsT g s.V.toArray 27 :: M)) => (show W.cell? ⟨g, 0, none⟩ = some (.int .i64 s.a) ∧ W.cell? ⟨g, 2, none⟩ = some (.int .i64 s.c) from
    have k := SlAt.mk h.cells.1 hs; ⟨k.c0, k.c2⟩))
  have HAC := Aside0.mk (fun W (M : List Th) gd (h : Sep w0 W (dkT gd (DS.fresh n (List.replicate n zeros)) :: M)) => (show Calls Tryd.prog 18 #[.pointer (some ⟨gd, 0, none⟩)] W (fun e w' => e = .returned (.agg #[.int .i64 0, .int .i64 0, .int .i64 0]) ∧ Sep w0 w' (dkT gd (DS.fresh n (List.replicate n zeros)) :: M)) from Sep.acts h))
  have HNW := Aside0.mk (fun W (M : List Th) gd (h : Sep w0 W (dkT gd (DS.fresh n (List.replicate n zeros)) :: M)) => (show Calls Tryd.prog 17 #[.pointer (some ⟨gd, 0, none⟩), .agg s.V.toArray] W (fun e w' => e = .returned (.tuple #[.pointer none, .int .i64 180]) ∧ Sep w0 w' (dkT gd (DS.fresh n (List.replicate n zeros)) :: M)) from Sep.writer_no h s hs hm))
  have HEN := Aside0.mk (fun W => encodeR_no s hs hm W)
  have h41 : (n : Int) ≤ 4096 := by omega
  clear hH hs hm h2 h4
  generalize s.V.toArray = V at *
  go_enter Tryd.func4, Tryd.ntmps4
  go_upto_region 1 with (fail)
  generalize w0.alloc (.cells V 27) = w1 at HS0 ⊢
  generalize w0.heap.size = g4 at HS0 ⊢
  go_upto_region 3 with (first
    | (go_at_call 15; (with_reducible refine (HN.out _ _ HS0.out).mono ?_); rintro e w2 ⟨gd, rfl, h⟩; have HS1 := Aside0.mk h; clear h HS0)
    | (go_at_call 16; (with_reducible refine (HR.out _ _ HS1.out).mono ?_); rintro e w3 ⟨A1, c1, A2, c2, rfl, h⟩; have HS2 := Aside0.mk h; clear h HS1))
  have HS3 := Aside0.mk (HS2.out.push_alloc #[.int .i64 (n : Int), .slice A1 0 c1, .slice A2 0 c2, .int .i64 0, .int .i64 0, .int .i64 0] 43)
  clear HN HR HS2
  generalize w3.alloc (.cells #[.int .i64 (n : Int), .slice A1 0 c1, .slice A2 0 c2, .int .i64 0, .int .i64 0, .int .i64 0] 43) = w4 at HS3 ⊢
  generalize w3.heap.size = gw at HS3 ⊢
  have HS4 := Aside0.mk (show Sep w0 w4 (dkT gd (DS.fresh n (List.replicate n zeros)) :: cellsT g4 V 27 :: cellsT gw #[.int .i64 (n : Int), .slice A1 0 c1, .slice A2 0 c2, .int .i64 0, .int .i64 0, .int .i64 0] 43 :: refT (.slice A1 0 c1) (.slice A2 0 c2) [] [] :: []) from HS3.out.sel 4 [2, 3, 0, 1] _ rfl (by decide) rfl)
  clear HS3
  go_upto_region 6 with (first
    | ((with_reducible refine gate_load (ty := 27) rfl ?_); refine wpList_ldw ?_ 27 _ rfl ⟨g4, 0, none⟩ ?_ V _ (HLV.out _ _ _ HS4.out.up1) Tryd.underlying27 rfl HSZ.out ?_; exact rfl; exact rfl; skip)
    | (go_at_call 17; (with_reducible refine (HNW.out _ _ _ HS4.out).mono ?_); rintro e w5 ⟨rfl, h5⟩; have HS5 := Aside0.mk h5; clear h5 HS4))
  go_upto_region 7 with (first
    | ((with_reducible refine gate_load (ty := 27) rfl ?_); refine wpList_ldw ?_ 27 _ rfl ⟨g4, 0, none⟩ ?_ V _ (HLV.out _ _ _ HS5.out.up1) Tryd.underlying27 rfl HSZ.out ?_; exact rfl; exact rfl; skip)
    | (go_at_call 17; (with_reducible refine (HNN.out _).mono ?_); rintro e w6 ⟨rfl, hb⟩; have HS6 := Aside0.mk (HS5.out.step hb); clear hb HS5))
  go_upto_region 8 with (first
    | ((with_reducible refine gate_load (ty := 27) rfl ?_); refine wpList_ldw ?_ 27 _ rfl ⟨g4, 0, none⟩ ?_ V _ (HLV.out _ _ _ HS6.out.up1) Tryd.underlying27 rfl HSZ.out ?_; exact rfl; exact rfl; skip)
    | (go_at_call 13; (with_reducible refine (HEN.out _).mono ?_); rintro e w7 ⟨rfl, hb⟩; have HS7 := Aside0.mk (HS6.out.step hb); clear hb HS6))
  go_upto_region 10 with (go_at_call 18; (with_reducible refine (HAC.out _ _ _ HS7.out).mono ?_); rintro e w8 ⟨rfl, h8⟩; have HS8 := Aside0.mk h8; clear h8 HS7)
  go_wp2
  go_ret
  exact ⟨rfl, HS8.out.below⟩
set_option maxHeartbeats 8000000 in
set_option maxRecDepth 100000 in
theorem wr_else {w0 : World} (hH : Wr.Half w0) (n : Nat) (h2 : 2 ≤ n) (h4 : n ≤ 4096) (s : SL) (hs : s.Ok) (hm : mayM s = true) (hsec : s.a ≠ (n : Int)) (st : Int) : Calls Tryd.prog 4 #[.int .i64 (n : Int), .agg s.V.toArray, .int .i64 st] w0 fun e w' => e = .returned (.bool true) ∧ Below w0.heap.size w0 w' := by
  have HS0 := Aside0.mk ((Sep.refl w0).push_alloc s.V.toArray 27)
  have HN := Aside0.mk (fun W (M : List Th) (h : Sep w0 W M) => Sep.new h n h2 (by omega))
  have HR := Aside0.mk (fun W (M : List Th) (h : Sep w0 W M) => Sep.rNew h (n : Int) (n : Int) [] [] 0 0 0 0 (ref_new_f n h2 (by omega)))
  have HNN := Aside0.mk (fun W => writer_nil s.V.toArray W)
  have HSZ := Aside0.mk (SlAt.sa hs)
  have HLV := Aside0.mk (fun W (M : List Th) g (h : Sep w0 W (cellsT g s.V.toArray 27 :: M)) => (show ∀ j v, s.V.toArray.toList[j]? = some v → W.cell? ((⟨g, 0, none⟩ : Addr).add j) = some v from fun j v hv => seg_at h.cells.1 0 s.V (by rw [List.drop_zero]; exact List.take_of_length_le (Nat.le_refl _)) j v (by simpa using hv)))
  have HLF := Aside0.mk (fun W (M : List Th) g (h : Sep w0 W (cellsT g s.V.toArray 27 :: M)) => (show W.cell? ⟨g, 0, none⟩ = some (.int .i64 s.a) ∧ W.cell? ⟨g, 2, none⟩ = some (.int .i64 s.c) from
    have k := SlAt.mk h.cells.1 hs; ⟨k.c0, k.c2⟩))
  have HAC := Aside0.mk (fun W (M : List Th) gd (h : Sep w0 W (dkT gd (DS.fresh n (List.replicate n zeros)) :: M)) => (show Calls Tryd.prog 18 #[.pointer (some ⟨gd, 0, none⟩)] W (fun e w' => e = .returned (.agg #[.int .i64 0, .int .i64 0, .int .i64 0]) ∧ Sep w0 w' (dkT gd (DS.fresh n (List.replicate n zeros)) :: M)) from Sep.acts h))
  have HNW := Aside0.mk (fun W (M : List Th) gd (h : Sep w0 W (dkT gd (DS.fresh n (List.replicate n zeros)) :: M)) => (show Calls Tryd.prog 17 #[.pointer (some ⟨gd, 0, none⟩), .agg s.V.toArray] W (fun e w' => e = .returned (.tuple #[.pointer none, .int .i64 180]) ∧ Sep w0 w' (dkT gd (DS.fresh n (List.replicate n zeros)) :: M)) from Sep.writer_else h hH s hs hm hsec))
  have HEN := Aside0.mk (fun W (M : List Th) (h : Sep w0 W M) => Sep.encodeR h s hs hm)
  have hne : decide (s.a = (n : Int)) = false := decide_eq_false hsec
  have h41 : (n : Int) ≤ 4096 := by omega
  clear hH hs hm h2 h4
  generalize s.V.toArray = V at *
  generalize encB s = eb at HEN
  generalize s.a = sa at *
  go_enter Tryd.func4, Tryd.ntmps4
  go_upto_region 1 with (fail)
  generalize w0.alloc (.cells V 27) = w1 at HS0 ⊢
  generalize w0.heap.size = g4 at HS0 ⊢
  go_upto_region 3 with (first
    | (go_at_call 15; (with_reducible refine (HN.out _ _ HS0.out).mono ?_); rintro e w2 ⟨gd, rfl, h⟩; have HS1 := Aside0.mk h; clear h HS0)
    | (go_at_call 16; (with_reducible refine (HR.out _ _ HS1.out).mono ?_); rintro e w3 ⟨A1, c1, A2, c2, rfl, h⟩; have HS2 := Aside0.mk h; clear h HS1))
  have HS3 := Aside0.mk (HS2.out.push_alloc #[.int .i64 (n : Int), .slice A1 0 c1, .slice A2 0 c2, .int .i64 0, .int .i64 0, .int .i64 0] 43)
  clear HN HR HS2
  generalize w3.alloc (.cells #[.int .i64 (n : Int), .slice A1 0 c1, .slice A2 0 c2, .int .i64 0, .int .i64 0, .int .i64 0] 43) = w4 at HS3 ⊢
  generalize w3.heap.size = gw at HS3 ⊢
  have HS4 := Aside0.mk (show Sep w0 w4 (dkT gd (DS.fresh n (List.replicate n zeros)) :: cellsT g4 V 27 :: cellsT gw #[.int .i64 (n : Int), .slice A1 0 c1, .slice A2 0 c2, .int .i64 0, .int .i64 0, .int .i64 0] 43 :: refT (.slice A1 0 c1) (.slice A2 0 c2) [] [] :: []) from HS3.out.sel 4 [2, 3, 0, 1] _ rfl (by decide) rfl)
  clear HS3
  go_upto_region 6 with (first
    | ((with_reducible refine gate_load (ty := 27) rfl ?_); refine wpList_ldw ?_ 27 _ rfl ⟨g4, 0, none⟩ ?_ V _ (HLV.out _ _ _ HS4.out.up1) Tryd.underlying27 rfl HSZ.out ?_; exact rfl; exact rfl; skip)
    | (go_at_call 17; (with_reducible refine (HNW.out _ _ _ HS4.out).mono ?_); rintro e w5 ⟨rfl, h5⟩; have HS5 := Aside0.mk h5; clear h5 HS4))
  go_upto_region 7 with (first
    | ((with_reducible refine gate_load (ty := 27) rfl ?_); refine wpList_ldw ?_ 27 _ rfl ⟨g4, 0, none⟩ ?_ V _ (HLV.out _ _ _ HS5.out.up1) Tryd.underlying27 rfl HSZ.out ?_; exact rfl; exact rfl; skip)
    | (go_at_call 17; (with_reducible refine (HNN.out _).mono ?_); rintro e w6 ⟨rfl, hb⟩; have HS6 := Aside0.mk (HS5.out.step hb); clear hb HS5))
  go_upto_region 8 with (first
    | ((with_reducible refine gate_load (ty := 27) rfl ?_); refine wpList_ldw ?_ 27 _ rfl ⟨g4, 0, none⟩ ?_ V _ (HLV.out _ _ _ HS6.out.up1) Tryd.underlying27 rfl HSZ.out ?_; exact rfl; exact rfl; skip)
    | (go_at_call 13; (with_reducible refine (HEN.out _ _ HS6.out).mono ?_); rintro e w7 ⟨Ae, ce, rfl, h7⟩; have HS7 := Aside0.mk h7.up1; clear h7 HS6))
  go_upto_region 10 with (go_at_call 18; (with_reducible refine (HAC.out _ _ _ HS7.out).mono ?_); rintro e w8 ⟨rfl, h8⟩; have HS8 := Aside0.mk h8; clear h8 HS7)
  have x0 := (HLF.out _ _ _ HS8.out.up2).1
  go_wp2
  go_ret
  exact ⟨rfl, HS8.out.below⟩
end Go.Proofs.YtaflofcnjakaaaaDoor.M

namespace Go.Proofs.YtaflofcnjakaaaaDoor.M
open Go.RowKit Go.Maps Go.Proofs.YtaflofcnjakaaaaDoorW.PrintWords Go.Proofs.YtaflofcnjakaaaaDoorW.PrintLast Go.Proofs.YtaflofcnjakaaaaDoorW.PrintMore Go.Proofs.YtaflofcnjakaaaaDoor.Wr Go.Proofs.YtaflofcnjakaaaaDoor.Pl Go.Proofs.YtaflofcnjakaaaaDoor.Z Go.Proofs.YtaflofcnjakaaaaDoor.A
set_option linter.unusedVariables false
set_option linter.unusedSimpArgs false
set_option maxRecDepth 100000
def fD (n : Nat) : DS := DS.fresh n (List.replicate n zeros)
theorem all43 (n r wr fl : Int) (A1 A2 : Option Addr) (p q c1 c2 : Nat) : (#[Value.int .i64 n, .slice A1 p c1, .slice A2 q c2, .int .i64 r, .int .i64 wr, .int .i64 fl] : Array Value).all (·.oneCell') = true := by
  rw [Array.all_eq_true']
  intro v hv
  simp only [List.mem_toArray, List.mem_cons, List.not_mem_nil, or_false] at hv
  rcases hv with rfl | rfl | rfl | rfl | rfl | rfl <;> rfl
theorem wrap01 : wrap64 (0 + 1) = 1 := by unfold wrap64; decide
theorem fD1 (n i : Nat) (b : List Int) : (stepD (fD n) i b 1).n = n ∧ (stepD (fD n) i b 1).r = 0 ∧ (stepD (fD n) i b 1).wr = 1 ∧ (stepD (fD n) i b 1).fl = 0 := ⟨rfl, rfl, wrap01, rfl⟩
theorem fD2 (n i : Nat) (b : List Int) : (stepD (fD n) i b 2).n = n ∧ (stepD (fD n) i b 2).r = 0 ∧ (stepD (fD n) i b 2).wr = 1 ∧ (stepD (fD n) i b 2).fl = 1 := ⟨rfl, rfl, wrap01, wrap01⟩
theorem fD_R1 {n i : Nat} {b : List Int} (hi : i < n) (hb : b.length = 512) : Rl (stepD (fD n) i b 1) [] [⟨(i : Int), b⟩] := (Rl.fresh n).put i hi b hb
theorem fD_R2 {n i : Nat} {b : List Int} (hi : i < n) (hb : b.length = 512) : Rl (stepD (fD n) i b 2) [⟨(i : Int), b⟩] [] := (fD_R1 hi hb).flush
theorem flushR_one (x : S106) : flushR [] [x] = [x] := by
  have h := flushR_snoc [] [] x
  rw [List.nil_append] at h
  rw [h]
  rfl
section
variable {w0 W : World} {M : List Th} {n i gd : Nat} {b : List Int} {A1 A2 Ae : Option Addr} {c1 c2 ce : Nat}
theorem f_write {nn : Int} (hnn : nn = (i : Int)) (hi : i < n) (hb : b.length = 512) (h : Sep w0 W (refT (.slice A1 0 c1) (.slice A2 0 c2) [] [] :: M)) (hC : (Kd.int .u8).C W Ae 512 b) (hc : 512 ≤ ce) :
    Calls Tryd.prog 20 #[.agg #[.int .i64 (n : Int), .slice A1 0 c1, .slice A2 0 c2, .int .i64 0, .int .i64 0, .int .i64 0], .int .i64 nn, .slice Ae 512 ce] W (fun e w' => ∃ A1' c1' A2' c2', e = .returned (.tuple #[.agg #[.int .i64 (n : Int), .slice A1' 0 c1', .slice A2' 1 c2', .int .i64 0, .int .i64 1, .int .i64 0], .int .i64 0]) ∧ Sep w0 w' (refT (.slice A1' 0 c1') (.slice A2' 1 c2') [] [⟨(i : Int), b⟩] :: M)) := by
  subst hnn
  have hf := write_ev [] [] n i hi 0 0 0 b hb (Nat.zero_le _) 2 (Nat.le_refl _)
  rw [wrap01] at hf
  have h' := Sep.rWrite h 2 (n : Int) 0 0 0 (i : Int) Ae ce b (n : Int) [] [⟨(i : Int), b⟩] 0 1 0 0 (by rw [hb]; exact hC) (by rw [hb]; exact hc) hf
  simp only [List.length_nil, List.length_singleton, hb] at h'
  refine h'.mono ?_
  rintro e w' ⟨A1', c1', A2', c2', he, h3⟩
  exact ⟨A1', c1', A2', c2', he, h3⟩
theorem f_flush (h : Sep w0 W (refT (.slice A1 0 c1) (.slice A2 1 c2) [] [⟨(i : Int), b⟩] :: M)) :
    Calls Tryd.prog 21 #[.agg #[.int .i64 (n : Int), .slice A1 0 c1, .slice A2 1 c2, .int .i64 0, .int .i64 1, .int .i64 0]] W (fun e w' => ∃ A1' c1' A2' c2', e = .returned (.agg #[.int .i64 (n : Int), .slice A1' 1 c1', .slice A2' 0 c2', .int .i64 0, .int .i64 1, .int .i64 1]) ∧ Sep w0 w' (refT (.slice A1' 1 c1') (.slice A2' 0 c2') [⟨(i : Int), b⟩] [] :: M)) := by
  have hf := flush_ev [] [⟨(i : Int), b⟩] (n : Int) 0 1 0 (by simp) 4 (by simp)
  rw [wrap01, flushR_one] at hf
  have h' := Sep.rFlush (l1 := []) (l2 := [⟨(i : Int), b⟩]) h 4 (n : Int) 0 1 0 (n : Int) [⟨(i : Int), b⟩] [] 0 1 1 hf
  simp only [List.length_nil, List.length_singleton] at h'
  exact h'
theorem f_acts {E : DS} {r wr fl : Int} (hr : E.r = r) (hw : E.wr = wr) (hf : E.fl = fl) (h : Sep w0 W (dkT gd E :: M)) : Calls Tryd.prog 18 #[.pointer (some ⟨gd, 0, none⟩)] W (fun e w' => e = .returned (.agg #[.int .i64 r, .int .i64 wr, .int .i64 fl]) ∧ Sep w0 w' (dkT gd E :: M)) := by
  subst hr hw hf
  exact Sep.acts h
theorem f_image {E : DS} (hn : E.n = n) (h : Sep w0 W (dkT gd E :: M)) : Calls Tryd.prog 23 #[.pointer (some ⟨gd, 0, none⟩)] W (fun e w' => ∃ go c, e = .returned (.slice (some ⟨go, 0, none⟩) n c) ∧ Sep w0 w' (rowsT KB 28 (.slice (some ⟨go, 0, none⟩) n c) E.L :: dkT gd E :: M)) := by
  subst hn
  exact Sep.image h
theorem f_rimage {E : DS} {l1 l2 : List S106} {p q : Nat} {r wr0 fl : Int} (hR : Rl E l1 l2) (hE : E.n = n) (hp : l1.length = p) (hq : l2.length = q) (hl : p ≤ 1) (h2 : 2 ≤ n) (h4 : n ≤ 65536) (h : Sep w0 W (refT (.slice A1 p c1) (.slice A2 q c2) l1 l2 :: M)) :
    Calls Tryd.prog 24 #[.agg #[.int .i64 (n : Int), .slice A1 p c1, .slice A2 q c2, .int .i64 r, .int .i64 wr0, .int .i64 fl]] W fun e w' => ∃ go c, e = .returned (.slice (some ⟨go, 0, none⟩) n c) ∧ Sep W w' [ownT KB 28 (.slice (some ⟨go, 0, none⟩) n c) E.L] := by
  subst hp hq
  have h1 := rImage_calls A1 c1 l1 A2 l2.length c2 n r wr0 fl W h.ref_C.1 h.ref_C.2.1 h2 h4 (by omega) (fun j hj => by
    rw [rd106 l1 j hj]
    obtain ⟨g1, g2⟩ := hR.e1 _ (List.getElem_mem hj)
    rw [hE] at g1
    exact ⟨g1, by omega⟩)
  have h3 := hR.image
  rw [hE] at h3
  rwa [h3] at h1
end
end Go.Proofs.YtaflofcnjakaaaaDoor.M

namespace Go.Proofs.YtaflofcnjakaaaaDoor.M
open Go.RowKit Go.Maps Go.Proofs.YtaflofcnjakaaaaDoorW.PrintWords Go.Proofs.YtaflofcnjakaaaaDoorW.PrintLast Go.Proofs.YtaflofcnjakaaaaDoorW.PrintMore Go.Proofs.YtaflofcnjakaaaaDoor.Wr Go.Proofs.YtaflofcnjakaaaaDoor.Pl Go.Proofs.YtaflofcnjakaaaaDoor.Z Go.Proofs.YtaflofcnjakaaaaDoor.A
set_option linter.unusedVariables false
set_option linter.unusedSimpArgs false
def rwa_T : Bool × List (List Nat × List Nat) := (true, [([], []), ([0], [0]), ([1], [1]), ([2], [2]), ([2], [2]), ([4, 2], [2, 4]), ([3, 5, 2], [2, 3, 5]), ([2, 6], [2, 6]), ([7, 2], [7]), ([8], [8]), ([9, 8, 8], [8, 9]), ([8], [8]), ([11, 8], [8, 11]), ([10, 12, 8], [8, 10, 12]), ([8, 13], [8, 13]), ([14, 10], [14]), ([15], [15]), ([16, 15, 15], [15, 16]), ([15], [15]), ([18, 17, 15], [15, 18]), ([17, 19, 19, 15], [15, 17, 19]), ([20, 15], [15, 20]), ([15, 21], [15, 21])])
def rwa_B : List Nat := [0, 1, 3, 7, 7, 23, 63, 127, 255, 511, 1023, 511, 2559, 8191, 16383, 32767, 65535, 131071, 65535, 524287, 1048575, 2097151, 4194303]
theorem rwa_tab : rtab .any (opsOf Tryd.f4 22) = rwa_T := by kernel_rfl
theorem rwa_bits : waitsOk rwa_T.2 rwa_B = true := by kernel_rfl
def rwb_T : Bool × List (List Nat × List Nat) := (true, [([], []), ([0], [0]), ([1], [1]), ([2], [2]), ([2], [2]), ([4, 2], [2, 4]), ([3, 5, 2], [2, 3, 5]), ([2, 6], [2, 6]), ([7, 2], [7]), ([8], [8]), ([9, 8, 8], [8, 9]), ([8], [8]), ([11, 8], [8, 11]), ([10, 12, 8], [8, 10, 12]), ([8, 13], [8, 13]), ([14, 10], [14]), ([15], [15]), ([16, 15, 15], [15, 16]), ([15], [15]), ([18, 17, 15], [15, 18]), ([17, 19, 19, 15], [15, 17, 19]), ([20, 15], [15, 20]), ([15, 21], [15, 21])])
def rwb_B : List Nat := [0, 1, 3, 7, 7, 23, 63, 127, 255, 511, 1023, 511, 2559, 8191, 16383, 32767, 65535, 131071, 65535, 524287, 1048575, 2097151, 4194303]
theorem rwb_tab : rtab .any (opsOf Tryd.f4 22) = rwb_T := by kernel_rfl
theorem rwb_bits : waitsOk rwb_T.2 rwb_B = true := by kernel_rfl
def wl1 (x : S106) : Nat → List S106
  | 0 => []
  | 1 => []
  | _ => [x]
def wl2 (x : S106) : Nat → List S106
  | 0 => []
  | 1 => [x]
  | _ => []
def stN : Nat → Int
  | 0 => 0
  | 1 => 1
  | _ => 2
def wN : Nat → Int
  | 0 => 0
  | _ => 1
def fN : Nat → Int
  | 0 => 0
  | 1 => 0
  | _ => 1
theorem size43 : (Tryd.prog.info? 43).map (·.size) = some 6 := by kernel_rfl
def wrS (n gx ge gd gw g4 : Nat) (nn : Int) (eb : List Int) (V : Array Value) (x : S106) (D : DS) (i : Nat) (Ae : Option Addr) (ce : Nat) (A1 A2 : Option Addr) (c1 c2 : Nat) (k : Nat) : List Th :=
  [cellsT gx #[.pointer (some ⟨gd, 0, none⟩), .int .i64 nn, .slice (some ⟨ge, 0, none⟩) 512 512, .int .i64 (stN k)] 104, cellsT ge (nums .u8 eb).toArray 89, dkT gd (stepD D i eb k), cellsT gw #[.int .i64 (n : Int), .slice A1 (wl1 x k).length c1, .slice A2 (wl2 x k).length c2, .int .i64 0, .int .i64 (wN k), .int .i64 (fN k)] 43, refT (.slice A1 (wl1 x k).length c1) (.slice A2 (wl2 x k).length c2) (wl1 x k) (wl2 x k), ownT (Kd.int .u8) 5 (.slice Ae 512 ce) eb, cellsT g4 V 27]
set_option maxHeartbeats 16000000 in
set_option maxRecDepth 100000 in
theorem wr_yes {w0 : World} (hH : Wr.Half w0) (n : Nat) (h2 : 2 ≤ n) (h4 : n ≤ 4096) (s : SL) (hs : s.Ok) (hm : mayM s = true) (hsec : s.a = (n : Int)) (st : Int) : Calls Tryd.prog 4 #[.int .i64 (n : Int), .agg s.V.toArray, .int .i64 st] w0 fun e w' => e = .returned (.bool true) ∧ Below w0.heap.size w0 w' := by
  have HS0 := Aside0.mk ((Sep.refl w0).push_alloc s.V.toArray 27)
  have HN := Aside0.mk (fun W (M : List Th) (h : Sep w0 W M) => (show Calls Tryd.prog 15 #[.int .i64 (n : Int)] W (fun e w' => ∃ g, e = .returned (.tuple #[.pointer (some ⟨g, 0, none⟩), .int .i64 0]) ∧ Sep w0 w' (dkT g (fD n) :: M)) from Sep.new h n h2 (by omega)))
  have HR := Aside0.mk (fun W (M : List Th) (h : Sep w0 W M) => Sep.rNew h (n : Int) (n : Int) [] [] 0 0 0 0 (ref_new_f n h2 (by omega)))
  have HNN := Aside0.mk (fun W => writer_nil s.V.toArray W)
  have HSZ := Aside0.mk (SlAt.sa hs)
  have HLV := Aside0.mk (fun W (M : List Th) g (h : Sep w0 W (cellsT g s.V.toArray 27 :: M)) => (show ∀ j v, s.V.toArray.toList[j]? = some v → W.cell? ((⟨g, 0, none⟩ : Addr).add j) = some v from fun j v hv => seg_at h.cells.1 0 s.V (by rw [List.drop_zero]; exact List.take_of_length_le (Nat.le_refl _)) j v (by simpa using hv)))
  have HLF := Aside0.mk (fun W (M : List Th) g (h : Sep w0 W (cellsT g s.V.toArray 27 :: M)) => (show W.cell? ⟨g, 0, none⟩ = some (.int .i64 s.a) ∧ W.cell? ⟨g, 2, none⟩ = some (.int .i64 s.c) from
    have k := SlAt.mk h.cells.1 hs; ⟨k.c0, k.c2⟩))
  have HAC := Aside0.mk (fun W (M : List Th) gd (h : Sep w0 W (dkT gd (fD n) :: M)) => (show Calls Tryd.prog 18 #[.pointer (some ⟨gd, 0, none⟩)] W (fun e w' => e = .returned (.agg #[.int .i64 0, .int .i64 0, .int .i64 0]) ∧ Sep w0 w' (dkT gd (fD n) :: M)) from Sep.acts h))
  obtain ⟨i, hi2, hip⟩ : ∃ i : Nat, i < 2 ∧ s.c.tmod 2 = (i : Int) := by
    have h0 := ((may_iff s).1 hm).c.1
    refine ⟨(s.c % 2).toNat, by omega, ?_⟩
    rw [Int.tmod_eq_emod_of_nonneg h0]; omega
  have HEN := Aside0.mk (fun W (M : List Th) (h : Sep w0 W M) => Sep.encodeR h s hs hm)
  have hEL := encB_len hs
  have hiD : i < n := by omega
  have HT0 := Aside0.mk (fun W (M : List Th) gx ge gd (h : Sep w0 W (wrT gx ge gd (s.c.tmod 2) (encB s) 0 ++ dkT gd (stepD (fD n) i (encB s) 0) :: M)) => (show Calls Tryd.prog 19 #[.pointer (some ⟨gx, 0, none⟩)] W (fun e w' => e = .returned (.tuple #[.bool false, .int .i64 0]) ∧ Sep w0 w' (wrT gx ge gd (s.c.tmod 2) (encB s) 1 ++ dkT gd (stepD (fD n) i (encB s) 1) :: M)) from Sep.step0 h hip hiD (show 0 < 1073741824 by decide) hEL))
  have HT1 := Aside0.mk (fun W (M : List Th) gx ge gd (h : Sep w0 W (wrT gx ge gd (s.c.tmod 2) (encB s) 1 ++ dkT gd (stepD (fD n) i (encB s) 1) :: M)) => (show Calls Tryd.prog 19 #[.pointer (some ⟨gx, 0, none⟩)] W (fun e w' => e = .returned (.tuple #[.bool true, .int .i64 0]) ∧ Sep w0 w' (wrT gx ge gd (s.c.tmod 2) (encB s) 2 ++ dkT gd (stepD (fD n) i (encB s) 2) :: M)) from Sep.step1 h))
  have HT2 := Aside0.mk (fun W (M : List Th) gx ge gd (h : Sep w0 W (wrT gx ge gd (s.c.tmod 2) (encB s) 2 ++ M)) => Sep.step2 h)
  have HWR := Aside0.mk (fun W (M : List Th) A1 c1 A2 c2 Ae ce (h : Sep w0 W (refT (.slice A1 0 c1) (.slice A2 0 c2) [] [] :: M)) (hC : (Kd.int .u8).C W Ae 512 (encB s)) (hc : 512 ≤ ce) => f_write (n := n) hip hiD hEL h hC hc)
  have HIP := Aside0.mk hip
  have HFR := Aside0.mk (fun W (M : List Th) A1 c1 A2 c2 (h : Sep w0 W (refT (.slice A1 0 c1) (.slice A2 1 c2) [] [⟨(i : Int), encB s⟩] :: M)) => f_flush (n := n) h)
  have HAC1 := Aside0.mk (fun W (M : List Th) gd (h : Sep w0 W (dkT gd (stepD (fD n) i (encB s) 1) :: M)) => f_acts (fD1 n i (encB s)).2.1 (fD1 n i (encB s)).2.2.1 (fD1 n i (encB s)).2.2.2 h)
  have HAC2 := Aside0.mk (fun W (M : List Th) gd (h : Sep w0 W (dkT gd (stepD (fD n) i (encB s) 2) :: M)) => f_acts (fD2 n i (encB s)).2.1 (fD2 n i (encB s)).2.2.1 (fD2 n i (encB s)).2.2.2 h)
  have HRI1 := Aside0.mk (fun W (M : List Th) A1 c1 A2 c2 r wr0 fl (h : Sep w0 W (refT (.slice A1 0 c1) (.slice A2 1 c2) [] [⟨(i : Int), encB s⟩] :: M)) => f_rimage (p := 0) (q := 1) (r := r) (wr0 := wr0) (fl := fl) (fD_R1 hiD hEL) (fD1 n i (encB s)).1 rfl rfl (by decide) h2 (by omega) h)
  have HRI2 := Aside0.mk (fun W (M : List Th) A1 c1 A2 c2 r wr0 fl (h : Sep w0 W (refT (.slice A1 1 c1) (.slice A2 0 c2) [⟨(i : Int), encB s⟩] [] :: M)) => f_rimage (p := 1) (q := 0) (r := r) (wr0 := wr0) (fl := fl) (fD_R2 hiD hEL) (fD2 n i (encB s)).1 rfl rfl (by simp) h2 (by omega) h)
  have HIG1 := Aside0.mk (fun W (M : List Th) gd (h : Sep w0 W (dkT gd (stepD (fD n) i (encB s) 1) :: M)) => f_image (fD1 n i (encB s)).1 h)
  have HIG2 := Aside0.mk (fun W (M : List Th) gd (h : Sep w0 W (dkT gd (stepD (fD n) i (encB s) 2) :: M)) => f_image (fD2 n i (encB s)).1 h)
  have HSM1 := Aside0.mk (same_refl (stepD (fD n) i (encB s) 1).L (by rw [(fD_R1 hiD hEL).len, (fD1 n i (encB s)).1]; omega))
  have HSM2 := Aside0.mk (same_refl (stepD (fD n) i (encB s) 2).L (by rw [(fD_R2 hiD hEL).len, (fD2 n i (encB s)).1]; omega))
  have HNW := Aside0.mk (fun W (M : List Th) gd (h : Sep w0 W (dkT gd (fD n) :: M)) => (show Calls Tryd.prog 17 #[.pointer (some ⟨gd, 0, none⟩), .agg s.V.toArray] W (fun e w' => ∃ gx ge, e = .returned (.tuple #[.pointer (some ⟨gx, 0, none⟩), .int .i64 0]) ∧ Sep w0 w' (cellsT gx #[.pointer (some ⟨gd, 0, none⟩), .int .i64 (s.c.tmod 2), .slice (some ⟨ge, 0, none⟩) 512 512, .int .i64 0] 104 :: cellsT ge (nums .u8 (encB s)).toArray 89 :: dkT gd (fD n) :: M)) from Sep.writer h hH s hs hm hsec))
  have h41 : (n : Int) ≤ 4096 := by omega
  have HX0 := Aside0.mk hsec
  clear hH hs hm h2 h4 hsec hip hi2 hiD
  have HEL := Aside0.mk hEL
  clear hEL
  generalize s.V.toArray = V at *
  generalize encB s = eb at *
  generalize s.a = sa at *
  have HIPn := Aside0.mk (show s.c.tmod 2 = s.c.tmod 2 from rfl)
  generalize s.c = sc at *
  go_enter Tryd.func4, Tryd.ntmps4
  go_upto_region 1 with (fail)
  generalize w0.alloc (.cells V 27) = w1 at HS0 ⊢
  generalize w0.heap.size = g4 at HS0 ⊢
  go_upto_region 3 with (first
    | (go_at_call 15; (with_reducible refine (HN.out _ _ HS0.out).mono ?_); rintro e w2 ⟨gd, rfl, h⟩; have HS1 := Aside0.mk h; clear h HS0)
    | (go_at_call 16; (with_reducible refine (HR.out _ _ HS1.out).mono ?_); rintro e w3 ⟨A1, c1, A2, c2, rfl, h⟩; have HS2 := Aside0.mk h; clear h HS1))
  have HS3 := Aside0.mk (HS2.out.push_alloc #[.int .i64 (n : Int), .slice A1 0 c1, .slice A2 0 c2, .int .i64 0, .int .i64 0, .int .i64 0] 43)
  clear HN HR HS2
  generalize w3.alloc (.cells #[.int .i64 (n : Int), .slice A1 0 c1, .slice A2 0 c2, .int .i64 0, .int .i64 0, .int .i64 0] 43) = w4 at HS3 ⊢
  generalize w3.heap.size = gw at HS3 ⊢
  have HS4 := Aside0.mk (show Sep w0 w4 (dkT gd (fD n) :: cellsT g4 V 27 :: cellsT gw #[.int .i64 (n : Int), .slice A1 0 c1, .slice A2 0 c2, .int .i64 0, .int .i64 0, .int .i64 0] 43 :: refT (.slice A1 0 c1) (.slice A2 0 c2) [] [] :: []) from HS3.out.sel 4 [2, 3, 0, 1] _ rfl (by decide) rfl)
  clear HS3
  go_upto_region 6 with (first
    | ((with_reducible refine gate_load (ty := 27) rfl ?_); refine wpList_ldw ?_ 27 _ rfl ⟨g4, 0, none⟩ ?_ V _ (HLV.out _ _ _ HS4.out.up1) Tryd.underlying27 rfl HSZ.out ?_; exact rfl; exact rfl; skip)
    | (go_at_call 17; (with_reducible refine (HNW.out _ _ _ HS4.out).mono ?_); rintro e w5 ⟨gx, ge, rfl, h5⟩; have HS5 := Aside0.mk h5; clear h5 HS4))
  go_upto_region 7 with (first
    | ((with_reducible refine gate_load (ty := 27) rfl ?_); refine wpList_ldw ?_ 27 _ rfl ⟨g4, 0, none⟩ ?_ V _ (HLV.out _ _ _ HS5.out.up3) Tryd.underlying27 rfl HSZ.out ?_; exact rfl; exact rfl; skip)
    | (go_at_call 17; (with_reducible refine (HNN.out _).mono ?_); rintro e w6 ⟨rfl, hb⟩; have HS6 := Aside0.mk (HS5.out.step hb); clear hb HS5))
  go_upto_region 8 with (first
    | ((with_reducible refine gate_load (ty := 27) rfl ?_); refine wpList_ldw ?_ 27 _ rfl ⟨g4, 0, none⟩ ?_ V _ (HLV.out _ _ _ HS6.out.up3) Tryd.underlying27 rfl HSZ.out ?_; exact rfl; exact rfl; skip)
    | (go_at_call 13; (with_reducible refine (HEN.out _ _ HS6.out).mono ?_); rintro e w7 ⟨Ae, ce, rfl, h7⟩; have HS7 := Aside0.mk h7; clear h7 HS6))
  go_upto_region 10 with (go_at_call 18; (with_reducible refine (HAC.out _ _ _ HS7.out.up3).mono ?_); rintro e w8 ⟨rfl, h8⟩; have HS8 := Aside0.mk h8; clear h8 HS7)
  have x0 := (HLF.out _ _ _ HS8.out.up4).1
  rw [HX0.out] at x0
  clear HX0
  go_upto_region 14 with (fail)
  clear x0 HNW HEN HNN HAC
  have HSk := Aside0.mk (show Sep w0 w8 (wrS n gx ge gd gw g4 (sc.tmod 2) eb V ⟨(i : Int), eb⟩ (fD n) i Ae ce A1 A2 c1 c2 0) from HS8.out.sel 7 [2, 3, 0, 5, 6, 1, 4] _ rfl (by decide) rfl)
  clear HS8
  go_upto_region 15 with (fail)
  go_loopg [17] 5 (fun kq v17 wr => ∃ (k : Nat) (A1 A2 : Option Addr) (c1 c2 : Nat), v17 = .int .i64 k ∧ Aside0 (k + kq = 5) ∧ Aside0 (Sep w0 wr (wrS n gx ge gd gw g4 (sc.tmod 2) eb V ⟨(i : Int), eb⟩ (fD n) i Ae ce A1 A2 c1 c2 k)))
  case atStart => exact ⟨0, A1, A2, c1, c2, rfl, ⟨rfl⟩, HSk⟩
  case round =>
    clear HSk

    obtain ⟨k, A1, A2, c1, c2, rfl, HJ, hS⟩ := hrel
    by_cases hks : (k : Int) < st
    · by_cases hk5 : (k : Int) < 5
      · have t0 : decide ((k : Int) < st) = true := decide_eq_true hks
        have t1 : decide ((k : Int) < 5) = true := decide_eq_true hk5
        have HK5 := Aside0.mk hk5
        rcases (show k = 0 ∨ k = 1 ∨ 2 ≤ k by omega) with rfl | rfl | hk2
        · skip
          have HSx := Aside0.mk (show Sep w0 wr (wrT gx ge gd (sc.tmod 2) eb 0 ++ dkT gd (stepD (fD n) i eb 0) :: cellsT gw #[.int .i64 (n : Int), .slice A1 0 c1, .slice A2 0 c2, .int .i64 0, .int .i64 0, .int .i64 0] 43 :: refT (.slice A1 0 c1) (.slice A2 0 c2) [] [] :: ownT (Kd.int .u8) 5 (.slice Ae 512 ce) eb :: cellsT g4 V 27 :: []) from hS.out)
          clear hS
          go_upto_region 19 with (go_at_call 19; (with_reducible refine (HT0.out _ _ _ _ _ HSx.out).mono ?_); rintro e wa ⟨rfl, ha⟩; have HSa := Aside0.mk (show Sep w0 wa (cellsT gx #[.pointer (some ⟨gd, 0, none⟩), .int .i64 (sc.tmod 2), .slice (some ⟨ge, 0, none⟩) 512 512, .int .i64 1] 104 :: cellsT ge (nums .u8 eb).toArray 89 :: dkT gd (stepD (fD n) i eb 1) :: cellsT gw #[.int .i64 (n : Int), .slice A1 0 c1, .slice A2 0 c2, .int .i64 0, .int .i64 0, .int .i64 0] 43 :: refT (.slice A1 0 c1) (.slice A2 0 c2) [] [] :: ownT (Kd.int .u8) 5 (.slice Ae 512 ce) eb :: cellsT g4 V 27 :: []) from ha); clear ha HSx)
          obtain ⟨y0, y1, y2, y3, y4, y5⟩ := rf_held HSa.out.up3
          have y6 := (HLF.out _ _ _ HSa.out.up6).2
          have hC := Aside0.mk (show (Kd.int .u8).C wa Ae 512 eb ∧ 512 ≤ ce from by have := HSa.out.up5.own_C; rwa [HEL.out] at this)
          go_upto_region 20 with (first
            | (go_at_call 20; (with_reducible refine (HWR.out _ _ _ _ _ _ _ _ HSa.out.up4 hC.out.1 hC.out.2).mono ?_); rintro e wb ⟨B1, d1, B2, d2, rfl, hb⟩; have HSb := Aside0.mk hb; clear hb)
            | ((with_reducible refine gate_store (ty := 43) rfl ?_); refine Sep.store_own (cs := #[.int .i64 (n : Int), .slice B1 0 d1, .slice B2 1 d2, .int .i64 0, .int .i64 1, .int .i64 0]) rfl 43 _ _ rfl rfl rfl HSb.out.up4 size43 rfl (all43 _ _ _ _ _ _ _ _ _ _) ?_; intro wS h4; have HSc := Aside0.mk h4; clear h4))
          clear y0 y1 y2 y3 y4 y5 y6 hC HSa HSb
          have HSx := Aside0.mk (show Sep w0 wS (cellsT gx #[.pointer (some ⟨gd, 0, none⟩), .int .i64 (sc.tmod 2), .slice (some ⟨ge, 0, none⟩) 512 512, .int .i64 1] 104 :: cellsT ge (nums .u8 eb).toArray 89 :: dkT gd (stepD (fD n) i eb 1) :: cellsT gw #[.int .i64 (n : Int), .slice B1 0 d1, .slice B2 1 d2, .int .i64 0, .int .i64 1, .int .i64 0] 43 :: refT (.slice B1 0 d1) (.slice B2 1 d2) [] [⟨(i : Int), eb⟩] :: ownT (Kd.int .u8) 5 (.slice Ae 512 ce) eb :: cellsT g4 V 27 :: []) from HSc.out.sel 7 [2, 3, 4, 0, 1, 5, 6] _ rfl (by decide) rfl)
          clear HSc
          go_upto_region 22 with (fail)
          have HAC := HAC1
          have HIG := HIG1
          have HRI := HRI1
          have HSM := HSM1
          have HSy := Aside0.mk (HSx.out.step (below_drew1 (Below.refl wS.heap.size wS)))
          clear HSx
          refine start_ (n := 23) (S := fun W => W.cell? ⟨gw, 0, none⟩ = some (.int .i64 (n : Int)) ∧ W.cell? ⟨gw, 1, none⟩ = some (.slice B1 0 d1) ∧ W.cell? ⟨gw, 2, none⟩ = some (.slice B2 1 d2) ∧ W.cell? ⟨gw, 3, none⟩ = some (.int .i64 0) ∧ W.cell? ⟨gw, 4, none⟩ = some (.int .i64 1) ∧ W.cell? ⟨gw, 5, none⟩ = some (.int .i64 0)) (ds := [20]) (bb 23 0) (by kernel_rfl) rfl rfl (rf_held HSy.out.up3) (fun hHeld => ?_); refine with_tabW rwa_tab rwa_bits (fun HT_ HW_ => ?_)
          generalize wS.drew = wd at hHeld HSy ⊢
          refine pure_ (i := 0) (N := (some 121)) (v := ?_) (a' := ?_) (bb 23 1) rfl rfl (any_of HT_.out (by kernel_rfl)) (fun _ _ _ h => h) (Or.inl ⟨by rfl, ?_⟩) ?_ ?_
          rotate_left
          · intro w'
            go_simp
            with_reducible rfl
          rotate_left
          · simp only [Act.put, List.setIfInBounds_toArray, List.set_cons_zero, List.set_cons_succ, i64_w, i32_w]
            rfl
          refine pure_ (i := 1) (N := (some 122)) (v := ?_) (a' := ?_) (bb 23 3) rfl rfl (any_of HT_.out (by kernel_rfl)) (fun _ _ _ h => h) (Or.inl ⟨by rfl, ?_⟩) ?_ ?_
          rotate_left
          · intro w'
            go_simp
            with_reducible rfl
          rotate_left
          · simp only [Act.put, List.setIfInBounds_toArray, List.set_cons_zero, List.set_cons_succ, i64_w, i32_w]
            rfl
          refine pure_ (i := 2) (N := (some 123)) (v := ?_) (a' := ?_) (bb 23 7) rfl rfl (any_of HT_.out (by kernel_rfl)) (fun _ _ _ h => h) (Or.inl ⟨by rfl, ?_⟩) ?_ ?_
          rotate_left
          · intro w'
            go_simp
            with_reducible rfl
          rotate_left
          · simp only [Act.put, List.setIfInBounds_toArray, List.set_cons_zero, List.set_cons_succ, i64_w, i32_w]
            rfl
          refine pure_ (i := 3) (N := (some 124)) (v := ?_) (a' := ?_) (bb 23 15) rfl rfl (any_of HT_.out (by kernel_rfl)) (fun _ _ _ h => h) (Or.inl ⟨by rfl, ?_⟩) ?_ ?_
          rotate_left
          · intro w'
            go_simp
            with_reducible rfl
          rotate_left
          · simp only [Act.put, List.setIfInBounds_toArray, List.set_cons_zero, List.set_cons_succ, i64_w, i32_w]
            rfl
          refine pure_ (i := 4) (N := (some 125)) (v := ?_) (a' := ?_) (bb 23 31) rfl rfl (any_of HT_.out (by kernel_rfl)) (fun _ _ _ h => h) (Or.inl ⟨by rfl, ?_⟩) ?_ ?_
          rotate_left
          · intro w'
            go_simp
            with_reducible rfl
          rotate_left
          · simp only [Act.put, List.setIfInBounds_toArray, List.set_cons_zero, List.set_cons_succ, i64_w, i32_w]
            rfl
          refine pure_ (i := 5) (N := (some 126)) (v := ?_) (a' := ?_) (bb 23 63) rfl rfl (any_of HT_.out (by kernel_rfl)) (fun _ _ _ h => h) (Or.inl ⟨by rfl, ?_⟩) ?_ ?_
          rotate_left
          · intro w'
            go_simp
            with_reducible rfl
          rotate_left
          · simp only [Act.put, List.setIfInBounds_toArray, List.set_cons_zero, List.set_cons_succ, i64_w, i32_w]
            rfl
          refine pure_ (i := 6) (N := (some 127)) (v := ?_) (a' := ?_) (bb 23 127) rfl rfl (any_of HT_.out (by kernel_rfl)) (fun _ _ _ h => h) (Or.inl ⟨by rfl, ?_⟩) ?_ ?_
          rotate_left
          · intro w'
            go_simp
            with_reducible rfl
          rotate_left
          · simp only [Act.put, List.setIfInBounds_toArray, List.set_cons_zero, List.set_cons_succ, i64_w, i32_w]
            rfl
          refine pure_ (i := 7) (N := (some 128)) (v := ?_) (a' := ?_) (bb 23 255) rfl rfl (any_of HT_.out (by kernel_rfl)) (fun _ _ _ h => h) (Or.inl ⟨by rfl, ?_⟩) ?_ ?_
          rotate_left
          · intro w'
            go_simp
            with_reducible rfl
          rotate_left
          · simp only [Act.put, List.setIfInBounds_toArray, List.set_cons_zero, List.set_cons_succ, i64_w, i32_w]
            rfl
          refine pure_ (i := 8) (N := (some 129)) (v := ?_) (a' := ?_) (bb 23 511) rfl rfl (any_of HT_.out (by kernel_rfl)) (fun _ _ _ h => h) (Or.inl ⟨by rfl, ?_⟩) ?_ ?_
          rotate_left
          · intro w'
            go_simp
            with_reducible rfl
          rotate_left
          · simp only [Act.put, List.setIfInBounds_toArray, List.set_cons_zero, List.set_cons_succ, i64_w, i32_w]
            rfl
          refine pure_ (i := 9) (N := (some 130)) (v := ?_) (a' := ?_) (bb 23 1023) rfl rfl (any_of HT_.out (by kernel_rfl)) (fun _ _ _ h => h) (Or.inl ⟨by rfl, ?_⟩) ?_ ?_
          rotate_left
          · intro w'
            go_simp
            with_reducible rfl
          rotate_left
          · simp only [Act.put, List.setIfInBounds_toArray, List.set_cons_zero, List.set_cons_succ, i64_w, i32_w]
            rfl
          refine pure_ (i := 11) (N := (some 132)) (v := ?_) (a' := ?_) (bb 23 3071) rfl rfl (any_of HT_.out (by kernel_rfl)) (fun _ _ _ h => h) (Or.inl ⟨by rfl, ?_⟩) ?_ ?_
          rotate_left
          · intro w'
            go_simp
            with_reducible rfl
          rotate_left
          · simp only [Act.put, List.setIfInBounds_toArray, List.set_cons_zero, List.set_cons_succ, i64_w, i32_w]
            rfl
          refine take_ (i := 12) (N := (some 133)) (v := ?_) (a' := ?_) (bb 23 7167) rfl rfl (take_ofW HT_.out HW_.out (by kernel_rfl)) (fun _ _ _ h => h) (Or.inl ⟨by rfl, ?_⟩) hHeld ?_ ?_
          rotate_left
          · intro w' s0
            (try dsimp only at s0)
            go_simp
            with_reducible rfl
          rotate_left
          · simp only [Act.put, List.setIfInBounds_toArray, List.set_cons_zero, List.set_cons_succ, i64_w, i32_w]
            rfl
          refine one_ (i := 10) (N := (some 131)) (bb 23 8191) rfl rfl (one_of HT_.out (by kernel_rfl)) (by decide) (fun K hK => ?_)
          refine goes_ Tryd.func18 (by kernel_rfl) rfl #[.pointer (some ⟨gd, 0, none⟩)] (by rfl) rfl rfl (by (try simp only [List.map_toArray, List.map_cons, List.map_nil]); first | done | rfl) ?_
          with_reducible refine (HAC.out _ _ _ HSy.out.up2).mono ?_
          rintro e wA ⟨rfl, h⟩
          have HSA := Aside0.mk h
          clear h
          refine ⟨_, rfl, ?_⟩
          refine hK.out _ _ (rf_held HSA.out.up3) (fun hHeld => ?_)
          clear hK K
          refine norm_ (a' := ?_) ?_ ?_
          rotate_left
          · show Act.put _ (some 131) _ = _
            simp only [Act.put, List.setIfInBounds_toArray, List.set_cons_zero, List.set_cons_succ, i64_w, i32_w]
            rfl
          refine pure_ (i := 13) (N := (some 134)) (v := ?_) (a' := ?_) (bb 23 16383) rfl rfl (any_of HT_.out (by kernel_rfl)) (fun _ _ _ h => h) (Or.inl ⟨by rfl, ?_⟩) ?_ ?_
          rotate_left
          · intro w'
            go_simp
            with_reducible rfl
          rotate_left
          · simp only [Act.put, List.setIfInBounds_toArray, List.set_cons_zero, List.set_cons_succ, i64_w, i32_w]
            rfl
          refine pure_ (i := 14) (N := (some 135)) (v := ?_) (a' := ?_) (bb 23 32767) rfl rfl (any_of HT_.out (by kernel_rfl)) (fun _ _ _ h => h) (Or.inl ⟨by rfl, ?_⟩) ?_ ?_
          rotate_left
          · intro w'
            go_simp
            with_reducible rfl
          rotate_left
          · simp only [Act.put, List.setIfInBounds_toArray, List.set_cons_zero, List.set_cons_succ, i64_w, i32_w]
            rfl
          refine pure_ (i := 15) (N := (some 136)) (v := ?_) (a' := ?_) (bb 23 65535) rfl rfl (any_of HT_.out (by kernel_rfl)) (fun _ _ _ h => h) (Or.inl ⟨by rfl, ?_⟩) ?_ ?_
          rotate_left
          · intro w'
            go_simp
            with_reducible rfl
          rotate_left
          · simp only [Act.put, List.setIfInBounds_toArray, List.set_cons_zero, List.set_cons_succ, i64_w, i32_w]
            rfl
          refine pure_ (i := 16) (N := (some 137)) (v := ?_) (a' := ?_) (bb 23 131071) rfl rfl (any_of HT_.out (by kernel_rfl)) (fun _ _ _ h => h) (Or.inl ⟨by rfl, ?_⟩) ?_ ?_
          rotate_left
          · intro w'
            go_simp
            with_reducible rfl
          rotate_left
          · simp only [Act.put, List.setIfInBounds_toArray, List.set_cons_zero, List.set_cons_succ, i64_w, i32_w]
            rfl
          refine take_ (i := 18) (N := (some 139)) (v := ?_) (a' := ?_) (bb 23 393215) rfl rfl (take_ofW HT_.out HW_.out (by kernel_rfl)) (fun _ _ _ h => h) (Or.inl ⟨by rfl, ?_⟩) hHeld ?_ ?_
          rotate_left
          · intro w' s0
            (try dsimp only at s0)
            go_simp
            with_reducible rfl
          rotate_left
          · simp only [Act.put, List.setIfInBounds_toArray, List.set_cons_zero, List.set_cons_succ, i64_w, i32_w]
            rfl
          refine one_ (i := 17) (N := (some 138)) (bb 23 524287) rfl rfl (one_of HT_.out (by kernel_rfl)) (by decide) (fun K hK => ?_)
          refine goes_ Tryd.func23 (by kernel_rfl) rfl #[.pointer (some ⟨gd, 0, none⟩)] (by rfl) rfl rfl (by (try simp only [List.map_toArray, List.map_cons, List.map_nil]); first | done | rfl) ?_
          with_reducible refine (HIG.out _ _ _ HSA.out).mono ?_
          rintro e wB ⟨go, cg, rfl, h⟩
          have HSB := Aside0.mk h
          clear h
          refine ⟨_, rfl, ?_⟩
          refine hK.out _ _ (rf_held HSB.out.up4) (fun hHeld => ?_)
          clear hK K
          refine norm_ (a' := ?_) ?_ ?_
          rotate_left
          · show Act.put _ (some 138) _ = _
            simp only [Act.put, List.setIfInBounds_toArray, List.set_cons_zero, List.set_cons_succ, i64_w, i32_w]
            rfl
          refine one_ (i := 19) (N := (some 140)) (bb 23 1048575) rfl rfl (one_of HT_.out (by kernel_rfl)) (by decide) (fun K hK => ?_)
          refine goes_ Tryd.func24 (by kernel_rfl) rfl #[.agg #[.int .i64 (n : Int), .slice B1 0 d1, .slice B2 1 d2, .int .i64 0, .int .i64 1, .int .i64 0]] (by rfl) rfl rfl (by (try simp only [List.map_toArray, List.map_cons, List.map_nil]); first | done | rfl) ?_
          with_reducible refine (HRI.out _ _ _ _ _ _ _ _ _ HSB.out.up5).mono ?_
          rintro e wC ⟨go2, c5, rfl, h⟩
          have HSC := Aside0.mk (HSB.out.nest h)
          clear h
          refine ⟨_, rfl, ?_⟩
          refine hK.out _ _ (rf_held HSC.out.up5) (fun hHeld => ?_)
          clear hK K
          refine norm_ (a' := ?_) ?_ ?_
          rotate_left
          · show Act.put _ (some 140) _ = _
            simp only [Act.put, List.setIfInBounds_toArray, List.set_cons_zero, List.set_cons_succ, i64_w, i32_w]
            rfl
          refine last_ (i := 20) (N := (some 141)) (bb 23 2097151) rfl rfl (one_of HT_.out (by kernel_rfl)) (by decide) (fun K hK => ?_)
          refine goes_ Tryd.func22 (by kernel_rfl) rfl #[.slice (some ⟨go, 0, none⟩) n cg, .slice (some ⟨go2, 0, none⟩) n c5] (by rfl) rfl rfl (by (try simp only [List.map_toArray, List.map_cons, List.map_nil]); first | done | rfl) ?_
          with_reducible refine (same_calls (HSC.out.up1.rows_own) HSC.out _ HSM.out).mono ?_
          rintro e wD ⟨rfl, hd⟩
          have HBD := Aside0.mk hd
          clear hd
          refine ⟨_, rfl, ?_⟩
          refine hK.out _ _ ?_
          clear hK K
          refine norm_ (a' := ?_) ?_ ?_
          rotate_left
          · show Act.put _ (some 141) _ = _
            simp only [Act.put, List.setIfInBounds_toArray, List.set_cons_zero, List.set_cons_succ, i64_w, i32_w]
            rfl
          refine pure_ (i := 21) (N := (some 142)) (v := ?_) (a' := ?_) (bb 23 4194303) rfl rfl (any_of HT_.out (by kernel_rfl)) (fun _ _ _ h => h) (Or.inl ⟨by rfl, ?_⟩) ?_ ?_
          rotate_left
          · intro w'
            go_simp
            with_reducible rfl
          rotate_left
          · simp only [Act.put, List.setIfInBounds_toArray, List.set_cons_zero, List.set_cons_succ, i64_w, i32_w]
            rfl
          refine pure_ (i := 22) (N := (some 143)) (v := ?_) (a' := ?_) (bb 23 8388607) rfl rfl (any_of HT_.out (by kernel_rfl)) (fun _ _ _ h => h) (Or.inl ⟨by rfl, ?_⟩) ?_ ?_
          rotate_left
          · intro w'
            go_simp
            with_reducible rfl
          rotate_left
          · simp only [Act.put, List.setIfInBounds_toArray, List.set_cons_zero, List.set_cons_succ, i64_w, i32_w]
            rfl
          refine done_ (done_of HT_.out (by kernel_rfl)) ?_
          have HSz := Aside0.mk (HSC.out.step (show Below wC.heap.size wC wD from by obtain ⟨nd, rfl⟩ := HBD.out; exact pw_below_drewN (Below.refl _ _) nd))
          clear hHeld HT_ HW_ HSy HSA HSB HSC HBD
          go_wp2
          go_roundg (gk - 1)
          case measure => have := HJ.out; have := HK5.out; omega
          case rel => exact ⟨1, B1, B2, d1, d2, rfl, ⟨by have := HJ.out; have := HK5.out; omega⟩, ⟨show Sep w0 wD (wrS n gx ge gd gw g4 (sc.tmod 2) eb V ⟨(i : Int), eb⟩ (fD n) i Ae ce B1 B2 d1 d2 (1)) from HSz.out.sel 9 [3, 4, 2, 5, 6, 7, 8] _ rfl (by decide) rfl⟩⟩
        · skip
          have HSx := Aside0.mk (show Sep w0 wr (wrT gx ge gd (sc.tmod 2) eb 1 ++ dkT gd (stepD (fD n) i eb 1) :: cellsT gw #[.int .i64 (n : Int), .slice A1 0 c1, .slice A2 1 c2, .int .i64 0, .int .i64 1, .int .i64 0] 43 :: refT (.slice A1 0 c1) (.slice A2 1 c2) [] [⟨(i : Int), eb⟩] :: ownT (Kd.int .u8) 5 (.slice Ae 512 ce) eb :: cellsT g4 V 27 :: []) from hS.out)
          clear hS
          go_upto_region 21 with (go_at_call 19; (with_reducible refine (HT1.out _ _ _ _ _ HSx.out).mono ?_); rintro e wa ⟨rfl, ha⟩; have HSa := Aside0.mk (show Sep w0 wa (cellsT gx #[.pointer (some ⟨gd, 0, none⟩), .int .i64 (sc.tmod 2), .slice (some ⟨ge, 0, none⟩) 512 512, .int .i64 2] 104 :: cellsT ge (nums .u8 eb).toArray 89 :: dkT gd (stepD (fD n) i eb 2) :: cellsT gw #[.int .i64 (n : Int), .slice A1 0 c1, .slice A2 1 c2, .int .i64 0, .int .i64 1, .int .i64 0] 43 :: refT (.slice A1 0 c1) (.slice A2 1 c2) [] [⟨(i : Int), eb⟩] :: ownT (Kd.int .u8) 5 (.slice Ae 512 ce) eb :: cellsT g4 V 27 :: []) from ha); clear ha HSx)
          obtain ⟨y0, y1, y2, y3, y4, y5⟩ := rf_held HSa.out.up3
          go_upto_region 22 with (first
            | (go_at_call 21; (with_reducible refine (HFR.out _ _ _ _ _ _ HSa.out.up4).mono ?_); rintro e wb ⟨B1, d1, B2, d2, rfl, hb⟩; have HSb := Aside0.mk hb; clear hb)
            | ((with_reducible refine gate_store (ty := 43) rfl ?_); refine Sep.store_own (cs := #[.int .i64 (n : Int), .slice B1 1 d1, .slice B2 0 d2, .int .i64 0, .int .i64 1, .int .i64 1]) rfl 43 _ _ rfl rfl rfl HSb.out.up4 size43 rfl (all43 _ _ _ _ _ _ _ _ _ _) ?_; intro wS h4; have HSc := Aside0.mk h4; clear h4))
          clear y0 y1 y2 y3 y4 y5 HSa HSb
          have HSx := Aside0.mk (show Sep w0 wS (cellsT gx #[.pointer (some ⟨gd, 0, none⟩), .int .i64 (sc.tmod 2), .slice (some ⟨ge, 0, none⟩) 512 512, .int .i64 2] 104 :: cellsT ge (nums .u8 eb).toArray 89 :: dkT gd (stepD (fD n) i eb 2) :: cellsT gw #[.int .i64 (n : Int), .slice B1 1 d1, .slice B2 0 d2, .int .i64 0, .int .i64 1, .int .i64 1] 43 :: refT (.slice B1 1 d1) (.slice B2 0 d2) [⟨(i : Int), eb⟩] [] :: ownT (Kd.int .u8) 5 (.slice Ae 512 ce) eb :: cellsT g4 V 27 :: []) from HSc.out.sel 7 [2, 3, 4, 0, 1, 5, 6] _ rfl (by decide) rfl)
          clear HSc
          have HAC := HAC2
          have HIG := HIG2
          have HRI := HRI2
          have HSM := HSM2
          have HSy := Aside0.mk (HSx.out.step (below_drew1 (Below.refl wS.heap.size wS)))
          clear HSx
          refine start_ (n := 23) (S := fun W => W.cell? ⟨gw, 0, none⟩ = some (.int .i64 (n : Int)) ∧ W.cell? ⟨gw, 1, none⟩ = some (.slice B1 1 d1) ∧ W.cell? ⟨gw, 2, none⟩ = some (.slice B2 0 d2) ∧ W.cell? ⟨gw, 3, none⟩ = some (.int .i64 0) ∧ W.cell? ⟨gw, 4, none⟩ = some (.int .i64 1) ∧ W.cell? ⟨gw, 5, none⟩ = some (.int .i64 1)) (ds := [20]) (bb 23 0) (by kernel_rfl) rfl rfl (rf_held HSy.out.up3) (fun hHeld => ?_); refine with_tabW rwb_tab rwb_bits (fun HT_ HW_ => ?_)
          generalize wS.drew = wd at hHeld HSy ⊢
          refine pure_ (i := 0) (N := (some 121)) (v := ?_) (a' := ?_) (bb 23 1) rfl rfl (any_of HT_.out (by kernel_rfl)) (fun _ _ _ h => h) (Or.inl ⟨by rfl, ?_⟩) ?_ ?_
          rotate_left
          · intro w'
            go_simp
            with_reducible rfl
          rotate_left
          · simp only [Act.put, List.setIfInBounds_toArray, List.set_cons_zero, List.set_cons_succ, i64_w, i32_w]
            rfl
          refine pure_ (i := 1) (N := (some 122)) (v := ?_) (a' := ?_) (bb 23 3) rfl rfl (any_of HT_.out (by kernel_rfl)) (fun _ _ _ h => h) (Or.inl ⟨by rfl, ?_⟩) ?_ ?_
          rotate_left
          · intro w'
            go_simp
            with_reducible rfl
          rotate_left
          · simp only [Act.put, List.setIfInBounds_toArray, List.set_cons_zero, List.set_cons_succ, i64_w, i32_w]
            rfl
          refine pure_ (i := 2) (N := (some 123)) (v := ?_) (a' := ?_) (bb 23 7) rfl rfl (any_of HT_.out (by kernel_rfl)) (fun _ _ _ h => h) (Or.inl ⟨by rfl, ?_⟩) ?_ ?_
          rotate_left
          · intro w'
            go_simp
            with_reducible rfl
          rotate_left
          · simp only [Act.put, List.setIfInBounds_toArray, List.set_cons_zero, List.set_cons_succ, i64_w, i32_w]
            rfl
          refine pure_ (i := 3) (N := (some 124)) (v := ?_) (a' := ?_) (bb 23 15) rfl rfl (any_of HT_.out (by kernel_rfl)) (fun _ _ _ h => h) (Or.inl ⟨by rfl, ?_⟩) ?_ ?_
          rotate_left
          · intro w'
            go_simp
            with_reducible rfl
          rotate_left
          · simp only [Act.put, List.setIfInBounds_toArray, List.set_cons_zero, List.set_cons_succ, i64_w, i32_w]
            rfl
          refine pure_ (i := 4) (N := (some 125)) (v := ?_) (a' := ?_) (bb 23 31) rfl rfl (any_of HT_.out (by kernel_rfl)) (fun _ _ _ h => h) (Or.inl ⟨by rfl, ?_⟩) ?_ ?_
          rotate_left
          · intro w'
            go_simp
            with_reducible rfl
          rotate_left
          · simp only [Act.put, List.setIfInBounds_toArray, List.set_cons_zero, List.set_cons_succ, i64_w, i32_w]
            rfl
          refine pure_ (i := 5) (N := (some 126)) (v := ?_) (a' := ?_) (bb 23 63) rfl rfl (any_of HT_.out (by kernel_rfl)) (fun _ _ _ h => h) (Or.inl ⟨by rfl, ?_⟩) ?_ ?_
          rotate_left
          · intro w'
            go_simp
            with_reducible rfl
          rotate_left
          · simp only [Act.put, List.setIfInBounds_toArray, List.set_cons_zero, List.set_cons_succ, i64_w, i32_w]
            rfl
          refine pure_ (i := 6) (N := (some 127)) (v := ?_) (a' := ?_) (bb 23 127) rfl rfl (any_of HT_.out (by kernel_rfl)) (fun _ _ _ h => h) (Or.inl ⟨by rfl, ?_⟩) ?_ ?_
          rotate_left
          · intro w'
            go_simp
            with_reducible rfl
          rotate_left
          · simp only [Act.put, List.setIfInBounds_toArray, List.set_cons_zero, List.set_cons_succ, i64_w, i32_w]
            rfl
          refine pure_ (i := 7) (N := (some 128)) (v := ?_) (a' := ?_) (bb 23 255) rfl rfl (any_of HT_.out (by kernel_rfl)) (fun _ _ _ h => h) (Or.inl ⟨by rfl, ?_⟩) ?_ ?_
          rotate_left
          · intro w'
            go_simp
            with_reducible rfl
          rotate_left
          · simp only [Act.put, List.setIfInBounds_toArray, List.set_cons_zero, List.set_cons_succ, i64_w, i32_w]
            rfl
          refine pure_ (i := 8) (N := (some 129)) (v := ?_) (a' := ?_) (bb 23 511) rfl rfl (any_of HT_.out (by kernel_rfl)) (fun _ _ _ h => h) (Or.inl ⟨by rfl, ?_⟩) ?_ ?_
          rotate_left
          · intro w'
            go_simp
            with_reducible rfl
          rotate_left
          · simp only [Act.put, List.setIfInBounds_toArray, List.set_cons_zero, List.set_cons_succ, i64_w, i32_w]
            rfl
          refine pure_ (i := 9) (N := (some 130)) (v := ?_) (a' := ?_) (bb 23 1023) rfl rfl (any_of HT_.out (by kernel_rfl)) (fun _ _ _ h => h) (Or.inl ⟨by rfl, ?_⟩) ?_ ?_
          rotate_left
          · intro w'
            go_simp
            with_reducible rfl
          rotate_left
          · simp only [Act.put, List.setIfInBounds_toArray, List.set_cons_zero, List.set_cons_succ, i64_w, i32_w]
            rfl
          refine pure_ (i := 11) (N := (some 132)) (v := ?_) (a' := ?_) (bb 23 3071) rfl rfl (any_of HT_.out (by kernel_rfl)) (fun _ _ _ h => h) (Or.inl ⟨by rfl, ?_⟩) ?_ ?_
          rotate_left
          · intro w'
            go_simp
            with_reducible rfl
          rotate_left
          · simp only [Act.put, List.setIfInBounds_toArray, List.set_cons_zero, List.set_cons_succ, i64_w, i32_w]
            rfl
          refine take_ (i := 12) (N := (some 133)) (v := ?_) (a' := ?_) (bb 23 7167) rfl rfl (take_ofW HT_.out HW_.out (by kernel_rfl)) (fun _ _ _ h => h) (Or.inl ⟨by rfl, ?_⟩) hHeld ?_ ?_
          rotate_left
          · intro w' s0
            (try dsimp only at s0)
            go_simp
            with_reducible rfl
          rotate_left
          · simp only [Act.put, List.setIfInBounds_toArray, List.set_cons_zero, List.set_cons_succ, i64_w, i32_w]
            rfl
          refine one_ (i := 10) (N := (some 131)) (bb 23 8191) rfl rfl (one_of HT_.out (by kernel_rfl)) (by decide) (fun K hK => ?_)
          refine goes_ Tryd.func18 (by kernel_rfl) rfl #[.pointer (some ⟨gd, 0, none⟩)] (by rfl) rfl rfl (by (try simp only [List.map_toArray, List.map_cons, List.map_nil]); first | done | rfl) ?_
          with_reducible refine (HAC.out _ _ _ HSy.out.up2).mono ?_
          rintro e wA ⟨rfl, h⟩
          have HSA := Aside0.mk h
          clear h
          refine ⟨_, rfl, ?_⟩
          refine hK.out _ _ (rf_held HSA.out.up3) (fun hHeld => ?_)
          clear hK K
          refine norm_ (a' := ?_) ?_ ?_
          rotate_left
          · show Act.put _ (some 131) _ = _
            simp only [Act.put, List.setIfInBounds_toArray, List.set_cons_zero, List.set_cons_succ, i64_w, i32_w]
            rfl
          refine pure_ (i := 13) (N := (some 134)) (v := ?_) (a' := ?_) (bb 23 16383) rfl rfl (any_of HT_.out (by kernel_rfl)) (fun _ _ _ h => h) (Or.inl ⟨by rfl, ?_⟩) ?_ ?_
          rotate_left
          · intro w'
            go_simp
            with_reducible rfl
          rotate_left
          · simp only [Act.put, List.setIfInBounds_toArray, List.set_cons_zero, List.set_cons_succ, i64_w, i32_w]
            rfl
          refine pure_ (i := 14) (N := (some 135)) (v := ?_) (a' := ?_) (bb 23 32767) rfl rfl (any_of HT_.out (by kernel_rfl)) (fun _ _ _ h => h) (Or.inl ⟨by rfl, ?_⟩) ?_ ?_
          rotate_left
          · intro w'
            go_simp
            with_reducible rfl
          rotate_left
          · simp only [Act.put, List.setIfInBounds_toArray, List.set_cons_zero, List.set_cons_succ, i64_w, i32_w]
            rfl
          refine pure_ (i := 15) (N := (some 136)) (v := ?_) (a' := ?_) (bb 23 65535) rfl rfl (any_of HT_.out (by kernel_rfl)) (fun _ _ _ h => h) (Or.inl ⟨by rfl, ?_⟩) ?_ ?_
          rotate_left
          · intro w'
            go_simp
            with_reducible rfl
          rotate_left
          · simp only [Act.put, List.setIfInBounds_toArray, List.set_cons_zero, List.set_cons_succ, i64_w, i32_w]
            rfl
          refine pure_ (i := 16) (N := (some 137)) (v := ?_) (a' := ?_) (bb 23 131071) rfl rfl (any_of HT_.out (by kernel_rfl)) (fun _ _ _ h => h) (Or.inl ⟨by rfl, ?_⟩) ?_ ?_
          rotate_left
          · intro w'
            go_simp
            with_reducible rfl
          rotate_left
          · simp only [Act.put, List.setIfInBounds_toArray, List.set_cons_zero, List.set_cons_succ, i64_w, i32_w]
            rfl
          refine take_ (i := 18) (N := (some 139)) (v := ?_) (a' := ?_) (bb 23 393215) rfl rfl (take_ofW HT_.out HW_.out (by kernel_rfl)) (fun _ _ _ h => h) (Or.inl ⟨by rfl, ?_⟩) hHeld ?_ ?_
          rotate_left
          · intro w' s0
            (try dsimp only at s0)
            go_simp
            with_reducible rfl
          rotate_left
          · simp only [Act.put, List.setIfInBounds_toArray, List.set_cons_zero, List.set_cons_succ, i64_w, i32_w]
            rfl
          refine one_ (i := 17) (N := (some 138)) (bb 23 524287) rfl rfl (one_of HT_.out (by kernel_rfl)) (by decide) (fun K hK => ?_)
          refine goes_ Tryd.func23 (by kernel_rfl) rfl #[.pointer (some ⟨gd, 0, none⟩)] (by rfl) rfl rfl (by (try simp only [List.map_toArray, List.map_cons, List.map_nil]); first | done | rfl) ?_
          with_reducible refine (HIG.out _ _ _ HSA.out).mono ?_
          rintro e wB ⟨go, cg, rfl, h⟩
          have HSB := Aside0.mk h
          clear h
          refine ⟨_, rfl, ?_⟩
          refine hK.out _ _ (rf_held HSB.out.up4) (fun hHeld => ?_)
          clear hK K
          refine norm_ (a' := ?_) ?_ ?_
          rotate_left
          · show Act.put _ (some 138) _ = _
            simp only [Act.put, List.setIfInBounds_toArray, List.set_cons_zero, List.set_cons_succ, i64_w, i32_w]
            rfl
          refine one_ (i := 19) (N := (some 140)) (bb 23 1048575) rfl rfl (one_of HT_.out (by kernel_rfl)) (by decide) (fun K hK => ?_)
          refine goes_ Tryd.func24 (by kernel_rfl) rfl #[.agg #[.int .i64 (n : Int), .slice B1 1 d1, .slice B2 0 d2, .int .i64 0, .int .i64 1, .int .i64 1]] (by rfl) rfl rfl (by (try simp only [List.map_toArray, List.map_cons, List.map_nil]); first | done | rfl) ?_
          with_reducible refine (HRI.out _ _ _ _ _ _ _ _ _ HSB.out.up5).mono ?_
          rintro e wC ⟨go2, c5, rfl, h⟩
          have HSC := Aside0.mk (HSB.out.nest h)
          clear h
          refine ⟨_, rfl, ?_⟩
          refine hK.out _ _ (rf_held HSC.out.up5) (fun hHeld => ?_)
          clear hK K
          refine norm_ (a' := ?_) ?_ ?_
          rotate_left
          · show Act.put _ (some 140) _ = _
            simp only [Act.put, List.setIfInBounds_toArray, List.set_cons_zero, List.set_cons_succ, i64_w, i32_w]
            rfl
          refine last_ (i := 20) (N := (some 141)) (bb 23 2097151) rfl rfl (one_of HT_.out (by kernel_rfl)) (by decide) (fun K hK => ?_)
          refine goes_ Tryd.func22 (by kernel_rfl) rfl #[.slice (some ⟨go, 0, none⟩) n cg, .slice (some ⟨go2, 0, none⟩) n c5] (by rfl) rfl rfl (by (try simp only [List.map_toArray, List.map_cons, List.map_nil]); first | done | rfl) ?_
          with_reducible refine (same_calls (HSC.out.up1.rows_own) HSC.out _ HSM.out).mono ?_
          rintro e wD ⟨rfl, hd⟩
          have HBD := Aside0.mk hd
          clear hd
          refine ⟨_, rfl, ?_⟩
          refine hK.out _ _ ?_
          clear hK K
          refine norm_ (a' := ?_) ?_ ?_
          rotate_left
          · show Act.put _ (some 141) _ = _
            simp only [Act.put, List.setIfInBounds_toArray, List.set_cons_zero, List.set_cons_succ, i64_w, i32_w]
            rfl
          refine pure_ (i := 21) (N := (some 142)) (v := ?_) (a' := ?_) (bb 23 4194303) rfl rfl (any_of HT_.out (by kernel_rfl)) (fun _ _ _ h => h) (Or.inl ⟨by rfl, ?_⟩) ?_ ?_
          rotate_left
          · intro w'
            go_simp
            with_reducible rfl
          rotate_left
          · simp only [Act.put, List.setIfInBounds_toArray, List.set_cons_zero, List.set_cons_succ, i64_w, i32_w]
            rfl
          refine pure_ (i := 22) (N := (some 143)) (v := ?_) (a' := ?_) (bb 23 8388607) rfl rfl (any_of HT_.out (by kernel_rfl)) (fun _ _ _ h => h) (Or.inl ⟨by rfl, ?_⟩) ?_ ?_
          rotate_left
          · intro w'
            go_simp
            with_reducible rfl
          rotate_left
          · simp only [Act.put, List.setIfInBounds_toArray, List.set_cons_zero, List.set_cons_succ, i64_w, i32_w]
            rfl
          refine done_ (done_of HT_.out (by kernel_rfl)) ?_
          have HSz := Aside0.mk (HSC.out.step (show Below wC.heap.size wC wD from by obtain ⟨nd, rfl⟩ := HBD.out; exact pw_below_drewN (Below.refl _ _) nd))
          clear hHeld HT_ HW_ HSy HSA HSB HSC HBD
          go_wp2
          go_roundg (gk - 1)
          case measure => have := HJ.out; have := HK5.out; omega
          case rel => exact ⟨2, B1, B2, d1, d2, rfl, ⟨by have := HJ.out; have := HK5.out; omega⟩, ⟨show Sep w0 wD (wrS n gx ge gd gw g4 (sc.tmod 2) eb V ⟨(i : Int), eb⟩ (fD n) i Ae ce B1 B2 d1 d2 (2)) from HSz.out.sel 9 [3, 4, 2, 5, 6, 7, 8] _ rfl (by decide) rfl⟩⟩
        · skip
          obtain ⟨q, rfl⟩ : ∃ q, k = q + 2 := ⟨k - 2, by omega⟩
          have hq1 : decide ((0 : Int) < ((q + 2 : Nat) : Int)) = true := decide_eq_true (by omega)
          have hq1b : (0 : Int) < (q : Int) + 2 := by omega
          have hq2 : ¬ ((q : Int) + 2 = 0) := by omega
          have hq3 : ¬ ((q : Int) + 2 = 1) := by omega
          have HSx := Aside0.mk (show Sep w0 wr (wrT gx ge gd (sc.tmod 2) eb 2 ++ dkT gd (stepD (fD n) i eb 2) :: cellsT gw #[.int .i64 (n : Int), .slice A1 1 c1, .slice A2 0 c2, .int .i64 0, .int .i64 1, .int .i64 1] 43 :: refT (.slice A1 1 c1) (.slice A2 0 c2) [⟨(i : Int), eb⟩] [] :: ownT (Kd.int .u8) 5 (.slice Ae 512 ce) eb :: cellsT g4 V 27 :: []) from hS.out)
          clear hS
          generalize A1 = B1 at HSx ⊢
          generalize A2 = B2 at HSx ⊢
          generalize c1 = d1 at HSx ⊢
          generalize c2 = d2 at HSx ⊢
          generalize wr = wS at HSx ⊢
          go_upto_region 22 with (go_at_call 19; (with_reducible refine (HT2.out _ _ _ _ _ HSx.out).mono ?_); rintro e wa ⟨rfl, ha⟩; subst ha)
          generalize wa = wS at HSx ⊢
          have HAC := HAC2
          have HIG := HIG2
          have HRI := HRI2
          have HSM := HSM2
          have HSy := Aside0.mk (HSx.out.step (below_drew1 (Below.refl wS.heap.size wS)))
          clear HSx
          refine start_ (n := 23) (S := fun W => W.cell? ⟨gw, 0, none⟩ = some (.int .i64 (n : Int)) ∧ W.cell? ⟨gw, 1, none⟩ = some (.slice B1 1 d1) ∧ W.cell? ⟨gw, 2, none⟩ = some (.slice B2 0 d2) ∧ W.cell? ⟨gw, 3, none⟩ = some (.int .i64 0) ∧ W.cell? ⟨gw, 4, none⟩ = some (.int .i64 1) ∧ W.cell? ⟨gw, 5, none⟩ = some (.int .i64 1)) (ds := [20]) (bb 23 0) (by kernel_rfl) rfl rfl (rf_held HSy.out.up3) (fun hHeld => ?_); refine with_tabW rwb_tab rwb_bits (fun HT_ HW_ => ?_)
          generalize wS.drew = wd at hHeld HSy ⊢
          refine pure_ (i := 0) (N := (some 121)) (v := ?_) (a' := ?_) (bb 23 1) rfl rfl (any_of HT_.out (by kernel_rfl)) (fun _ _ _ h => h) (Or.inl ⟨by rfl, ?_⟩) ?_ ?_
          rotate_left
          · intro w'
            go_simp
            with_reducible rfl
          rotate_left
          · simp only [Act.put, List.setIfInBounds_toArray, List.set_cons_zero, List.set_cons_succ, i64_w, i32_w]
            rfl
          refine pure_ (i := 1) (N := (some 122)) (v := ?_) (a' := ?_) (bb 23 3) rfl rfl (any_of HT_.out (by kernel_rfl)) (fun _ _ _ h => h) (Or.inl ⟨by rfl, ?_⟩) ?_ ?_
          rotate_left
          · intro w'
            go_simp
            with_reducible rfl
          rotate_left
          · simp only [Act.put, List.setIfInBounds_toArray, List.set_cons_zero, List.set_cons_succ, i64_w, i32_w]
            rfl
          refine pure_ (i := 2) (N := (some 123)) (v := ?_) (a' := ?_) (bb 23 7) rfl rfl (any_of HT_.out (by kernel_rfl)) (fun _ _ _ h => h) (Or.inl ⟨by rfl, ?_⟩) ?_ ?_
          rotate_left
          · intro w'
            go_simp
            with_reducible rfl
          rotate_left
          · simp only [Act.put, List.setIfInBounds_toArray, List.set_cons_zero, List.set_cons_succ, i64_w, i32_w]
            rfl
          refine pure_ (i := 3) (N := (some 124)) (v := ?_) (a' := ?_) (bb 23 15) rfl rfl (any_of HT_.out (by kernel_rfl)) (fun _ _ _ h => h) (Or.inl ⟨by rfl, ?_⟩) ?_ ?_
          rotate_left
          · intro w'
            go_simp
            with_reducible rfl
          rotate_left
          · simp only [Act.put, List.setIfInBounds_toArray, List.set_cons_zero, List.set_cons_succ, i64_w, i32_w]
            rfl
          refine pure_ (i := 4) (N := (some 125)) (v := ?_) (a' := ?_) (bb 23 31) rfl rfl (any_of HT_.out (by kernel_rfl)) (fun _ _ _ h => h) (Or.inl ⟨by rfl, ?_⟩) ?_ ?_
          rotate_left
          · intro w'
            go_simp
            with_reducible rfl
          rotate_left
          · simp only [Act.put, List.setIfInBounds_toArray, List.set_cons_zero, List.set_cons_succ, i64_w, i32_w]
            rfl
          refine pure_ (i := 5) (N := (some 126)) (v := ?_) (a' := ?_) (bb 23 63) rfl rfl (any_of HT_.out (by kernel_rfl)) (fun _ _ _ h => h) (Or.inl ⟨by rfl, ?_⟩) ?_ ?_
          rotate_left
          · intro w'
            go_simp
            with_reducible rfl
          rotate_left
          · simp only [Act.put, List.setIfInBounds_toArray, List.set_cons_zero, List.set_cons_succ, i64_w, i32_w]
            rfl
          refine pure_ (i := 6) (N := (some 127)) (v := ?_) (a' := ?_) (bb 23 127) rfl rfl (any_of HT_.out (by kernel_rfl)) (fun _ _ _ h => h) (Or.inl ⟨by rfl, ?_⟩) ?_ ?_
          rotate_left
          · intro w'
            go_simp
            with_reducible rfl
          rotate_left
          · simp only [Act.put, List.setIfInBounds_toArray, List.set_cons_zero, List.set_cons_succ, i64_w, i32_w]
            rfl
          refine pure_ (i := 7) (N := (some 128)) (v := ?_) (a' := ?_) (bb 23 255) rfl rfl (any_of HT_.out (by kernel_rfl)) (fun _ _ _ h => h) (Or.inl ⟨by rfl, ?_⟩) ?_ ?_
          rotate_left
          · intro w'
            go_simp
            with_reducible rfl
          rotate_left
          · simp only [Act.put, List.setIfInBounds_toArray, List.set_cons_zero, List.set_cons_succ, i64_w, i32_w]
            rfl
          refine pure_ (i := 8) (N := (some 129)) (v := ?_) (a' := ?_) (bb 23 511) rfl rfl (any_of HT_.out (by kernel_rfl)) (fun _ _ _ h => h) (Or.inl ⟨by rfl, ?_⟩) ?_ ?_
          rotate_left
          · intro w'
            go_simp
            with_reducible rfl
          rotate_left
          · simp only [Act.put, List.setIfInBounds_toArray, List.set_cons_zero, List.set_cons_succ, i64_w, i32_w]
            rfl
          refine pure_ (i := 9) (N := (some 130)) (v := ?_) (a' := ?_) (bb 23 1023) rfl rfl (any_of HT_.out (by kernel_rfl)) (fun _ _ _ h => h) (Or.inl ⟨by rfl, ?_⟩) ?_ ?_
          rotate_left
          · intro w'
            go_simp
            with_reducible rfl
          rotate_left
          · simp only [Act.put, List.setIfInBounds_toArray, List.set_cons_zero, List.set_cons_succ, i64_w, i32_w]
            rfl
          refine pure_ (i := 11) (N := (some 132)) (v := ?_) (a' := ?_) (bb 23 3071) rfl rfl (any_of HT_.out (by kernel_rfl)) (fun _ _ _ h => h) (Or.inl ⟨by rfl, ?_⟩) ?_ ?_
          rotate_left
          · intro w'
            go_simp
            with_reducible rfl
          rotate_left
          · simp only [Act.put, List.setIfInBounds_toArray, List.set_cons_zero, List.set_cons_succ, i64_w, i32_w]
            rfl
          refine take_ (i := 12) (N := (some 133)) (v := ?_) (a' := ?_) (bb 23 7167) rfl rfl (take_ofW HT_.out HW_.out (by kernel_rfl)) (fun _ _ _ h => h) (Or.inl ⟨by rfl, ?_⟩) hHeld ?_ ?_
          rotate_left
          · intro w' s0
            (try dsimp only at s0)
            go_simp
            with_reducible rfl
          rotate_left
          · simp only [Act.put, List.setIfInBounds_toArray, List.set_cons_zero, List.set_cons_succ, i64_w, i32_w]
            rfl
          refine one_ (i := 10) (N := (some 131)) (bb 23 8191) rfl rfl (one_of HT_.out (by kernel_rfl)) (by decide) (fun K hK => ?_)
          refine goes_ Tryd.func18 (by kernel_rfl) rfl #[.pointer (some ⟨gd, 0, none⟩)] (by rfl) rfl rfl (by (try simp only [List.map_toArray, List.map_cons, List.map_nil]); first | done | rfl) ?_
          with_reducible refine (HAC.out _ _ _ HSy.out.up2).mono ?_
          rintro e wA ⟨rfl, h⟩
          have HSA := Aside0.mk h
          clear h
          refine ⟨_, rfl, ?_⟩
          refine hK.out _ _ (rf_held HSA.out.up3) (fun hHeld => ?_)
          clear hK K
          refine norm_ (a' := ?_) ?_ ?_
          rotate_left
          · show Act.put _ (some 131) _ = _
            simp only [Act.put, List.setIfInBounds_toArray, List.set_cons_zero, List.set_cons_succ, i64_w, i32_w]
            rfl
          refine pure_ (i := 13) (N := (some 134)) (v := ?_) (a' := ?_) (bb 23 16383) rfl rfl (any_of HT_.out (by kernel_rfl)) (fun _ _ _ h => h) (Or.inl ⟨by rfl, ?_⟩) ?_ ?_
          rotate_left
          · intro w'
            go_simp
            with_reducible rfl
          rotate_left
          · simp only [Act.put, List.setIfInBounds_toArray, List.set_cons_zero, List.set_cons_succ, i64_w, i32_w]
            rfl
          refine pure_ (i := 14) (N := (some 135)) (v := ?_) (a' := ?_) (bb 23 32767) rfl rfl (any_of HT_.out (by kernel_rfl)) (fun _ _ _ h => h) (Or.inl ⟨by rfl, ?_⟩) ?_ ?_
          rotate_left
          · intro w'
            go_simp
            with_reducible rfl
          rotate_left
          · simp only [Act.put, List.setIfInBounds_toArray, List.set_cons_zero, List.set_cons_succ, i64_w, i32_w]
            rfl
          refine pure_ (i := 15) (N := (some 136)) (v := ?_) (a' := ?_) (bb 23 65535) rfl rfl (any_of HT_.out (by kernel_rfl)) (fun _ _ _ h => h) (Or.inl ⟨by rfl, ?_⟩) ?_ ?_
          rotate_left
          · intro w'
            go_simp
            with_reducible rfl
          rotate_left
          · simp only [Act.put, List.setIfInBounds_toArray, List.set_cons_zero, List.set_cons_succ, i64_w, i32_w]
            rfl
          refine pure_ (i := 16) (N := (some 137)) (v := ?_) (a' := ?_) (bb 23 131071) rfl rfl (any_of HT_.out (by kernel_rfl)) (fun _ _ _ h => h) (Or.inl ⟨by rfl, ?_⟩) ?_ ?_
          rotate_left
          · intro w'
            go_simp
            with_reducible rfl
          rotate_left
          · simp only [Act.put, List.setIfInBounds_toArray, List.set_cons_zero, List.set_cons_succ, i64_w, i32_w]
            rfl
          refine take_ (i := 18) (N := (some 139)) (v := ?_) (a' := ?_) (bb 23 393215) rfl rfl (take_ofW HT_.out HW_.out (by kernel_rfl)) (fun _ _ _ h => h) (Or.inl ⟨by rfl, ?_⟩) hHeld ?_ ?_
          rotate_left
          · intro w' s0
            (try dsimp only at s0)
            go_simp
            with_reducible rfl
          rotate_left
          · simp only [Act.put, List.setIfInBounds_toArray, List.set_cons_zero, List.set_cons_succ, i64_w, i32_w]
            rfl
          refine one_ (i := 17) (N := (some 138)) (bb 23 524287) rfl rfl (one_of HT_.out (by kernel_rfl)) (by decide) (fun K hK => ?_)
          refine goes_ Tryd.func23 (by kernel_rfl) rfl #[.pointer (some ⟨gd, 0, none⟩)] (by rfl) rfl rfl (by (try simp only [List.map_toArray, List.map_cons, List.map_nil]); first | done | rfl) ?_
          with_reducible refine (HIG.out _ _ _ HSA.out).mono ?_
          rintro e wB ⟨go, cg, rfl, h⟩
          have HSB := Aside0.mk h
          clear h
          refine ⟨_, rfl, ?_⟩
          refine hK.out _ _ (rf_held HSB.out.up4) (fun hHeld => ?_)
          clear hK K
          refine norm_ (a' := ?_) ?_ ?_
          rotate_left
          · show Act.put _ (some 138) _ = _
            simp only [Act.put, List.setIfInBounds_toArray, List.set_cons_zero, List.set_cons_succ, i64_w, i32_w]
            rfl
          refine one_ (i := 19) (N := (some 140)) (bb 23 1048575) rfl rfl (one_of HT_.out (by kernel_rfl)) (by decide) (fun K hK => ?_)
          refine goes_ Tryd.func24 (by kernel_rfl) rfl #[.agg #[.int .i64 (n : Int), .slice B1 1 d1, .slice B2 0 d2, .int .i64 0, .int .i64 1, .int .i64 1]] (by rfl) rfl rfl (by (try simp only [List.map_toArray, List.map_cons, List.map_nil]); first | done | rfl) ?_
          with_reducible refine (HRI.out _ _ _ _ _ _ _ _ _ HSB.out.up5).mono ?_
          rintro e wC ⟨go2, c5, rfl, h⟩
          have HSC := Aside0.mk (HSB.out.nest h)
          clear h
          refine ⟨_, rfl, ?_⟩
          refine hK.out _ _ (rf_held HSC.out.up5) (fun hHeld => ?_)
          clear hK K
          refine norm_ (a' := ?_) ?_ ?_
          rotate_left
          · show Act.put _ (some 140) _ = _
            simp only [Act.put, List.setIfInBounds_toArray, List.set_cons_zero, List.set_cons_succ, i64_w, i32_w]
            rfl
          refine last_ (i := 20) (N := (some 141)) (bb 23 2097151) rfl rfl (one_of HT_.out (by kernel_rfl)) (by decide) (fun K hK => ?_)
          refine goes_ Tryd.func22 (by kernel_rfl) rfl #[.slice (some ⟨go, 0, none⟩) n cg, .slice (some ⟨go2, 0, none⟩) n c5] (by rfl) rfl rfl (by (try simp only [List.map_toArray, List.map_cons, List.map_nil]); first | done | rfl) ?_
          with_reducible refine (same_calls (HSC.out.up1.rows_own) HSC.out _ HSM.out).mono ?_
          rintro e wD ⟨rfl, hd⟩
          have HBD := Aside0.mk hd
          clear hd
          refine ⟨_, rfl, ?_⟩
          refine hK.out _ _ ?_
          clear hK K
          refine norm_ (a' := ?_) ?_ ?_
          rotate_left
          · show Act.put _ (some 141) _ = _
            simp only [Act.put, List.setIfInBounds_toArray, List.set_cons_zero, List.set_cons_succ, i64_w, i32_w]
            rfl
          refine pure_ (i := 21) (N := (some 142)) (v := ?_) (a' := ?_) (bb 23 4194303) rfl rfl (any_of HT_.out (by kernel_rfl)) (fun _ _ _ h => h) (Or.inl ⟨by rfl, ?_⟩) ?_ ?_
          rotate_left
          · intro w'
            go_simp
            with_reducible rfl
          rotate_left
          · simp only [Act.put, List.setIfInBounds_toArray, List.set_cons_zero, List.set_cons_succ, i64_w, i32_w]
            rfl
          refine pure_ (i := 22) (N := (some 143)) (v := ?_) (a' := ?_) (bb 23 8388607) rfl rfl (any_of HT_.out (by kernel_rfl)) (fun _ _ _ h => h) (Or.inl ⟨by rfl, ?_⟩) ?_ ?_
          rotate_left
          · intro w'
            go_simp
            with_reducible rfl
          rotate_left
          · simp only [Act.put, List.setIfInBounds_toArray, List.set_cons_zero, List.set_cons_succ, i64_w, i32_w]
            rfl
          refine done_ (done_of HT_.out (by kernel_rfl)) ?_
          have HSz := Aside0.mk (HSC.out.step (show Below wC.heap.size wC wD from by obtain ⟨nd, rfl⟩ := HBD.out; exact pw_below_drewN (Below.refl _ _) nd))
          clear hHeld HT_ HW_ HSy HSA HSB HSC HBD
          go_wp2
          go_roundg (gk - 1)
          case measure => have := HJ.out; have := HK5.out; omega
          case rel => exact ⟨q + 2 + 1, B1, B2, d1, d2, rfl, ⟨by have := HJ.out; have := HK5.out; omega⟩, ⟨show Sep w0 wD (wrS n gx ge gd gw g4 (sc.tmod 2) eb V ⟨(i : Int), eb⟩ (fD n) i Ae ce B1 B2 d1 d2 (q + 2 + 1)) from HSz.out.sel 9 [3, 4, 2, 5, 6, 7, 8] _ rfl (by decide) rfl⟩⟩
      · skip
        go_wp2
        go_ret
        exact ⟨rfl, hS.out.below⟩
    · skip
      go_wp2
      go_ret
      exact ⟨rfl, hS.out.below⟩
theorem writes_calls {w0 : World} (hH : Wr.Half w0) (x : Int) (s : SL) (hs : s.Ok) (st : Int) : Calls Tryd.prog 4 #[.int .i64 x, .agg s.V.toArray, .int .i64 st] w0 fun e w' => e = .returned (.bool true) ∧ Below w0.heap.size w0 w' := by
  by_cases hx : 2 ≤ x ∧ x ≤ 65536
  · obtain ⟨n, rfl⟩ : ∃ n : Nat, x = (n : Int) := ⟨x.toNat, by omega⟩
    by_cases hb : 4096 < n
    · exact wr_big n (by omega) (by omega) hb _ st w0
    · cases hm : mayM s with
      | false => exact wr_no hH n (by omega) (by omega) s hs hm st
      | true =>
        by_cases hsec : s.a = (n : Int)
        · exact wr_yes hH n (by omega) (by omega) s hs hm hsec st
        · exact wr_else hH n (by omega) (by omega) s hs hm hsec st
  · exact wr_out x hx _ st w0
def writesF (k : Nat) (x : Int) (s : SL) (st : Int) : Option Bool := some true
theorem writes_pure (x : Int) (s : SL) (st : Int) (_ : (Lit.int .i64 x).wf = true) (_ : (Lit.int .i64 st).wf = true) : ∃ k, writesF k x s st = some true := ⟨0, rfl⟩
theorem writes18_row (k : Nat) (x : Int) (s : SL) (st : Int) (v : Bool) (W : World) (hs : s.Ok) (hG : Wr.Half W) (h : writesF k x s st = some v) :
    Calls Tryd.prog 4 #[.int .i64 x, .agg s.V.toArray, .int .i64 st] W fun e w' => e = .returned (.bool v) ∧ Below W.heap.size W w' := by
  cases h
  exact writes_calls hG x s hs st
end Go.Proofs.YtaflofcnjakaaaaDoor.M

namespace Go.Proofs.YtaflofcnjakaaaaDoor.Bulk
open Go.ChangeShapes Go.WideShapes Go.RowKit Go.Proofs.YtaflofcnjakaaaaDoorW.PrintWords Go.Proofs.YtaflofcnjakaaaaDoorW.PrintLast Go.Proofs.YtaflofcnjakaaaaDoorW.PrintMore Go.Proofs.YtaflofcnjakaaaaDoor.M Go.Proofs.YtaflofcnjakaaaaDoor.Pl Go.Proofs.YtaflofcnjakaaaaDoor.Wr Go.Proofs.YtaflofcnjakaaaaDoor.A
set_option linter.unusedVariables false
section
variable {H : Type} {enc : TypeId × Value → H} {W : World} {base : Nat} {spare : Nat → Bool} {held : Bool}
theorem bound_u8 {x : Int} (h : (Lit.int .u8 x).wf = true) : 0 ≤ x ∧ x < 256 := by
  simp [Lit.wf, IntKind.min, IntKind.max, IntKind.signed, IntKind.bits] at h
  omega
def valI : Value → Int
  | .int _ n => n
  | _ => 0
theorem opens_key {fuel : Nat} {cs : List Value} {x : DataW H × List MemPlace} (h : DataW.trod enc Tryd.prog W base spare held fuel 23 cs = some x) : ∃ l : List Int, cs = nums .u8 l ∧ l.length = 32 ∧ bytes_ l := by
  obtain ⟨xs, m, _, _, hl, hx, hf⟩ := DataW.trod_array Tryd.underlying23 h
  rw [show Tryd.prog.cellsOf 23 = 32 by kernel_rfl] at hl
  have q5 : Tryd.prog.cellsOf 5 = 1 := by kernel_rfl
  have each : ∀ v ∈ cs, ∃ n, v = .int .u8 n ∧ 0 ≤ n ∧ n < 256 := by
    intro v hv
    obtain ⟨i, hi, rfl⟩ := List.getElem_of_mem hv
    have h1 := hf i (by omega)
    rw [q5, Nat.mul_one, List.getElem?_eq_getElem (by omega)] at h1
    obtain ⟨n, he, _, hw⟩ := DataW.trod_int Tryd.underlying5 h1
    refine ⟨n, ?_, bound_u8 hw⟩
    have h2 : (cs.drop i).take 1 = [cs[i]] := by rw [List.drop_eq_getElem_cons hi]; rfl
    rw [h2] at he
    exact List.head_eq_of_cons_eq he
  refine ⟨cs.map valI, ?_, by rw [List.length_map, hl], ?_⟩
  · unfold nums
    rw [List.map_map]
    refine (List.map_congr_left (g := id) (fun v hv => ?_) |>.trans (List.map_id _)).symm
    obtain ⟨n, rfl, _⟩ := each v hv
    rfl
  · intro y hy
    obtain ⟨v, hv, rfl⟩ := List.mem_map.1 hy
    obtain ⟨n, rfl, h1⟩ := each v hv
    exact h1
theorem opens_i64 {fuel : Nat} {c : List Value} {x : DataW H × List MemPlace} (h : DataW.trod enc Tryd.prog W base spare held fuel 3 c = some x) : ∃ n, c = [.int .i64 n] := by
  obtain ⟨n, he, _, hw⟩ := DataW.trod_int Tryd.underlying3 h
  exact ⟨n, he⟩
theorem cut_ {α : Type} (cs : List α) (a n : Nat) {y : List α} (h : (cs.drop a).take n = y) : cs.drop a = y ++ cs.drop (a + n) := by
  rw [← h, ← List.drop_drop]
  exact (List.take_append_drop n _).symm
theorem some_at {α : Type} {xs : List α} {i : Nat} (h : i < xs.length) : ∃ x, xs[i]? = some x := ⟨_, List.getElem?_eq_getElem h⟩
theorem opens_ref {fuel : Nat} {cs : List Value} {x : DataW H × List MemPlace} (h : DataW.trod enc Tryd.prog W base spare held fuel 25 cs = some x) : ∃ (l : List Int) (a b : Int), cs = refV l a b ∧ l.length = 32 ∧ bytes_ l := by
  obtain ⟨xs, m, _, _, hl, hx, hf⟩ := DataW.trod_struct Tryd.underlying25 h
  rw [show Tryd.prog.cellsOf 25 = 34 by kernel_rfl] at hl
  have hx3 : xs.length = 3 := hx
  have q23 : Tryd.prog.cellsOf 23 = 32 := by kernel_rfl
  have q3 : Tryd.prog.cellsOf 3 = 1 := by kernel_rfl
  obtain ⟨x0, e0⟩ := some_at (show 0 < xs.length by omega)
  obtain ⟨x1, e1⟩ := some_at (show 1 < xs.length by omega)
  obtain ⟨x2, e2⟩ := some_at (show 2 < xs.length by omega)
  have f0 : DataW.trod enc Tryd.prog W base spare held m 23 ((cs.drop 0).take (Tryd.prog.cellsOf 23)) = some x0 := (hf 0 _ rfl).trans e0
  have f1 : DataW.trod enc Tryd.prog W base spare held m 3 ((cs.drop 32).take (Tryd.prog.cellsOf 3)) = some x1 := (hf 1 _ rfl).trans e1
  have f2 : DataW.trod enc Tryd.prog W base spare held m 3 ((cs.drop 33).take (Tryd.prog.cellsOf 3)) = some x2 := (hf 2 _ rfl).trans e2
  rw [q23] at f0
  rw [q3] at f1 f2
  obtain ⟨l, g0, hl0, hb0⟩ := opens_key f0
  obtain ⟨a, g1⟩ := opens_i64 f1
  obtain ⟨b, g2⟩ := opens_i64 f2
  refine ⟨l, a, b, ?_, hl0, hb0⟩
  have c0 := cut_ cs 0 32 g0
  have c1 := cut_ cs 32 1 g1
  have c2 := cut_ cs 33 1 g2
  rw [List.drop_zero] at c0
  rw [c0]
  show nums .u8 l ++ cs.drop 32 = _
  rw [c1]
  show nums .u8 l ++ ([Value.int .i64 a] ++ cs.drop 33) = _
  rw [c2, List.drop_eq_nil_of_le (show cs.length ≤ 33 + 1 by omega)]
  rfl
set_option maxRecDepth 100000 in
theorem opens_slot {fuel : Nat} {cs : List Value} {x : DataW H × List MemPlace} (h : DataW.trod enc Tryd.prog W base spare held fuel 27 cs = some x) : ∃ s : SL, s.Ok ∧ cs = s.V := by
  obtain ⟨xs, m, _, _, hl, hx, hf⟩ := DataW.trod_struct Tryd.underlying27 h
  rw [show Tryd.prog.cellsOf 27 = 105 by kernel_rfl] at hl
  have hx3 : xs.length = 8 := hx
  have q25 : Tryd.prog.cellsOf 25 = 34 := by kernel_rfl
  have q23 : Tryd.prog.cellsOf 23 = 32 := by kernel_rfl
  have q3 : Tryd.prog.cellsOf 3 = 1 := by kernel_rfl
  obtain ⟨x0, e0⟩ := some_at (show 0 < xs.length by omega)
  obtain ⟨x1, e1⟩ := some_at (show 1 < xs.length by omega)
  obtain ⟨x2, e2⟩ := some_at (show 2 < xs.length by omega)
  obtain ⟨x3, e3⟩ := some_at (show 3 < xs.length by omega)
  obtain ⟨x4, e4⟩ := some_at (show 4 < xs.length by omega)
  obtain ⟨x5, e5⟩ := some_at (show 5 < xs.length by omega)
  obtain ⟨x6, e6⟩ := some_at (show 6 < xs.length by omega)
  obtain ⟨x7, e7⟩ := some_at (show 7 < xs.length by omega)
  have f0 : DataW.trod enc Tryd.prog W base spare held m 3 ((cs.drop 0).take (Tryd.prog.cellsOf 3)) = some x0 := (hf 0 _ rfl).trans e0
  have f1 : DataW.trod enc Tryd.prog W base spare held m 3 ((cs.drop 1).take (Tryd.prog.cellsOf 3)) = some x1 := (hf 1 _ rfl).trans e1
  have f2 : DataW.trod enc Tryd.prog W base spare held m 3 ((cs.drop 2).take (Tryd.prog.cellsOf 3)) = some x2 := (hf 2 _ rfl).trans e2
  have f3 : DataW.trod enc Tryd.prog W base spare held m 3 ((cs.drop 3).take (Tryd.prog.cellsOf 3)) = some x3 := (hf 3 _ rfl).trans e3
  have f4 : DataW.trod enc Tryd.prog W base spare held m 3 ((cs.drop 4).take (Tryd.prog.cellsOf 3)) = some x4 := (hf 4 _ rfl).trans e4
  have f5 : DataW.trod enc Tryd.prog W base spare held m 23 ((cs.drop 5).take (Tryd.prog.cellsOf 23)) = some x5 := (hf 5 _ rfl).trans e5
  have f6 : DataW.trod enc Tryd.prog W base spare held m 25 ((cs.drop 37).take (Tryd.prog.cellsOf 25)) = some x6 := (hf 6 _ rfl).trans e6
  have f7 : DataW.trod enc Tryd.prog W base spare held m 25 ((cs.drop 71).take (Tryd.prog.cellsOf 25)) = some x7 := (hf 7 _ rfl).trans e7
  rw [q3] at f0 f1 f2 f3 f4
  rw [q23] at f5
  rw [q25] at f6 f7
  obtain ⟨a, g0⟩ := opens_i64 f0
  obtain ⟨b, g1⟩ := opens_i64 f1
  obtain ⟨c, g2⟩ := opens_i64 f2
  obtain ⟨d, g3⟩ := opens_i64 f3
  obtain ⟨e, g4⟩ := opens_i64 f4
  obtain ⟨k, g5, k1, k2⟩ := opens_key f5
  obtain ⟨r, rf, rl, g6, r1, r2⟩ := opens_ref f6
  obtain ⟨o, mf, ml, g7, o1, o2⟩ := opens_ref f7
  refine ⟨⟨a, b, c, d, e, k, r, rf, rl, o, mf, ml⟩, ⟨k1, r1, o1, k2, r2, o2⟩, ?_⟩
  have c0 := cut_ cs 0 1 g0
  have c1 := cut_ cs 1 1 g1
  have c2 := cut_ cs 2 1 g2
  have c3 := cut_ cs 3 1 g3
  have c4 := cut_ cs 4 1 g4
  have c5 := cut_ cs 5 32 g5
  have c6 := cut_ cs 37 34 g6
  have c7 := cut_ cs 71 34 g7
  rw [List.drop_zero] at c0
  rw [List.drop_eq_nil_of_le (show cs.length ≤ 71 + 34 by omega), List.append_nil] at c7
  rw [c0]
  show [Value.int .i64 a] ++ cs.drop 1 = _
  rw [c1]
  show [Value.int .i64 a] ++ ([Value.int .i64 b] ++ cs.drop 2) = _
  rw [c2]
  show [Value.int .i64 a] ++ ([Value.int .i64 b] ++ ([Value.int .i64 c] ++ cs.drop 3)) = _
  rw [c3]
  show [Value.int .i64 a] ++ ([Value.int .i64 b] ++ ([Value.int .i64 c] ++ ([Value.int .i64 d] ++ cs.drop 4))) = _
  rw [c4]
  show [Value.int .i64 a] ++ ([Value.int .i64 b] ++ ([Value.int .i64 c] ++ ([Value.int .i64 d] ++ ([Value.int .i64 e] ++ cs.drop 5)))) = _
  rw [c5]
  show [Value.int .i64 a] ++ ([Value.int .i64 b] ++ ([Value.int .i64 c] ++ ([Value.int .i64 d] ++ ([Value.int .i64 e] ++ (nums .u8 k ++ cs.drop 37))))) = _
  rw [c6]
  show [Value.int .i64 a] ++ ([Value.int .i64 b] ++ ([Value.int .i64 c] ++ ([Value.int .i64 d] ++ ([Value.int .i64 e] ++ (nums .u8 k ++ (refV r rf rl ++ cs.drop 71)))))) = _
  rw [c7]
  rfl
set_option maxRecDepth 100000 in
theorem arg_z {r : Reach} {b0 : Nat} {v : Value} {dd : DataW H} {ps : List MemPlace} (hv : Value.okWide Tryd.prog W r b0 27 v)
    (h : DataW.Trod enc Tryd.prog W base spare held 27 v dd ps) : ∃ s : SL, v = .agg s.V.toArray ∧ s.Ok := by
  obtain ⟨cs, rfl, hsz⟩ := okWide_struct Tryd.underlying27 hv
  obtain ⟨fuel, hf⟩ := h
  obtain ⟨s, hs, he⟩ := opens_slot hf
  have h1 : cs.toList = s.V := he
  exact ⟨s, by rw [← h1], hs⟩
end
end Go.Proofs.YtaflofcnjakaaaaDoor.Bulk

namespace Go.Proofs.YtaflofcnjakaaaaDoor.rootWrites
open Go.ChangeShapes Go.WideShapes Go.ChangeAt Go.RowKit Go.Proofs.YtaflofcnjakaaaaDoorW.PrintWords Go.Proofs.YtaflofcnjakaaaaDoorW.PrintLast Go.Proofs.YtaflofcnjakaaaaDoorW.PrintMore Go.Proofs.YtaflofcnjakaaaaDoor.P Go.Proofs.YtaflofcnjakaaaaDoor.M Go.Proofs.YtaflofcnjakaaaaDoor.Wr Go.Proofs.YtaflofcnjakaaaaDoor.Pl Go.Proofs.YtaflofcnjakaaaaDoor.A
set_option linter.unusedVariables false
theorem own : ownKnob Tryd.prog.godebug = none := by kernel_rfl
theorem laidOut : laidOutB Tryd.prog = true := by kernel_rfl
theorem gTab : Tryd.prog.globalNamed "kiln/wire.half" = some 0 := by kernel_rfl
theorem gTabType : (Tryd.prog.globals[0]?).map (·.type) = some 129 := by kernel_rfl
theorem cellsTab : Tryd.prog.cellsOf 129 = 16 := by kernel_rfl
theorem cells90 : Tryd.prog.cellsOf 90 = 1 := by kernel_rfl
theorem half_of {W : World} (h : laidMetH Tryd.prog Rows.rootWritesRow.laid W) : Wr.Half W := by
  have t : Lib.TabIs Tryd.prog W "kiln/wire.half" .u32 [0, 498536548, 997073096, 651767980, 1994146192, 1802195444, 1303535960, 1342533948, 3988292384, 4027552580, 3604390888, 3412177804, 2607071920, 2262029012, 2685067896, 3183342108] := Lib.tabIs_of_head (rest := []) gTab gTabType Tryd.underlying129 Tryd.underlying90 cells90 cellsTab h
  intro i hi
  have hc := t.cell gTab i (by simpa using hi)
  have e : ∀ j : Fin 16, ([0, 498536548, 997073096, 651767980, 1994146192, 1802195444, 1303535960, 1342533948, 3988292384, 4027552580, 3604390888, 3412177804, 2607071920, 2262029012, 2685067896, 3183342108] : List Int)[j.1]? = some ((halfL.getD j.1 0 : Nat) : Int) := by decide
  have e2 := e ⟨i, hi⟩
  first
  | (rw [List.getD_eq_getElem?_getD, e2] at hc; exact hc)
  | (rw [List.getElem?_eq_some_iff] at e2; obtain ⟨_, e3⟩ := e2; rw [e3] at hc; exact hc)
def IsRow (k : IntKind) (w : World) (a : Option Addr) (len cap : Nat) (zs : List Int) : Prop :=
  (a = none ∧ len = 0 ∧ cap = 0 ∧ zs = []) ∨
  ∃ x, a = some x ∧ len ≤ cap ∧ cap ≤ maxLen ∧ zs.length = cap ∧ (∀ i, i < zs.length → w.cell? (x.add i) = some (.int k (zs.getD i 0))) ∧ ∀ n ∈ zs, (Lit.int k n).wf = true
set_option maxRecDepth 100000 in
theorem contract (H : Type) (enc : TypeId × Value → H) (W : World) (base : Nat) (args : Array Value) (ds gs : List (DataW H)) (before : List MemPlace)
    (hval : ∀ (j : Nat) t v, Tryd.f4.params[j]? = some t → args[j]? = some v → Value.okWide Tryd.prog W .any base t v)
    (hW : DataW.Whole enc Tryd.prog Tryd.f4.params.toList Rows.rootWritesSpec.vars false W args.toList ds gs before)
    (hsz0 : (DataW.weightsEach Tryd.prog (Tryd.f4.params.toList ++ Rows.rootWritesSpec.plain.varTypes Tryd.prog) (ds ++ gs)).all (· ≤ reachBytes) = true)
    (hL : laidMetH Tryd.prog Rows.rootWritesRow.laid W) :
    Calls Tryd.prog 4 args W fun e W' => ∃ v, e = .returned v ∧ Rows.rootWritesSpec.post enc Tryd.prog Tryd.f4 false true false false W args v W' := by
  have hG := half_of hL
  have hW' := hW
  have hsz : (DataW.weightsEach Tryd.prog (Tryd.f4.params.toList ++ Rows.rootWritesSpec.plain.varTypes Tryd.prog) (ds ++ gs)).all (· ≤ reachBytes) = true := hsz0
  obtain ⟨p, q, hA0, hV, rfl, hfz, hnd⟩ := hW
  have hA : DataW.TrodAll enc Tryd.prog W 0 (fun _ => true) true Tryd.f4.params.toList args.toList ds p := hA0
  rw [Tryd.params4] at hA hval hsz
  obtain ⟨v0, vs0, d0, ds0, p0, q0, hargs, rfl, rfl, h0, r0⟩ := trodAll_cons hA
  obtain ⟨v1, vs1, d1, ds1, p1, q1, rfl, rfl, rfl, h1, r1⟩ := trodAll_cons r0
  obtain ⟨v2, vs2, d2, ds2, p2, q2, rfl, rfl, rfl, h2, r2⟩ := trodAll_cons r1
  obtain ⟨rfl, rfl, rfl⟩ := trodAll_nil r2
  obtain rfl : args = #[v0, v1, v2] := by cases args; simp_all
  obtain ⟨rfl, rfl⟩ := trodVars_none hV
  obtain ⟨a0, rfl, rfl, rfl, w0⟩ := open_int Tryd.underlying3 (hval 0 3 v0 rfl rfl) h0
  have k1 := h1
  have lt1 : ∀ x ∈ p1, x.block < W.heap.size := by obtain ⟨m, hm⟩ := k1; exact DataW.trod_lt m _ _ _ hm
  obtain ⟨s1, rfl, hs1⟩ := Bulk.arg_z (hval 1 27 v1 rfl rfl) h1
  obtain ⟨a2, rfl, rfl, rfl, w2⟩ := open_int Tryd.underlying3 (hval 2 3 v2 rfl rfl) h2
  clear hA0 hsz0 hsz
  obtain ⟨k, h⟩ := M.writes_pure a0 s1 a2 w0 w2
  refine (M.writes18_row k a0 s1 a2 true W hs1 hG h).mono ?_
  rintro e W' ⟨rfl, bel⟩
  exact ⟨_, rfl, _, _, _, [], _, [], hW', trodAll_mk1 (shut_bool Tryd.underlying4 _), (trodAll_cons_mk (shut_int Tryd.underlying3 w0) (trodAll_cons_mk (Below.trod laidOut (by kernel_rfl) (of_decide_eq_true (by kernel_rfl)) k1 bel lt1) (trodAll_cons_mk (shut_int Tryd.underlying3 w2) trodAll_mk0))), rfl, bel.frame _, fun h => by cases h⟩
noncomputable def laidWorld (os : Os) : World :=
  { World.holding Tryd.prog os ⟨#[], #[], []⟩ with heap := (World.holding Tryd.prog os ⟨#[], #[], []⟩).heap.modify 0 fun
      | .cells _ t frozen => .cells #[.int .u32 0, .int .u32 498536548, .int .u32 997073096, .int .u32 651767980, .int .u32 1994146192, .int .u32 1802195444, .int .u32 1303535960, .int .u32 1342533948, .int .u32 3988292384, .int .u32 4027552580, .int .u32 3604390888, .int .u32 3412177804, .int .u32 2607071920, .int .u32 2262029012, .int .u32 2685067896, .int .u32 3183342108] t frozen
      | o => o }
set_option maxRecDepth 100000 in
theorem laid_met (os : Os) : laidMet Tryd.prog Rows.rootWritesRow.laid ((laidWorld os).forCall (fun _ _ => 0) ⟨#[], #[.int .i64 0, .agg noSL.V.toArray, .int .i64 0], []⟩).memory :=
  laidMet_of_run' 8 (by kernel_rfl) (by kernel_rfl)
set_option maxRecDepth 100000 in
theorem reads (os : Os) {H : Type} (enc : TypeId × Value → H) : ∃ places, DataW.whole enc Tryd.prog ((laidWorld os).forCall (fun _ _ => 0) ⟨#[], #[.int .i64 0, .agg noSL.V.toArray, .int .i64 0], []⟩).memory Tryd.f4.params.toList Rows.rootWritesSpec.vars false (#[.int .i64 0, .agg noSL.V.toArray, .int .i64 0] : Array Value).toList 8 = some ([.lit (.int .i64 0), .agg [.lit (.int .i64 0), .lit (.int .i64 0), .lit (.int .i64 0), .lit (.int .i64 0), .lit (.int .i64 0), .agg [.lit (.int .u8 0), .lit (.int .u8 0), .lit (.int .u8 0), .lit (.int .u8 0), .lit (.int .u8 0), .lit (.int .u8 0), .lit (.int .u8 0), .lit (.int .u8 0), .lit (.int .u8 0), .lit (.int .u8 0), .lit (.int .u8 0), .lit (.int .u8 0), .lit (.int .u8 0), .lit (.int .u8 0), .lit (.int .u8 0), .lit (.int .u8 0), .lit (.int .u8 0), .lit (.int .u8 0), .lit (.int .u8 0), .lit (.int .u8 0), .lit (.int .u8 0), .lit (.int .u8 0), .lit (.int .u8 0), .lit (.int .u8 0), .lit (.int .u8 0), .lit (.int .u8 0), .lit (.int .u8 0), .lit (.int .u8 0), .lit (.int .u8 0), .lit (.int .u8 0), .lit (.int .u8 0), .lit (.int .u8 0)], .agg [.agg [.lit (.int .u8 0), .lit (.int .u8 0), .lit (.int .u8 0), .lit (.int .u8 0), .lit (.int .u8 0), .lit (.int .u8 0), .lit (.int .u8 0), .lit (.int .u8 0), .lit (.int .u8 0), .lit (.int .u8 0), .lit (.int .u8 0), .lit (.int .u8 0), .lit (.int .u8 0), .lit (.int .u8 0), .lit (.int .u8 0), .lit (.int .u8 0), .lit (.int .u8 0), .lit (.int .u8 0), .lit (.int .u8 0), .lit (.int .u8 0), .lit (.int .u8 0), .lit (.int .u8 0), .lit (.int .u8 0), .lit (.int .u8 0), .lit (.int .u8 0), .lit (.int .u8 0), .lit (.int .u8 0), .lit (.int .u8 0), .lit (.int .u8 0), .lit (.int .u8 0), .lit (.int .u8 0), .lit (.int .u8 0)], .lit (.int .i64 0), .lit (.int .i64 0)], .agg [.agg [.lit (.int .u8 0), .lit (.int .u8 0), .lit (.int .u8 0), .lit (.int .u8 0), .lit (.int .u8 0), .lit (.int .u8 0), .lit (.int .u8 0), .lit (.int .u8 0), .lit (.int .u8 0), .lit (.int .u8 0), .lit (.int .u8 0), .lit (.int .u8 0), .lit (.int .u8 0), .lit (.int .u8 0), .lit (.int .u8 0), .lit (.int .u8 0), .lit (.int .u8 0), .lit (.int .u8 0), .lit (.int .u8 0), .lit (.int .u8 0), .lit (.int .u8 0), .lit (.int .u8 0), .lit (.int .u8 0), .lit (.int .u8 0), .lit (.int .u8 0), .lit (.int .u8 0), .lit (.int .u8 0), .lit (.int .u8 0), .lit (.int .u8 0), .lit (.int .u8 0), .lit (.int .u8 0), .lit (.int .u8 0)], .lit (.int .i64 0), .lit (.int .i64 0)]], .lit (.int .i64 0)], [], places) :=
  ⟨[], by kernel_rfl⟩
set_option maxRecDepth 100000 in
theorem lifted (os : Os) (started : os.Started) (H : Type) (enc : TypeId × Value → H) (F : Stop.Interp) :
    ReturnsInHanded {} Tryd.checked os 4 .any ((OpenSpec.ofChange Rows.rootWritesSpec).preRow enc Tryd.prog Tryd.f4 Rows.rootWritesRow.domain false Rows.rootWritesRow.laid) (((OpenSpec.ofChange Rows.rootWritesSpec).at F).post enc Tryd.prog Tryd.f4 false true false false) := by
  obtain ⟨places, hx⟩ := reads os enc
  refine returnsInHanded_of_row (C := Tryd.checked) (s := OpenSpec.ofChange Rows.rootWritesSpec) own started (by kernel_rfl) Tryd.func4
    (witness_row_at (enc := enc) (C := Tryd.checked) false (laidWorld os) #[.int .i64 0, .agg noSL.V.toArray, .int .i64 0] rfl (by kernel_rfl) (by kernel_rfl) (by kernel_rfl)
      (OpenSpec.preRow_of_cond 8 hx (by kernel_rfl) (fun k hk => by cases hk) (by kernel_rfl) (laid_met os))) ?_
  intro W base args ds gs before hval hW _ hcond hsz hL _ _
  exact contract H enc W base args ds gs before hval hW hsz hL
set_option maxRecDepth 100000 in
theorem said : Rows.RootWritesSaid :=
  OpenClaim.holds_of_cond 4 Tryd.f4 rfl rfl rfl rfl rfl rfl rfl ⟨rfl, rfl, rfl, rfl, rfl⟩ rfl rfl rfl rfl rfl (by kernel_rfl) Tryd.func4 (by kernel_rfl)
    (of_decide_eq_true (by kernel_rfl)) (by unfold Func.isWrapper; first | (rw [if_pos (by decide +kernel)]; kernel_rfl) | (rw [if_neg (by decide +kernel)]; exact ⟨rfl, rfl⟩))
    (fun os started H enc _ F => by rw [OpenClaim.pre_eq_preRow]; exact lifted os started H enc F)
theorem plain (f : FuncId) (fn : Func) (hf : Tryd.pinned.checked.prog.funcNamed "kiln/kilnlaw18.RootWrites" = some f) (hfn : Tryd.pinned.checked.prog.funcs[f]? = some fn) :
    false = Tryd.pinned.checked.prog.looks [] ∧ ∀ (j : Nat) t, fn.params[j]? = some t → Tryd.pinned.checked.prog.wantsStandIn t = false := by
  obtain rfl : f = 4 := Option.some.inj ((show Tryd.prog.funcNamed "kiln/kilnlaw18.RootWrites" = some 4 by kernel_rfl).symm.trans hf) |>.symm
  obtain rfl : fn = Tryd.f4 := (Option.some.inj (Tryd.func4.symm.trans hfn)).symm
  refine ⟨by kernel_rfl, fun j t ht => ?_⟩
  rw [Tryd.params4] at ht
  have hm : t ∈ [3, 27, 3] := by simpa using Array.mem_of_getElem? ht
  have hall : ([3, 27, 3].all fun u => !Tryd.prog.wantsStandIn u) = true := by kernel_rfl
  exact (show Tryd.prog.wantsStandIn t = false by simpa using List.all_eq_true.1 hall t hm)
set_option maxRecDepth 100000 in
theorem card : Rows.RootWritesCardSaid :=
  Claim7.holds_tied_plain_at .later [] _ _ _ _ said (fun _ h => by cases h) (by kernel_rfl) (fun _ h => by cases h) rootWrites_row_tie rfl ⟨rfl, rfl⟩ (by kernel_rfl) rfl plain (by kernel_rfl)
#print axioms card
end Go.Proofs.YtaflofcnjakaaaaDoor.rootWrites
namespace Go.Proofs.YtaflofcnjakaaaaDoor
theorem rootWrites_card_holds : Rows.RootWritesCardSaid := rootWrites.card
end Go.Proofs.YtaflofcnjakaaaaDoor
