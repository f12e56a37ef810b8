/- JournalLast: records up to 2^40, and none behind it. No condition beyond the statement's own. -/
import Derived.Test.YtagodmmpkapgnaaDoorPzZ2
import Derived.Test.YtagodmmpkapgnaaDoorCards
import Derived.Test.YtagodmmpkapgnaaDoorTie
import Derived.WalkKit
import Derived.ProofKit
import Derived.OpenShut
import Derived.ShutString
import Derived.ChangeOld
import Derived.Below
import Derived.SizedLaws
import Derived.Deep.DeepHandedRow
import Derived.Lib.LaidTab
namespace Go.Proofs.YtagodmmpkapgnaaDoor.M
open Go.RowKit Go.Maps Go.Proofs.YtagodmmpkapgnaaDoorW.PrintWords Go.Proofs.YtagodmmpkapgnaaDoorW.PrintLast Go.Proofs.YtagodmmpkapgnaaDoorW.PrintMore Go.Proofs.YtagodmmpkapgnaaDoor.Wr Go.Proofs.YtagodmmpkapgnaaDoor.Pl Go.Proofs.YtagodmmpkapgnaaDoor.P Go.Proofs.YtagodmmpkapgnaaDoor.A
set_option linter.unusedVariables false
set_option linter.unusedSimpArgs false
theorem roomE_zero {n st nx : Int} (h1 : nx ≤ 1099511627776) (h2 : nx - st < n) : roomE n st nx = 0 := by unfold roomE; rw [if_neg (by omega), if_neg (by omega)]
theorem roomE_last {n st nx : Int} (h1 : 1099511627776 < nx) : roomE n st nx = 171 := by unfold roomE; rw [if_pos h1]
set_option maxHeartbeats 16000000 in
set_option maxRecDepth 100000 in
theorem lastFull35 (n : Nat) (h1 : 1 ≤ n) (h9 : n ≤ 9) (w : World) (hH : Wr.Half w) : Calls Tryd.prog 35 #[.int .i64 (n : Int)] w fun e w' => e = .returned (.bool true) ∧ Below w.heap.size w w' := by
  obtain ⟨st, hst⟩ : ∃ st : Nat, (st : Int) = 1099511627776 - (n : Int) + 1 := ⟨(1099511627776 - (n : Int) + 1).toNat, by omega⟩
  have HS0 := Aside0.mk (Sep.refl w)
  have HH := Aside0.mk hH
  have HST := Aside0.mk hst
  have HN9 := Aside0.mk (And.intro h1 h9)
  have HNW := Aside0.mk (fun (W : World) (h : Sep w W []) => (show Calls Tryd.prog 29 #[.int .i64 24] W (fun e w' => ∃ g, e = .returned (.tuple #[.pointer (some ⟨g, 0, none⟩), .int .i64 0]) ∧ Sep w w' [dkT g toD1]) from h.new 24 (by decide) (by decide)))
  have HJ := Aside0.mk (JAt.fresh 24 2 n (fun x => madeC (x : Int) 1) st h1 (by omega))
  have HOP := Aside0.mk (fun (W : World) (g : Nat) (h : Sep w W (dkT g toD1 :: [])) => (show Calls Tryd.prog 30 #[.pointer (some ⟨g, 0, none⟩), .int .i64 2, .int .i64 (n : Int), .int .i64 (1099511627776 - (n : Int) + 1)] W (fun e w' => ∃ gj A c, e = .returned (.tuple #[.pointer (some ⟨gj, 0, none⟩), .slice A 0 c, .int .i64 0]) ∧ Sep w w' (cellsT gj (jC g 2 n st st) 134 :: dkT g (toD1.rdN 1) :: [])) from by
    rw [← hst]
    exact h.opens_none hH HJ.out.bytes 2 n st h1 (by omega) (show 2 + n ≤ 24 by omega) (by omega) (by have h := HJ.out.rep st (Nat.le_refl _) (Nat.le_refl _) (by omega); rw [Nat.sub_self] at h; exact h)))
  have HMD := Aside0.mk (fun (W : World) => (show Calls Tryd.prog 31 #[.int .i64 1] W (fun e w' => ∃ A c, e = .returned (.tuple #[.agg (nums .u8 (madeK 1)).toArray, .slice A 2 c]) ∧ Sep W w' [ownT kRF 69 (.slice A 2 c) (madeL 1 2)]) from made31 1 (by decide) W))
  have hz := (zero_of_info (P := Tryd.prog) (t := 23) (v := .agg (nums .u8 (List.replicate 32 0)).toArray) (n := 32) (by kernel_rfl)).1
  have HKV := Aside0.mk (show (nums .u8 (List.replicate 32 0)).toArray.size = (nums .u8 (madeK 1)).toArray.size from by simp [nums_length, madeK_len])
  have HKA := Aside0.mk (nums_all (madeK 1))
  have HSK := Aside0.mk (show (Tryd.prog.info? 23).map (·.size) = some (nums .u8 (madeK 1)).toArray.size from size23 (by simp [nums_length, madeK_len]))
  have HRF := Aside0.mk (show refsM (madeL 1 2) = true from madeC_refs 1)
  have HRO := Aside0.mk (fun (m : Int) => (show (⟨m, madeK 1, madeL 1 2⟩ : RC).Ok from madeC_ok m 1))
  have HADD := Aside0.mk (fun (W : World) (L : List Th) (gj gd : Nat) (nx : Int) (A : Option Addr) (c : Nat) (h : Sep w W (cellsT gj (jC gd 2 n st nx) 134 :: L)) (h2 : 0 ≤ nx) (h3 : nx ≤ 1099511627776) (h4 : nx - st < n) (hC : kRF.C W A 2 (madeL 1 2)) => h.add_yes (by omega) (by omega) h2 (by omega) (madeK 1) (madeK_len 1) (madeL 1 2) 2 rfl A c hC (madeC_refs 1) (roomE_zero h3 h4))
  have HADF := Aside0.mk (fun (W : World) (L : List Th) (gj gd : Nat) (A : Option Addr) (c : Nat) (h : Sep w W (cellsT gj (jC gd 2 n st ((st + n : Nat) : Int)) 134 :: L)) (hC : kRF.C W A 2 (madeL 1 2)) => h.add_full (by omega) (by omega) (by omega) (by omega) (madeK 1) (madeK_len 1) (madeL 1 2) 2 rfl A c hC (madeC_refs 1) 171 (roomE_last (by omega)) (by decide))
  have HSTF := Aside0.mk (fun (W : World) (L : List Th) (gj gd gw : Nat) (h : Sep w W (wT gw (newW gj (madeK 1) (madeL 1 2)) :: cellsT gj (jC gd 2 n st ((st + n : Nat) : Int)) 134 :: L)) => h.step_full (by omega) (by omega) (by omega) (by omega) 171 (roomE_last (by omega)) (by decide))
  have HSTY := Aside0.mk (fun (W : World) (L : List Th) (gj gd gw : Nat) (nx : Nat) (s : DS) (h : Sep w W (wT gw (newW gj (madeK 1) (madeL 1 2)) :: cellsT gj (jC gd 2 n st nx) 134 :: dkT gd s :: L)) (h3 : (nx : Int) ≤ 1099511627776) (h4 : (nx : Int) - st < n) (hn : s.n = 24) (hc : s.c = 0) => (show Calls Tryd.prog 33 #[.pointer (some ⟨gw, 0, none⟩)] W (fun e w' => e = .returned (.tuple #[.bool false, .int .i64 0]) ∧ Sep w w' (wT gw (wrW gj (madeK 1) (madeL 1 2) nx) :: cellsT gj (jC gd 2 n st ((nx + 1 : Nat) : Int)) 134 :: dkT gd (s.put (2 + nx % n) (encJ (madeC nx 1))) :: L)) from Sep.step1 (fr := 2) (n := n) (st := st) (nx := nx) h hH (madeC_ok nx 1) (madeC_refs 1) (by omega) (by omega) (roomE_zero h3 h4) h1 (by omega) (by omega)))
  have HFU := Aside0.mk (fun (W : World) (gj gd : Nat) (h : W.heap[gj]? = some (.cells (jC gd 2 n st ((st + n : Nat) : Int)) 134 (0, 0))) => (show Calls Tryd.prog 46 #[.pointer (some ⟨gj, 0, none⟩)] W (fun e w' => e = .returned (.bool true) ∧ Below W.heap.size W w') from by
    have h2 := full_calls h (by omega) (by omega) (by omega) (by omega)
    rwa [decide_eq_true (show (n : Int) ≤ ((st + n : Nat) : Int) - (st : Int) by omega)] at h2))
  have hn1 : (1 : Int) ≤ (n : Int) := by omega
  have hn9 : (n : Int) ≤ 9 := by omega
  generalize (nums .u8 (List.replicate 32 0)).toArray = K0 at hz HKV
  clear hH h1 h9 hst
  go_enter Tryd.func35, Tryd.ntmps35
  go_upto_region 7 with (first
    | (go_at_call 29; (with_reducible refine (HNW.out _ HS0.out).mono ?_); rintro e w2 ⟨g, rfl, h2⟩; have HS2 := Aside0.mk h2; clear h2)
    | (go_at_call 30; (with_reducible refine (HOP.out _ _ HS2.out).mono ?_); rintro e w3 ⟨gj, A3, c3, rfl, h3⟩; have HS3 := Aside0.mk h3; clear h3))
  clear HS0 HS2 HNW HOP HJ
  go_upto_region 8 with (first
    | (go_at_call 31; (with_reducible refine (HMD.out _).mono ?_); rintro e w4 ⟨A4, c4, rfl, h4⟩; have HS4 := Aside0.mk (HS3.out.then_ h4); clear h4)
    | ((with_reducible refine gate_store (ty := 23) rfl ?_); refine Sep.store_own rfl 23 _ _ rfl rfl rfl (HS4.out.push_alloc K0 23) HSK.out HKV.out HKA.out ?_; intro w5 h5; have HS5 := Aside0.mk h5; clear h5))
  generalize w4.heap.size = g5 at HS5 ⊢
  clear HS3 HS4 hz HMD
  go_upto_region 11 with (first
    | ((with_reducible refine gate_load (ty := 23) rfl ?_); refine wpList_ldw ?_ 23 _ rfl ⟨g5, 0, none⟩ ?_ _ _ (cells_agg HS5.out) Tryd.underlying23 rfl HSK.out ?_; exact rfl; exact rfl; skip)
    | (go_at_call 32; (with_reducible refine (HADD.out _ _ _ _ _ _ _ HS5.out.up2 (by have := HST.out; omega) (by have := HST.out; have := HN9.out; omega) (by have := HN9.out; omega) HS5.out.up1.own_C.1).mono ?_); rintro e w6 ⟨gl, rfl, h6⟩; have HS6 := Aside0.mk h6; clear h6))
  have HS7 := Aside0.mk (show Sep w w6 (cellsT gj (jC g 2 n st ((st + 0 : Nat) : Int)) 134 :: dkT g (toD1.rdN 1) :: wT gl (newW gj (madeK 1) (madeL 1 2)) :: cellsT g5 (nums .u8 (madeK 1)).toArray 23 :: ownT kRF 69 (.slice A4 2 c4) (madeL 1 2) :: []) from HS6.out.sel 5 [1, 4, 0, 2, 3] _ rfl (by decide) rfl)
  clear HS5 HS6
  go_upto_region 12 with (fail)
  go_loopg [12] n (fun kq v12 wr => ∃ i : Nat, v12 = .int .i64 i ∧ Aside0 (i + kq = n) ∧ Aside0 (∃ s : DS, s.n = 24 ∧ s.c = 0 ∧ Sep w wr (cellsT gj (jC g 2 n st ((st + i : Nat) : Int)) 134 :: dkT g s :: wT gl (newW gj (madeK 1) (madeL 1 2)) :: cellsT g5 (nums .u8 (madeK 1)).toArray 23 :: ownT kRF 69 (.slice A4 2 c4) (madeL 1 2) :: [])))
  case atStart => exact ⟨0, rfl, ⟨by omega⟩, ⟨toD1.rdN 1, rfl, rfl, HS7.out⟩⟩
  case round =>
    obtain ⟨i, rfl, HJ, hS⟩ := hrel
    obtain ⟨s, hsn, hsc, hS⟩ := hS.out
    have HS := Aside0.mk hS
    have HSN := Aside0.mk (And.intro hsn hsc)
    clear hS hsn hsc HS7
    by_cases hi : i < n
    · have t0 : decide (i < n) = true := decide_eq_true hi
      have HI := Aside0.mk hi
      go_wp2_with (first
        | ((with_reducible refine gate_load (ty := 23) rfl ?_); refine wpList_ldw ?_ 23 _ rfl ⟨g5, 0, none⟩ ?_ _ _ (cells_agg HS.out.up3) Tryd.underlying23 rfl HSK.out ?_; exact rfl; exact rfl; skip)
        | (go_at_call 32; (with_reducible refine (HADD.out _ _ _ _ _ _ _ HS.out (by omega) (by have := HST.out; have := HI.out; omega) (by have := HI.out; omega) HS.out.up4.own_C.1).mono ?_); rintro e w7 ⟨gw, rfl, h7⟩; have HSa := Aside0.mk h7; clear h7)
        | (go_at_call 33; (with_reducible refine (HSTY.out _ _ _ _ _ (st + i) _ HSa.out (by have := HST.out; have := HI.out; omega) (by have := HI.out; omega) HSN.out.1 HSN.out.2).mono ?_); rintro e w8 ⟨rfl, h8⟩; have HSb := Aside0.mk h8; clear h8 HSa)
        | (go_at_call 33; (with_reducible refine (Sep.step2 HSb.out).mono ?_); rintro e w9 ⟨rfl, h9⟩; have HSc := Aside0.mk h9; clear h9))
      go_roundg (n - (i + 1))
      case measure => have := HJ.out; have := HI.out; omega
      case rel => exact ⟨i + 1, rfl, ⟨by have := HJ.out; have := HI.out; omega⟩, ⟨(s.put (2 + (st + i) % n) (encJ (madeC ((st + i : Nat) : Int) 1))).flush, HSN.out.1, rfl, HSc.out⟩⟩
    · obtain rfl : i = n := by have := HJ.out; omega
      have t0 : decide (i < i) = false := decide_eq_false (Nat.lt_irrefl i)
      go_wp2_with (first
        | ((with_reducible refine gate_load (ty := 23) rfl ?_); refine wpList_ldw ?_ 23 _ rfl ⟨g5, 0, none⟩ ?_ _ _ (cells_agg HS.out.up3) Tryd.underlying23 rfl HSK.out ?_; exact rfl; exact rfl; skip)
        | (go_at_call 32; (with_reducible refine (HADF.out _ _ _ _ _ _ HS.out HS.out.up4.own_C.1).mono ?_); rintro e w7 ⟨rfl, h7⟩; have HSa := Aside0.mk h7; clear h7)
        | (go_at_call 33; (with_reducible refine (HSTF.out _ _ _ _ _ HSa.out.up2).mono ?_); rintro e w8 ⟨rfl, h8⟩; have HSb := Aside0.mk h8; clear h8 HSa)
        | (go_at_call 46; (with_reducible refine (HFU.out _ _ _ HSb.out.cells.1).mono ?_); rintro e w9 ⟨rfl, hb⟩; have HSc := Aside0.mk (HSb.out.step hb); clear hb))
      go_ret
      exact ⟨rfl, HSc.out.below⟩
end Go.Proofs.YtagodmmpkapgnaaDoor.M

namespace Go.Proofs.YtagodmmpkapgnaaDoor.M
open Go.RowKit Go.Maps Go.Proofs.YtagodmmpkapgnaaDoorW.PrintWords Go.Proofs.YtagodmmpkapgnaaDoorW.PrintLast Go.Proofs.YtagodmmpkapgnaaDoorW.PrintMore Go.Proofs.YtagodmmpkapgnaaDoor.Wr Go.Proofs.YtagodmmpkapgnaaDoor.Pl Go.Proofs.YtagodmmpkapgnaaDoor.P Go.Proofs.YtagodmmpkapgnaaDoor.A
set_option linter.unusedVariables false
set_option linter.unusedSimpArgs false
def rowsJ (R : Nat → RC) (a m : Nat) : List RC := (List.range m).map (fun j => R (a + j))
theorem rowsJ_len (R : Nat → RC) (a m : Nat) : (rowsJ R a m).length = m := by unfold rowsJ; rw [List.length_map, List.length_range]
def readsJ (m n : Nat) : Nat := m + (if m < n then 1 else 0)
theorem Sep.opens_at {w0 w : World} {L : List Th} {g : Nat} {s : DS} {fr n lo hi : Nat} {R : Nat → RC} (h : Sep w0 w (dkT g s :: L)) (hH : Wr.Half w0) (hJ : JAt s fr n R lo hi) (h2 : n ≤ 1024) (a : Nat) (ha : a ≤ 1099511627777) (h3 : lo ≤ a) (h4 : a ≤ hi) (h5 : hi ≤ a + n) :
    Calls Tryd.prog 30 #[.pointer (some ⟨g, 0, none⟩), .int .i64 (fr : Int), .int .i64 (n : Int), .int .i64 (a : Int)] w fun e w' => ∃ gj A c, e = .returned (.tuple #[.pointer (some ⟨gj, 0, none⟩), .slice A (hi - a) c, .int .i64 0]) ∧ Sep w0 w' (cellsT gj (jC g fr n a hi) 134 :: ownT kRC 26 (.slice A (hi - a) c) (rowsJ R a (hi - a)) :: dkT g (s.rdN (readsJ (hi - a) n)) :: L) := by
  refine (h.opens hH hJ.bytes fr n a hJ.n1 h2 hJ.fit ha).mono ?_
  rintro e w' ⟨gj, A, c, l, k, hl, hk, he, hS⟩
  rw [hJ.rep a h3 h4 h5] at hl
  have hm : l.length = hi - a := by rw [hl]; exact rowsJ_len R a (hi - a)
  rw [hm] at he hS hk
  subst hk
  subst hl
  rw [show a + (hi - a) = hi by omega] at hS
  exact ⟨gj, A, c, he, hS⟩
set_option maxHeartbeats 16000000 in
set_option maxRecDepth 100000 in
theorem last6 (arg : Int) (w : World) (hH : Wr.Half w) : Calls Tryd.prog 6 #[.int .i64 arg] w fun e w' => e = .returned (.bool true) ∧ Below w.heap.size w w' := by
  have HPL := Aside0.mk (fun W => place28 arg 9 (by decide) (by decide) W)
  obtain ⟨n, hn9, hn⟩ : ∃ n : Nat, n ≤ 8 ∧ arg % 9 = (n : Int) := ⟨(arg % 9).toNat, by omega, by omega⟩
  rw [hn] at HPL
  clear hn
  obtain ⟨st, hst⟩ : ∃ st : Nat, (st : Int) = 1099511627776 - (n : Int) := ⟨(1099511627776 - (n : Int)).toNat, by omega⟩
  have HS0 := Aside0.mk (Sep.refl w)
  have HH := Aside0.mk hH
  have HST := Aside0.mk hst
  have HN9 := Aside0.mk hn9
  have HTO := Aside0.mk (fun W (hb : Below w.heap.size w W) => told_calls W (hH.below hb))
  have HNW := Aside0.mk (fun (W : World) (h : Sep w W []) => (show Calls Tryd.prog 29 #[.int .i64 24] W (fun e w' => ∃ g, e = .returned (.tuple #[.pointer (some ⟨g, 0, none⟩), .int .i64 0]) ∧ Sep w w' [dkT g toD1]) from h.new 24 (by decide) (by decide)))
  have HJ0 := Aside0.mk (show JAt toD1 2 12 (fun x => madeC (x : Int) 5) st st from JAt.fresh 24 2 12 (fun x => madeC (x : Int) 5) st (by decide) (by decide))
  have HOP := Aside0.mk (fun (W : World) (g : Nat) (h : Sep w W (dkT g toD1 :: [])) => (show Calls Tryd.prog 30 #[.pointer (some ⟨g, 0, none⟩), .int .i64 2, .int .i64 12, .int .i64 (1099511627776 - (n : Int))] W (fun e w' => ∃ gj A c, e = .returned (.tuple #[.pointer (some ⟨gj, 0, none⟩), .slice A 0 c, .int .i64 0]) ∧ Sep w w' (cellsT gj (jC g 2 12 st st) 134 :: dkT g (toD1.rdN 1) :: [])) from by
    rw [← hst]
    exact h.opens_none hH HJ0.out.bytes 2 12 st (by decide) (by decide) (show 2 + 12 ≤ 24 by decide) (by omega) (by have h := HJ0.out.rep st (Nat.le_refl _) (Nat.le_refl _) (by omega); rw [Nat.sub_self] at h; exact h)))
  have HMD := Aside0.mk (fun (W : World) => (show Calls Tryd.prog 31 #[.int .i64 5] W (fun e w' => ∃ A c, e = .returned (.tuple #[.agg (nums .u8 (madeK 5)).toArray, .slice A 6 c]) ∧ Sep W w' [ownT kRF 69 (.slice A 6 c) (madeL 5 6)]) from made31 5 (by decide) W))
  have hz := (zero_of_info (P := Tryd.prog) (t := 23) (v := .agg (nums .u8 (List.replicate 32 0)).toArray) (n := 32) (by kernel_rfl)).1
  have HKV := Aside0.mk (show (nums .u8 (List.replicate 32 0)).toArray.size = (nums .u8 (madeK 5)).toArray.size from by simp [nums_length, madeK_len])
  have HKA := Aside0.mk (nums_all (madeK 5))
  have HSK := Aside0.mk (show (Tryd.prog.info? 23).map (·.size) = some (nums .u8 (madeK 5)).toArray.size from size23 (by simp [nums_length, madeK_len]))
  have HADD := Aside0.mk (fun (W : World) (L : List Th) (gj gd : Nat) (nx : Int) (A : Option Addr) (c : Nat) (h : Sep w W (cellsT gj (jC gd 2 12 st nx) 134 :: L)) (h2 : 0 ≤ nx) (h3 : nx ≤ 1099511627776) (h4 : nx - st < 12) (hC : kRF.C W A 6 (madeL 5 6)) => h.add_yes (by omega) (by omega) h2 (by omega) (madeK 5) (madeK_len 5) (madeL 5 6) 6 rfl A c hC (madeC_refs 5) (roomE_zero h3 h4))
  have HADF := Aside0.mk (fun (W : World) (L : List Th) (gj gd : Nat) (A : Option Addr) (c : Nat) (h : Sep w W (cellsT gj (jC gd 2 12 st ((st + (n + 1) : Nat) : Int)) 134 :: L)) (hC : kRF.C W A 6 (madeL 5 6)) => h.add_full (by omega) (by omega) (by omega) (by omega) (madeK 5) (madeK_len 5) (madeL 5 6) 6 rfl A c hC (madeC_refs 5) 171 (roomE_last (by omega)) (by decide))
  have HADR := Aside0.mk (fun (W : World) (L : List Th) (gj gd : Nat) (h : Sep w W (cellsT gj (jC gd 2 12 st ((st + (n + 1) : Nat) : Int)) 134 :: L)) => h.add_refs (by omega) (by omega) (by omega) (by omega) (madeK 5) (madeK_len 5) [] 0 rfl none 0 ⟨rfl, by decide, fun h => absurd h (Nat.lt_irrefl _)⟩ rfl)
  have HSTF := Aside0.mk (fun (W : World) (L : List Th) (gj gd gw : Nat) (h : Sep w W (wT gw (newW gj (madeK 5) (madeL 5 6)) :: cellsT gj (jC gd 2 12 st ((st + (n + 1) : Nat) : Int)) 134 :: L)) => h.step_full (by omega) (by omega) (by omega) (by omega) 171 (roomE_last (by omega)) (by decide))
  have HSTY := Aside0.mk (fun (W : World) (L : List Th) (gj gd gw : Nat) (nx : Nat) (s : DS) (h : Sep w W (wT gw (newW gj (madeK 5) (madeL 5 6)) :: cellsT gj (jC gd 2 12 st nx) 134 :: dkT gd s :: L)) (h3 : (nx : Int) ≤ 1099511627776) (h4 : (nx : Int) - st < 12) (hn : s.n = 24) (hc : s.c = 0) => (show Calls Tryd.prog 33 #[.pointer (some ⟨gw, 0, none⟩)] W (fun e w' => e = .returned (.tuple #[.bool false, .int .i64 0]) ∧ Sep w w' (wT gw (wrW gj (madeK 5) (madeL 5 6) nx) :: cellsT gj (jC gd 2 12 st ((nx + 1 : Nat) : Int)) 134 :: dkT gd (s.put (2 + nx % 12) (encJ (madeC nx 5))) :: L)) from Sep.step1 (fr := 2) (n := 12) (st := st) (nx := nx) h hH (madeC_ok nx 5) (madeC_refs 5) (by omega) (by omega) (roomE_zero h3 h4) (by decide) (by omega) (by omega)))
  have HO1 := Aside0.mk (fun (W : World) (L : List Th) (g : Nat) (s : DS) (h : Sep w W (dkT g s :: L)) (hJ : JAt s 2 12 (fun x => madeC (x : Int) 5) st (st + (n + 1))) => (show Calls Tryd.prog 30 #[.pointer (some ⟨g, 0, none⟩), .int .i64 2, .int .i64 12, .int .i64 (1099511627776 - (n : Int))] W (fun e w' => ∃ gj A c, e = .returned (.tuple #[.pointer (some ⟨gj, 0, none⟩), .slice A (n + 1) c, .int .i64 0]) ∧ Sep w w' (cellsT gj (jC g 2 12 st 1099511627777) 134 :: dkT g (s.rdN (readsJ (n + 1) 12)) :: L)) from by
    rw [← hst]
    refine (h.opens_at hH hJ (by decide) st (by omega) (Nat.le_refl _) (by omega) (by omega)).mono ?_
    rintro e w' ⟨gj, A, c, he, hS⟩
    rw [show st + (n + 1) - st = n + 1 by omega] at he hS
    refine ⟨gj, A, c, he, ?_⟩
    have h2 := hS.up1.drop
    rw [show ((st + (n + 1) : Nat) : Int) = 1099511627777 by omega] at h2
    exact h2))
  have HO2 := Aside0.mk (fun (W : World) (L : List Th) (g : Nat) (s : DS) (h : Sep w W (dkT g s :: L)) (hJ : JAt s 2 12 (fun x => madeC (x : Int) 5) st (st + (n + 1))) => (show Calls Tryd.prog 30 #[.pointer (some ⟨g, 0, none⟩), .int .i64 2, .int .i64 12, .int .i64 1099511627777] W (fun e w' => ∃ gj A c, e = .returned (.tuple #[.pointer (some ⟨gj, 0, none⟩), .slice A 0 c, .int .i64 0]) ∧ Sep w w' (cellsT gj (jC g 2 12 1099511627777 1099511627777) 134 :: dkT g (s.rdN (readsJ 0 12)) :: L)) from by
    have e0 : (1099511627777 : Nat) = st + (n + 1) := by omega
    refine (h.opens_at hH hJ (by decide) 1099511627777 (by decide) (by omega) (by omega) (by omega)).mono ?_
    rintro e w' ⟨gj, A, c, he, hS⟩
    rw [show st + (n + 1) - 1099511627777 = 0 by omega] at he hS
    refine ⟨gj, A, c, he, ?_⟩
    have h2 := hS.up1.drop
    rw [show ((st + (n + 1) : Nat) : Int) = 1099511627777 by omega] at h2
    exact h2))
  have HO3 := Aside0.mk (fun (W : World) (L : List Th) (g : Nat) (s : DS) (h : Sep w W (dkT g s :: L)) => opens_of (.pointer (some ⟨g, 0, none⟩)) 2 12 1099511627778 W (h.replay_no 2 12 1099511627778 (fun hx => absurd hx.2.2.2.2.2 (by decide))))
  have HNX := Aside0.mk (fun (W : World) (L : List Th) (gj g0 : Nat) (h : Sep w W (cellsT gj (jC g0 2 12 st ((st + (n + 1) : Nat) : Int)) 134 :: L)) => (show Calls Tryd.prog 34 #[.pointer (some ⟨gj, 0, none⟩)] W (fun e w' => e = .returned (.int .i64 1099511627777) ∧ Below W.heap.size W w') from by
    have h2 := next_calls h.cells.1
    rwa [show ((st + (n + 1) : Nat) : Int) = 1099511627777 by omega] at h2))
  have HLF := Aside0.mk (fun (W : World) (hb : Below w.heap.size w W) => (show Calls Tryd.prog 35 #[.int .i64 ((n : Int) + 1)] W (fun e w' => e = .returned (.bool true) ∧ Below W.heap.size W w') from lastFull35 (n + 1) (by omega) (by omega) W (hH.below hb)))
  have hn8 : (n : Int) ≤ 8 := by omega
  have hn0 : (0 : Int) ≤ (n : Int) := by omega
  generalize (nums .u8 (List.replicate 32 0)).toArray = K0 at hz HKV
  clear hH hn9 hst
  go_enter Tryd.func6, Tryd.ntmps6
  go_upto_region 9 with (first
    | (go_at_call 28; (with_reducible refine (HPL.out _).mono ?_); rintro e w1 ⟨rfl, hb⟩; have HS1 := Aside0.mk (HS0.out.step hb); clear hb)
    | (go_at_call 29; (with_reducible refine (HNW.out _ HS1.out).mono ?_); rintro e w2 ⟨g, rfl, h2⟩; have HS2 := Aside0.mk h2; clear h2)
    | (go_at_call 14; (with_reducible refine (HTO.out _ HS2.out.below).mono ?_); rintro e w2b ⟨rfl, hb⟩; have HS2b := Aside0.mk (HS2.out.step hb); clear hb)
    | (go_at_call 30; (with_reducible refine (HOP.out _ _ HS2b.out).mono ?_); rintro e w3 ⟨gj, A3, c3, rfl, h3⟩; have HS3 := Aside0.mk h3; clear h3))
  clear HS0 HS1 HS2 HS2b HNW HOP HTO HPL
  go_upto_region 10 with (first
    | (go_at_call 31; (with_reducible refine (HMD.out _).mono ?_); rintro e w4 ⟨A4, c4, rfl, h4⟩; have HS4 := Aside0.mk (HS3.out.then_ h4); clear h4)
    | ((with_reducible refine gate_store (ty := 23) rfl ?_); refine Sep.store_own rfl 23 _ _ rfl rfl rfl (HS4.out.push_alloc K0 23) HSK.out HKV.out HKA.out ?_; intro w5 h5; have HS5 := Aside0.mk h5; clear h5))
  generalize w4.heap.size = g5 at HS5 ⊢
  clear HS3 HS4 hz HMD
  go_upto_region 13 with (first
    | ((with_reducible refine gate_load (ty := 23) rfl ?_); refine wpList_ldw ?_ 23 _ rfl ⟨g5, 0, none⟩ ?_ _ _ (cells_agg HS5.out) Tryd.underlying23 rfl HSK.out ?_; exact rfl; exact rfl; skip)
    | (go_at_call 32; (with_reducible refine (HADD.out _ _ _ _ _ _ _ HS5.out.up2 (by have := HST.out; omega) (by have := HST.out; have := HN9.out; omega) (by have := HN9.out; omega) HS5.out.up1.own_C.1).mono ?_); rintro e w6 ⟨gl, rfl, h6⟩; have HS6 := Aside0.mk h6; clear h6))
  have HS7 := Aside0.mk (show Sep w w6 (cellsT gj (jC g 2 12 st ((st + 0 : Nat) : Int)) 134 :: dkT g (toD1.rdN 1) :: wT gl (newW gj (madeK 5) (madeL 5 6)) :: cellsT g5 (nums .u8 (madeK 5)).toArray 23 :: ownT kRF 69 (.slice A4 6 c4) (madeL 5 6) :: []) from HS6.out.sel 5 [1, 4, 0, 2, 3] _ rfl (by decide) rfl)
  clear HS5 HS6
  go_upto_region 14 with (fail)
  go_loopg [13] (n + 1) (fun kq v13 wr => ∃ i : Nat, v13 = .int .i64 i ∧ Aside0 (i + kq = n + 1) ∧ Aside0 (∃ s : DS, (s.n = 24 ∧ s.c = 0 ∧ JAt s 2 12 (fun x => madeC (x : Int) 5) st (st + i)) ∧ Sep w wr (cellsT gj (jC g 2 12 st ((st + i : Nat) : Int)) 134 :: dkT g s :: wT gl (newW gj (madeK 5) (madeL 5 6)) :: cellsT g5 (nums .u8 (madeK 5)).toArray 23 :: ownT kRF 69 (.slice A4 6 c4) (madeL 5 6) :: [])))
  case atStart => exact ⟨0, rfl, ⟨by omega⟩, ⟨toD1.rdN 1, ⟨rfl, rfl, HJ0.out.rd 1⟩, HS7.out⟩⟩
  case round =>
    obtain ⟨i, rfl, HJ, hS⟩ := hrel
    obtain ⟨s, hsn, hS⟩ := hS.out
    have HS := Aside0.mk hS
    have HSN := Aside0.mk hsn
    clear hS hsn HS7
    by_cases hi : i ≤ n
    · have t0 : decide (i ≤ n) = true := decide_eq_true hi
      have HI := Aside0.mk hi
      go_wp2_with (first
        | ((with_reducible refine gate_load (ty := 23) rfl ?_); refine wpList_ldw ?_ 23 _ rfl ⟨g5, 0, none⟩ ?_ _ _ (cells_agg HS.out.up3) Tryd.underlying23 rfl HSK.out ?_; exact rfl; exact rfl; skip)
        | (go_at_call 32; (with_reducible refine (HADD.out _ _ _ _ _ _ _ HS.out (by omega) (by have := HST.out; have := HI.out; omega) (by have := HI.out; have := HN9.out; omega) HS.out.up4.own_C.1).mono ?_); rintro e w7 ⟨gw, rfl, h7⟩; have HSa := Aside0.mk h7; clear h7)
        | (go_at_call 33; (with_reducible refine (HSTY.out _ _ _ _ _ (st + i) _ HSa.out (by have := HST.out; have := HI.out; omega) (by have := HI.out; have := HN9.out; omega) HSN.out.1 HSN.out.2.1).mono ?_); rintro e w8 ⟨rfl, h8⟩; have HSb := Aside0.mk h8; clear h8 HSa)
        | (go_at_call 33; (with_reducible refine (Sep.step2 HSb.out).mono ?_); rintro e w9 ⟨rfl, h9⟩; have HSc := Aside0.mk h9; clear h9))
      go_roundg (n + 1 - (i + 1))
      case measure => have := HJ.out; have := HI.out; omega
      case rel => exact ⟨i + 1, rfl, ⟨by have := HJ.out; have := HI.out; omega⟩, ⟨(s.put (2 + (st + i) % 12) (encJ (madeC ((st + i : Nat) : Int) 5))).flush, ⟨HSN.out.1, rfl, (HSN.out.2.2.put (by omega) (madeC_ok _ 5) (madeC_may _ 5 (by omega) (by have := HST.out; have := HI.out; omega)) rfl).flush⟩, HSc.out⟩⟩
    · obtain rfl : i = n + 1 := by have := HJ.out; omega
      have t0 : decide (n + 1 ≤ n) = false := decide_eq_false (by omega)
      go_upto_region 25 with (first
        | ((with_reducible refine gate_load (ty := 23) rfl ?_); refine wpList_ldw ?_ 23 _ rfl ⟨g5, 0, none⟩ ?_ _ _ (cells_agg HS.out.up3) Tryd.underlying23 rfl HSK.out ?_; exact rfl; exact rfl; skip)
        | (go_at_call 32; (with_reducible refine (HADF.out _ _ _ _ _ _ HS.out HS.out.up4.own_C.1).mono ?_); rintro e w7 ⟨rfl, h7⟩; have HSa := Aside0.mk h7; clear h7)
        | (go_at_call 33; (with_reducible refine (HSTF.out _ _ _ _ _ HSa.out.up2).mono ?_); rintro e w8 ⟨rfl, h8⟩; have HSb := Aside0.mk h8; clear h8 HSa)
        | (go_at_call 34; (with_reducible refine (HNX.out _ _ _ _ HSb.out).mono ?_); rintro e w9 ⟨rfl, hb⟩; have HSc := Aside0.mk (HSb.out.step hb); clear hb))
      go_upto_region 26 with (first
        | ((with_reducible refine gate_load (ty := 23) rfl ?_); refine wpList_ldw ?_ 23 _ rfl ⟨g5, 0, none⟩ ?_ _ _ (cells_agg HSc.out.up2) Tryd.underlying23 rfl HSK.out ?_; exact rfl; exact rfl; skip)
        | (go_at_call 32; (with_reducible refine (HADR.out _ _ _ _ HSc.out).mono ?_); rintro e wa ⟨rfl, ha⟩; have HSd := Aside0.mk ha; clear ha))
      go_upto_region 29 with (first
        | (go_at_call 30; (with_reducible refine (HO1.out _ _ _ _ HSd.out.up1 HSN.out.2.2).mono ?_); rintro e wb ⟨gk, Ab, cb, rfl, hb⟩; have HSe := Aside0.mk hb; clear hb)
        | (go_at_call 30; (with_reducible refine (HO2.out _ _ _ _ HSe.out.up1 (HSN.out.2.2.rd _)).mono ?_); rintro e wc ⟨go, Ac, cc, rfl, hc⟩; have HSf := Aside0.mk hc; clear hc)
        | (go_at_call 30; (with_reducible refine (HO3.out _ _ _ _ HSf.out.up1).mono ?_); rintro e wd ⟨rfl, hd⟩; have HSg := Aside0.mk (HSf.out.step hd); clear hd))
      clear HSb HSc HSd HSe HSf
      go_wp2_with (first
        | (go_at_call 34; (with_reducible refine (next_calls HSg.out.up2.cells.1).mono ?_); rintro e we ⟨rfl, hb⟩; have HSh := Aside0.mk (HSg.out.step hb); clear hb)
        | (go_at_call 34; (with_reducible refine (next_calls HSh.out.cells.1).mono ?_); rintro e wf ⟨rfl, hb⟩; have HSi := Aside0.mk (HSh.out.step hb); clear hb)
        | (go_at_call 35; (with_reducible refine (HLF.out _ HSi.out.below).mono ?_); rintro e wg ⟨rfl, hb⟩; have HSj := Aside0.mk (HSi.out.step hb); clear hb))
      go_ret
      exact ⟨rfl, HSj.out.below⟩
theorem journalLast_pure (a : Int) (hb : (Lit.int .i64 a).wf = true) : ∃ k : Nat, true = true := ⟨0, rfl⟩
theorem journalLast_row (k : Nat) (a : Int) (r : Bool) (w : World) (hG : Wr.Half w) (h : r = true) :
    Calls Tryd.prog 6 #[.int .i64 a] w fun e w' => e = .returned (.bool r) ∧ Below w.heap.size w w' := by
  subst h
  exact last6 a w hG
end Go.Proofs.YtagodmmpkapgnaaDoor.M

namespace Go.Proofs.YtagodmmpkapgnaaDoor.journalLast
open Go.ChangeShapes Go.WideShapes Go.ChangeAt Go.RowKit Go.Proofs.YtagodmmpkapgnaaDoorW.PrintWords Go.Proofs.YtagodmmpkapgnaaDoorW.PrintLast Go.Proofs.YtagodmmpkapgnaaDoorW.PrintMore Go.Proofs.YtagodmmpkapgnaaDoor.P Go.Proofs.YtagodmmpkapgnaaDoor.M Go.Proofs.YtagodmmpkapgnaaDoor.Wr Go.Proofs.YtagodmmpkapgnaaDoor.Pl Go.Proofs.YtagodmmpkapgnaaDoor.A
set_option linter.unusedVariables false
theorem own : ownKnob Tryd.prog.godebug = none := by kernel_rfl
theorem laidOut : laidOutB Tryd.prog = true := by kernel_rfl
theorem gTab : Tryd.prog.globalNamed "kiln/wire.half" = some 0 := by kernel_rfl
theorem gTabType : (Tryd.prog.globals[0]?).map (·.type) = some 165 := by kernel_rfl
theorem cellsTab : Tryd.prog.cellsOf 165 = 16 := by kernel_rfl
theorem cells124 : Tryd.prog.cellsOf 124 = 1 := by kernel_rfl
theorem half_of {W : World} (h : laidMetH Tryd.prog Rows.journalLastRow.laid W) : Wr.Half W := by
  have t : Lib.TabIs Tryd.prog W "kiln/wire.half" .u32 [0, 498536548, 997073096, 651767980, 1994146192, 1802195444, 1303535960, 1342533948, 3988292384, 4027552580, 3604390888, 3412177804, 2607071920, 2262029012, 2685067896, 3183342108] := Lib.tabIs_of_head (rest := []) gTab gTabType Tryd.underlying165 Tryd.underlying124 cells124 cellsTab h
  intro i hi
  have hc := t.cell gTab i (by simpa using hi)
  have e : ∀ j : Fin 16, ([0, 498536548, 997073096, 651767980, 1994146192, 1802195444, 1303535960, 1342533948, 3988292384, 4027552580, 3604390888, 3412177804, 2607071920, 2262029012, 2685067896, 3183342108] : List Int)[j.1]? = some ((halfL.getD j.1 0 : Nat) : Int) := by decide
  have e2 := e ⟨i, hi⟩
  first
  | (rw [List.getD_eq_getElem?_getD, e2] at hc; exact hc)
  | (rw [List.getElem?_eq_some_iff] at e2; obtain ⟨_, e3⟩ := e2; rw [e3] at hc; exact hc)
def IsRow (k : IntKind) (w : World) (a : Option Addr) (len cap : Nat) (zs : List Int) : Prop :=
  (a = none ∧ len = 0 ∧ cap = 0 ∧ zs = []) ∨
  ∃ x, a = some x ∧ len ≤ cap ∧ cap ≤ maxLen ∧ zs.length = cap ∧ (∀ i, i < zs.length → w.cell? (x.add i) = some (.int k (zs.getD i 0))) ∧ ∀ n ∈ zs, (Lit.int k n).wf = true
set_option maxRecDepth 100000 in
theorem contract (H : Type) (enc : TypeId × Value → H) (W : World) (base : Nat) (args : Array Value) (ds gs : List (DataW H)) (before : List MemPlace)
    (hval : ∀ (j : Nat) t v, Tryd.f6.params[j]? = some t → args[j]? = some v → Value.okWide Tryd.prog W .any base t v)
    (hW : DataW.Whole enc Tryd.prog Tryd.f6.params.toList Rows.journalLastSpec.vars false W args.toList ds gs before)
    (hsz0 : (DataW.weightsEach Tryd.prog (Tryd.f6.params.toList ++ Rows.journalLastSpec.plain.varTypes Tryd.prog) (ds ++ gs)).all (· ≤ reachBytes) = true)
    (hL : laidMetH Tryd.prog Rows.journalLastRow.laid W) :
    Calls Tryd.prog 6 args W fun e W' => ∃ v, e = .returned v ∧ Rows.journalLastSpec.post enc Tryd.prog Tryd.f6 false true false false W args v W' := by
  have hG := half_of hL
  have hW' := hW
  have hsz : (DataW.weightsEach Tryd.prog (Tryd.f6.params.toList ++ Rows.journalLastSpec.plain.varTypes Tryd.prog) (ds ++ gs)).all (· ≤ reachBytes) = true := hsz0
  obtain ⟨p, q, hA0, hV, rfl, hfz, hnd⟩ := hW
  have hA : DataW.TrodAll enc Tryd.prog W 0 (fun _ => true) true Tryd.f6.params.toList args.toList ds p := hA0
  rw [Tryd.params6] at hA hval hsz
  obtain ⟨v0, vs0, d0, ds0, p0, q0, hargs, rfl, rfl, h0, r0⟩ := trodAll_cons hA
  obtain ⟨rfl, rfl, rfl⟩ := trodAll_nil r0
  obtain rfl : args = #[v0] := by cases args; simp_all
  obtain ⟨rfl, rfl⟩ := trodVars_none hV
  obtain ⟨a0, rfl, rfl, rfl, w0⟩ := open_int Tryd.underlying3 (hval 0 3 v0 rfl rfl) h0
  clear hA0 hsz0 hsz
  obtain ⟨k, h⟩ := M.journalLast_pure a0 w0
  refine (M.journalLast_row k a0 true W  hG h).mono ?_
  rintro e W' ⟨rfl, bel⟩
  exact ⟨_, rfl, _, _, _, [], _, [], hW', trodAll_mk1 (shut_bool Tryd.underlying4 _), (trodAll_cons_mk (shut_int Tryd.underlying3 w0) trodAll_mk0), rfl, bel.frame _, fun h => by cases h⟩
noncomputable def laidWorld (os : Os) : World :=
  { World.holding Tryd.prog os ⟨#[], #[], []⟩ with heap := (World.holding Tryd.prog os ⟨#[], #[], []⟩).heap.modify 0 fun
      | .cells _ t frozen => .cells #[.int .u32 0, .int .u32 498536548, .int .u32 997073096, .int .u32 651767980, .int .u32 1994146192, .int .u32 1802195444, .int .u32 1303535960, .int .u32 1342533948, .int .u32 3988292384, .int .u32 4027552580, .int .u32 3604390888, .int .u32 3412177804, .int .u32 2607071920, .int .u32 2262029012, .int .u32 2685067896, .int .u32 3183342108] t frozen
      | o => o }
set_option maxRecDepth 100000 in
theorem laid_met (os : Os) : laidMet Tryd.prog Rows.journalLastRow.laid ((laidWorld os).forCall (fun _ _ => 0) ⟨#[], #[.int .i64 0], []⟩).memory :=
  laidMet_of_run' 8 (by kernel_rfl) (by kernel_rfl)
set_option maxRecDepth 100000 in
theorem reads (os : Os) {H : Type} (enc : TypeId × Value → H) : ∃ places, DataW.whole enc Tryd.prog ((laidWorld os).forCall (fun _ _ => 0) ⟨#[], #[.int .i64 0], []⟩).memory Tryd.f6.params.toList Rows.journalLastSpec.vars false (#[.int .i64 0] : Array Value).toList 8 = some ([.lit (.int .i64 0)], [], places) :=
  ⟨[], by kernel_rfl⟩
set_option maxRecDepth 100000 in
theorem lifted (os : Os) (started : os.Started) (H : Type) (enc : TypeId × Value → H) (F : Stop.Interp) :
    ReturnsInHanded {} Tryd.checked os 6 .any ((OpenSpec.ofChange Rows.journalLastSpec).preRow enc Tryd.prog Tryd.f6 Rows.journalLastRow.domain false Rows.journalLastRow.laid) (((OpenSpec.ofChange Rows.journalLastSpec).at F).post enc Tryd.prog Tryd.f6 false true false false) := by
  obtain ⟨places, hx⟩ := reads os enc
  refine returnsInHanded_of_row (C := Tryd.checked) (s := OpenSpec.ofChange Rows.journalLastSpec) own started (by kernel_rfl) Tryd.func6
    (witness_row_at (enc := enc) (C := Tryd.checked) false (laidWorld os) #[.int .i64 0] rfl (by kernel_rfl) (by kernel_rfl) (by kernel_rfl)
      (OpenSpec.preRow_of_cond 8 hx (by kernel_rfl) (fun k hk => by cases hk) (by kernel_rfl) (laid_met os))) ?_
  intro W base args ds gs before hval hW _ hcond hsz hL _ _
  exact contract H enc W base args ds gs before hval hW hsz hL
set_option maxRecDepth 100000 in
theorem said : Rows.JournalLastSaid :=
  OpenClaim.holds_of_cond 6 Tryd.f6 rfl rfl rfl rfl rfl rfl rfl ⟨rfl, rfl, rfl, rfl, rfl⟩ rfl rfl rfl rfl rfl (by kernel_rfl) Tryd.func6 (by kernel_rfl)
    (of_decide_eq_true (by kernel_rfl)) (by unfold Func.isWrapper; first | (rw [if_pos (by decide +kernel)]; kernel_rfl) | (rw [if_neg (by decide +kernel)]; exact ⟨rfl, rfl⟩))
    (fun os started H enc _ F => by rw [OpenClaim.pre_eq_preRow]; exact lifted os started H enc F)
theorem plain (f : FuncId) (fn : Func) (hf : Tryd.pinned.checked.prog.funcNamed "kiln/kilnlaw17.JournalLast" = some f) (hfn : Tryd.pinned.checked.prog.funcs[f]? = some fn) :
    false = Tryd.pinned.checked.prog.looks [] ∧ ∀ (j : Nat) t, fn.params[j]? = some t → Tryd.pinned.checked.prog.wantsStandIn t = false := by
  obtain rfl : f = 6 := Option.some.inj ((show Tryd.prog.funcNamed "kiln/kilnlaw17.JournalLast" = some 6 by kernel_rfl).symm.trans hf) |>.symm
  obtain rfl : fn = Tryd.f6 := (Option.some.inj (Tryd.func6.symm.trans hfn)).symm
  refine ⟨by kernel_rfl, fun j t ht => ?_⟩
  rw [Tryd.params6] at ht
  have hm : t ∈ [3] := by simpa using Array.mem_of_getElem? ht
  have hall : ([3].all fun u => !Tryd.prog.wantsStandIn u) = true := by kernel_rfl
  exact (show Tryd.prog.wantsStandIn t = false by simpa using List.all_eq_true.1 hall t hm)
set_option maxRecDepth 100000 in
theorem card : Rows.JournalLastCardSaid :=
  Claim7.holds_tied_plain_at .later [] _ _ _ _ said (fun _ h => by cases h) (by kernel_rfl) (fun _ h => by cases h) journalLast_row_tie rfl ⟨rfl, rfl⟩ (by kernel_rfl) rfl plain (by kernel_rfl)
#print axioms card
end Go.Proofs.YtagodmmpkapgnaaDoor.journalLast
namespace Go.Proofs.YtagodmmpkapgnaaDoor
theorem journalLast_card_holds : Rows.JournalLastCardSaid := journalLast.card
end Go.Proofs.YtagodmmpkapgnaaDoor
