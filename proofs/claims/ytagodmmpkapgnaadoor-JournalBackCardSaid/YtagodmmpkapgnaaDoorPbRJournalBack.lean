/- JournalBack: what Encode writes Decode reads, what Decode reads Encode writes just so, and a bit turned over, or a byte more or less, is told. No condition beyond the statement's own. -/
import Derived.Test.YtagodmmpkapgnaaDoorPbZ2
import Derived.Test.YtagodmmpkapgnaaDoorRows
import Derived.ChangeSlices
import Derived.SizedLaws
import Derived.ChangeArms
import Derived.OpenShut
import Derived.WideShapes
import Derived.Test.YtagodmmpkapgnaaDoorCards
import Derived.Test.YtagodmmpkapgnaaDoorTie
import Derived.WalkKit
import Derived.ProofKit
import Derived.ShutString
import Derived.ChangeOld
import Derived.Below
import Derived.Deep.DeepHandedRow
import Derived.Lib.LaidTab
namespace Go.Proofs.YtagodmmpkapgnaaDoor.M
open Go.RowKit Go.Maps Go.Proofs.YtagodmmpkapgnaaDoorW.PrintWords Go.Proofs.YtagodmmpkapgnaaDoorW.PrintLast Go.Proofs.YtagodmmpkapgnaaDoorW.PrintMore Go.Proofs.YtagodmmpkapgnaaDoor.Wr Go.Proofs.YtagodmmpkapgnaaDoor.Pl Go.Proofs.YtagodmmpkapgnaaDoor.P Go.Proofs.YtagodmmpkapgnaaDoor.A
set_option linter.unusedVariables false
set_option linter.unusedSimpArgs false
open Go.Proofs.YtagodmmpkapgnaaDoor.Crc
set_option maxRecDepth 100000 in
theorem built23z : Tryd.prog.built 23 [] = some (nums .u8 (List.replicate 32 0)).toArray := by kernel_rfl
theorem flip_set {b : List Int} (q k : Nat) (hq : q < b.length) (hk : k < 8) : b.set q (xorI (b.getD q 0) (2 ^ k)) = flip1 b ((8 * q + k : Nat) : Int) := by
  unfold flip1
  rw [if_pos (by omega), Int.toNat_natCast, show (8 * q + k) / 8 = q by omega, show (8 * q + k) % 8 = k by omega]
theorem own_form {w0 w : World} {L : List Th} {v : Value} {xs : List Int} (h : Sep w0 w (ownT (Kd.int .u8) 5 v xs :: L)) (hp : 0 < xs.length) : ∃ g c, v = .slice (some ⟨g, 0, none⟩) xs.length c := by
  obtain ⟨base, ok, hr⟩ := h.own
  obtain ⟨g, c, e, _⟩ := Kd.R_form hr hp
  exact ⟨g, c, e⟩
set_option maxHeartbeats 16000000 in
set_option maxRecDepth 100000 in
theorem back_calls (s : RC) (hs : s.Ok) (A : Option Addr) (c : Nat) (hc : s.r.length ≤ c) (b0 : List Int) (hb0 : bytes_ b0) (A0 : Option Addr) (c0 : Nat) (hc0 : b0.length ≤ c0) (bit : Int) (w : World) (hH : Wr.Half w) (hC : kRF.C w A s.r.length s.r) (hC0 : (Kd.int .u8).C w A0 b0.length b0) :
    Calls Tryd.prog 5 #[.agg (s.V A c).toArray, .slice A0 b0.length c0, .int .i64 bit] w fun e w' => e = .returned (.bool true) ∧ Below w.heap.size w w' := by
  have HS0 := Aside0.mk ((Sep.refl w).push_alloc (s.V A c).toArray 26)
  have HH := Aside0.mk hH
  have HOK := Aside0.mk (cutC_ok hs)
  have HTO := Aside0.mk (fun W (hb : Below w.heap.size w W) => told_calls W (hH.below hb))
  have HCU := Aside0.mk (fun W => cut15 A s.r.length c hc (by have := hC.2.1; omega) W)
  have HCC := Aside0.mk (fun W (hb : Below w.heap.size w W) => Kd.C_below (C_cut hC) hb)
  have HK := Aside0.mk (show (cutC s).r.length = min s.r.length 12 from cutC_len s)
  have HV33 := Aside0.mk (RC.V33 hs A c)
  have HSET := Aside0.mk (show (s.V A c).toArray.setIfInBounds 33 (.slice A (min s.r.length 12) c) = ((cutC s).V A c).toArray from RC.set33 s.n s.p hs.k s.r (cutC s).r A A c c _ (cutC_len s))
  have HCU2 := Aside0.mk (fun (W : World) => (show Calls Tryd.prog 21 #[.slice A0 b0.length c0, .int .i64 700] W (fun e w' => e = .returned (.slice A0 (min b0.length 700) c0) ∧ w' = W) from cut21 A0 b0.length c0 700 (by decide) hc0 (by have := hC0.2.1; omega) W))
  have HC0 := Aside0.mk (fun W (hb : Below w.heap.size w W) => Kd.C_below (C_take8 hC0 (min b0.length 700) (Nat.min_le_left _ _)) hb)
  have HD0 := Aside0.mk (fun W (hb : Below w.heap.size w W) => Kd.C_below hC0 hb)
  have HLE := Aside0.mk (show (b0.take (min b0.length 700)).length = min b0.length 700 ∧ min b0.length 700 ≤ c0 ∧ b0.length ≤ c0 from ⟨by rw [List.length_take]; omega, by omega, hc0⟩)
  have HBY := Aside0.mk (bytes_take hb0 (min b0.length 700))
  have HBE := Aside0.mk (fun (h : min b0.length 700 = 512) => (show b0.take (min b0.length 700) = b0 ∧ b0.length = 512 from ⟨List.take_of_length_le (by omega), by omega⟩))
  have HHH := Aside0.mk (fun W (hb : Below w.heap.size w W) => hH.below hb)
  have HPL := Aside0.mk (fun W => place28 bit 4096 (by decide) (by decide) W)
  obtain ⟨q, j, hq, hj, hP⟩ : ∃ q j : Nat, q < 512 ∧ j < 8 ∧ bit % 4096 = ((8 * q + j : Nat) : Int) := ⟨(bit % 4096).toNat / 8, (bit % 4096).toNat % 8, by omega, by omega, by omega⟩
  have HQJ := Aside0.mk (And.intro hq hj)
  have hd : (bit % 4096).tdiv 8 = (q : Int) := by rw [hP, Int.tdiv_eq_ediv_of_nonneg (by omega)]; omega
  have hr : (bit % 4096).tmod 8 = (j : Int) := by rw [hP, Int.tmod_eq_emod_of_nonneg (by omega)]; omega
  have hP0 : 0 ≤ bit % 4096 := by omega
  have hP1 : bit % 4096 < 4096 := by omega
  clear hP
  generalize bit % 4096 = P at HPL hd hr hP0 hP1
  have hq0 : (0 : Int) ≤ (q : Int) := by omega
  have hq1 : (q : Int) < 512 := by omega
  have hq2 : ((q : Int)).toNat = q := Int.toNat_natCast q
  have hwk : IntKind.u8.wrap ((2 : Int) ^ j) = (2 : Int) ^ j := by
    rcases (show j = 0 ∨ j = 1 ∨ j = 2 ∨ j = 3 ∨ j = 4 ∨ j = 5 ∨ j = 6 ∨ j = 7 by omega) with rfl | rfl | rfl | rfl | rfl | rfl | rfl | rfl <;> rfl
  have HBX := Aside0.mk (fun (x : Int) (hx : 0 ≤ x ∧ x < 256) => (show bits .xor .u8 x ((2 : Int) ^ j) = xorI x (2 ^ j) from by
    have h2 : (0 : Int) ≤ 2 ^ j ∧ (2 : Int) ^ j < 256 ∧ ((2 : Int) ^ j).toNat = 2 ^ j := by
      rcases (show j = 0 ∨ j = 1 ∨ j = 2 ∨ j = 3 ∨ j = 4 ∨ j = 5 ∨ j = 6 ∨ j = 7 by omega) with rfl | rfl | rfl | rfl | rfl | rfl | rfl | rfl <;> decide
    rw [u8_xor x _ hx.1 hx.2 h2.1 h2.2.1, h2.2.2]
    rfl))
  clear hq
  generalize min s.r.length 12 = k at HCU HCC HK HSET
  generalize min b0.length 700 = n at HCU2 HC0 HLE HBY HBE
  generalize b0.take n = b at HC0 HLE HBY HBE
  have HEN := Aside0.mk (fun (hm : errJ (cutC s) = 0) (W : World) (hb : Below w.heap.size w W) => encode_yes (cutC s) HOK.out ((err_iff _).1 hm) A c W (hH.below hb) (by rw [HK.out]; exact HCC.out W hb))
  have HEO := Aside0.mk (fun (hm : ¬ errJ (cutC s) = 0) (W : World) (hb : Below w.heap.size w W) => encode_no (cutC s) HOK.out hm A c W (by rw [HK.out]; exact HCC.out W hb))
  have HSZ := Aside0.mk (fun (A' : Option Addr) (c' : Nat) => RC.size HOK.out A' c')
  have HVA := Aside0.mk (fun (A' : Option Addr) (c' : Nat) => RC.V_all (cutC s) A' c')
  have HVS := Aside0.mk (fun (A' : Option Addr) (c' : Nat) => (show ((cutC s).V A' c').toArray.size = 34 from by simpa using RC.V_len HOK.out A' c'))
  have hz := (zero_of_info (P := Tryd.prog) (t := 26) (v := .agg zRC) (n := 34) (by unfold zRC; kernel_rfl)).1
  have HZs := Aside0.mk zRC_size
  have HSZZ := Aside0.mk (show (Tryd.prog.info? 26).map (·.size) = some zRC.size from size26 zRC_size)
  have HZA := Aside0.mk zRC_all
  have HZ0 := Aside0.mk (show zRC.toList[0]? = some (.int .i64 0) ∧ zRC.toList[33]? = some (.slice none 0 0) from ⟨rfl, RC.V33 noRC_ok none 0⟩)
  have HZK := Aside0.mk (show (zRC.toList.drop 1).take 32 = nums .u8 (List.replicate 32 0) from by kernel_rfl)
  have HDN := Aside0.mk (fun (b : List Int) (hb : bytes_ b) (n : Nat) (hn : b.length = n) (hd : decJ b = none) (A : Option Addr) (c : Nat) (hc : n ≤ c) (W : World) (hH : Wr.Half W) (hC : (Kd.int .u8).C W A n b) => (show Calls Tryd.prog 24 #[.slice A n c] W (fun e w' => e = .returned (.tuple #[.agg zRC, .int .i64 61]) ∧ Below W.heap.size W w') from decode_none b hb A n c hn hc W hH hC hd))
  generalize zRC = Z at hz HZs HSZZ HZA HZ0 HZK HDN
  clear hs hc hH hC hb0 hc0 hC0
  generalize hV0 : (s.V A c).toArray = V0 at HS0 HSET ⊢
  have HV0 := Aside0.mk hV0
  clear hV0
  go_enter Tryd.func5, Tryd.ntmps5
  go_upto_region 1 with (fail)
  generalize w.alloc (.cells V0 26) = w1 at HS0 ⊢
  generalize w.heap.size = g1 at HS0 ⊢
  go_upto_region 3 with (go_at_call 14; (with_reducible refine (HTO.out _ HS0.out.below).mono ?_); rintro e w2 ⟨rfl, hb⟩; have HS2 := Aside0.mk (HS0.out.step hb); clear hb)
  clear HS0 HTO
  have x33 : w2.cell? ⟨g1, 33, none⟩ = some (.slice A s.r.length c) := by
    have h := HS2.out.cells.1
    rw [← HV0.out] at h
    exact cell_at h 33 HV33.out
  have f33 := frozen_of HS2.out 33
  go_upto_region 4 with (go_at_call 15; (with_reducible refine (HCU.out _).mono ?_); rintro e w3 ⟨rfl, rfl⟩)
  have HS3 := Aside0.mk (show Sep w (w3.setCell ⟨g1, 33, none⟩ (.slice A k c)) (cellsT g1 ((cutC s).V A c).toArray 26 :: []) from by have h := HS2.out.cset 33 (.slice A k c); rwa [HSET.out] at h)
  clear HS2 x33 f33
  generalize w3.setCell ⟨g1, 33, none⟩ (.slice A k c) = w3b at HS3 ⊢
  by_cases hm : errJ (cutC s) = 0
  · have HM := Aside0.mk hm
    have HMY := Aside0.mk ((err_iff _).1 hm)
    have HEB := Aside0.mk (show (encJ (cutC s)).length = 512 ∧ bytes_ (encJ (cutC s)) ∧ decJ (encJ (cutC s)) = some (cutC s) from ⟨encJ_len HOK.out HMY.out.r8, bytes_encJ HOK.out HMY.out.r8, decJ_enc HOK.out HMY.out⟩)
    have HFL := Aside0.mk (fun (p : Nat) (hp : p < 4096) => (show decJ (flip1 (encJ (cutC s)) (p : Int)) = none ∧ bytes_ (flip1 (encJ (cutC s)) (p : Int)) ∧ (flip1 (encJ (cutC s)) (p : Int)).length = 512 from ⟨flipJ_none HOK.out HMY.out.r8 hp, bytes_flip HEB.out.2.1 _, by rw [flip1_len, HEB.out.1]⟩))
    clear hm HEO
    have HE0 := Aside0.mk (HEN.out HM.out)
    generalize encJ (cutC s) = eb at HEB HFL HE0
    go_upto_region 5 with (first
      | ((with_reducible refine gate_load (ty := 26) rfl ?_); refine wpList_ldw ?_ 26 _ rfl ⟨g1, 0, none⟩ ?_ ((cutC s).V A c).toArray _ (cells_agg HS3.out) Tryd.underlying26 rfl (HSZ.out A c) ?_; exact rfl; exact rfl; skip)
      | (go_at_call 17; (with_reducible refine (HE0.out _ HS3.out.below).mono ?_); rintro e w4 ⟨A4, c4, rfl, h4⟩; have HS4 := Aside0.mk (HS3.out.then_ h4); clear h4))
    have HS4 := Aside0.mk (show Sep w w4 (ownT (Kd.int .u8) 5 (.slice A4 512 c4) eb :: cellsT g1 ((cutC s).V A c).toArray 26 :: []) from HS4.out)
    have HC4 := Aside0.mk (fun (W : World) (M : List Th) (h : Sep w W (ownT (Kd.int .u8) 5 (.slice A4 512 c4) eb :: M)) => (show (Kd.int .u8).C W A4 512 eb ∧ 512 ≤ c4 from by have h := h.own_C; rwa [HEB.out.1] at h))
    have HD4 := Aside0.mk (decode_some eb HEB.out.2.1 A4 512 c4 HEB.out.1 (HC4.out _ _ HS4.out).2 w4 (HHH.out _ HS4.out.below) (HC4.out _ _ HS4.out).1 (cutC s) HEB.out.2.2)
    clear HS3
    go_upto_region 7 with (first
      | (go_at_call 24; (with_reducible refine HD4.out.mono ?_); rintro e w5 ⟨A5, c5, rfl, h5⟩; have HS5 := Aside0.mk (HS4.out.then_ h5); clear h5)
      | ((with_reducible refine gate_store (ty := 26) rfl ?_); refine Sep.store_own rfl 26 _ _ rfl rfl rfl (HS5.out.push_alloc Z 26) (HSZ.out A5 c5) (HZs.out.trans (HVS.out A5 c5).symm) (HVA.out A5 c5) ?_; intro w6 h6; have HS6 := Aside0.mk h6; clear h6))
    generalize w5.heap.size = g5 at HS6 ⊢
    have HSR := Aside0.mk (fun (W : World) (M : List Th) (t : Th) (h : Sep w W (t :: ownT kRF 69 (.slice A5 (cutC s).r.length c5) (cutC s).r :: M)) => sameRecord (cutC s) HOK.out (cutC s).r.length rfl A5 A c5 c W h.up1.own_C.1 (by rw [HK.out]; exact HCC.out W h.below))
    clear HS5 HD4
    go_upto_region 10 with (first
      | ((with_reducible refine gate_load (ty := 26) rfl ?_); refine wpList_ldw ?_ 26 _ rfl ⟨g5, 0, none⟩ ?_ ((cutC s).V A5 c5).toArray _ (cells_agg HS6.out) Tryd.underlying26 rfl (HSZ.out A5 c5) ?_; exact rfl; exact rfl; skip)
      | ((with_reducible refine gate_load (ty := 26) rfl ?_); refine wpList_ldw ?_ 26 _ rfl ⟨g1, 0, none⟩ ?_ ((cutC s).V A c).toArray _ (cells_agg HS6.out.up3) Tryd.underlying26 rfl (HSZ.out A c) ?_; exact rfl; exact rfl; skip)
      | (go_at_call 27; (with_reducible refine (HSR.out _ _ _ HS6.out).mono ?_); rintro e w7 ⟨rfl, hb⟩; have HS7 := Aside0.mk (HS6.out.step hb); clear hb)
      | ((with_reducible refine gate_builtin (b := .append) (xs := #[.const (.slice none 0 0), .tmp 51]) rfl ?_); refine Sep.app_row rfl _ _ rfl eb rfl rfl (HS7.out.push_nil (Kd.int .u8) 5) (HC4.out _ _ HS7.out.up2).1 ?aL ?_; (case aL => simp); intro v8 w8 h8; have HS8 := Aside0.mk h8; clear h8))
    have HS8 := Aside0.mk (show Sep w w8 (ownT (Kd.int .u8) 5 v8 eb :: cellsT g5 ((cutC s).V A5 c5).toArray 26 :: ownT kRF 69 (.slice A5 (cutC s).r.length c5) (cutC s).r :: ownT (Kd.int .u8) 5 (.slice A4 512 c4) eb :: cellsT g1 ((cutC s).V A c).toArray 26 :: []) from HS8.out)
    obtain ⟨g8, c8, rfl⟩ := own_form HS8.out (by rw [HEB.out.1]; decide)
    rw [HEB.out.1] at HS8 ⊢
    clear HS6 HS7 HSR
    go_upto_region 11 with (go_at_call 28; (with_reducible refine (HPL.out _).mono ?_); rintro e w9 ⟨rfl, hb⟩; have HS9 := Aside0.mk (HS8.out.step hb); clear hb)
    clear HS8
    have hcx := Sep.cell (enc := Value.int .u8) (0 : Int) HS9.out q HQJ.out.1
    obtain ⟨hx0, hf0⟩ := hcx
    have hbx := HBX.out (eb.getD q 0) (HEB.out.2.1 _ (getD_mem (by rw [HEB.out.1]; exact HQJ.out.1)))
    have HFS := Aside0.mk (flip_set (b := eb) q j (by rw [HEB.out.1]; exact HQJ.out.1) HQJ.out.2)
    generalize eb.getD q 0 = x at hx0 hbx HFS
    go_upto_region 12 with (fail)
    have HSA := Aside0.mk (show Sep w (w9.setCell ⟨g8, q, none⟩ (.int .u8 (xorI x (2 ^ j)))) (ownT (Kd.int .u8) 5 (.slice (some ⟨g8, 0, none⟩) 512 c8) (flip1 eb ((8 * q + j : Nat) : Int)) :: cellsT g5 ((cutC s).V A5 c5).toArray 26 :: ownT kRF 69 (.slice A5 (cutC s).r.length c5) (cutC s).r :: ownT (Kd.int .u8) 5 (.slice A4 512 c4) eb :: cellsT g1 ((cutC s).V A c).toArray 26 :: []) from by
      have h := Sep.put (enc := Value.int .u8) HS9.out q (xorI x (2 ^ j))
      rw [HFS.out] at h
      exact h)
    have HFP := Aside0.mk (HFL.out (8 * q + j) (by have := HQJ.out; omega))
    clear HS9 hx0 hf0 hbx HFS HFL
    generalize w9.setCell ⟨g8, q, none⟩ (.int .u8 (xorI x (2 ^ j))) = wA at HSA ⊢
    generalize flip1 eb ((8 * q + j : Nat) : Int) = fb at HSA HFP
    have HCA := Aside0.mk (show (Kd.int .u8).C wA (some ⟨g8, 0, none⟩) 512 fb ∧ 512 ≤ c8 from by have h := HSA.out.own_C; rwa [HFP.out.2.2] at h)
    go_upto_region 13 with (first
      | (go_at_call 24; (with_reducible refine (HDN.out fb HFP.out.2.1 512 HFP.out.2.2 HFP.out.1 _ _ HCA.out.2 _ (HHH.out _ HSA.out.below) HCA.out.1).mono ?_); rintro e wB ⟨rfl, hb⟩; have HSB := Aside0.mk (HSA.out.step hb); clear hb)
      | ((with_reducible refine gate_store (ty := 26) rfl ?_); refine Sep.store_own rfl 26 _ _ rfl rfl rfl (HSB.out.push_alloc Z 26) HSZZ.out rfl HZA.out ?_; intro wD hD; have HSD := Aside0.mk hD.drop; clear hD))
    clear HSA HCA HSB
    have hc4 : (511 : Int) ≤ (c4 : Int) := by have := (HC4.out _ _ HSD.out.up3).2; omega
    have HL5 := Aside0.mk (show (eb.take 511).length = 511 ∧ bytes_ (eb.take 511) ∧ decJ (eb.take 511) = none from ⟨by rw [List.length_take, HEB.out.1]; rfl, bytes_take HEB.out.2.1 _, decJ_len (by rw [List.length_take, HEB.out.1]; decide)⟩)
    go_upto_region 14 with (first
      | (go_at_call 24; (with_reducible refine (HDN.out (eb.take 511) HL5.out.2.1 511 HL5.out.1 HL5.out.2.2 _ _ (by have := (HC4.out _ _ HSD.out.up3).2; omega) _ (HHH.out _ HSD.out.below) (C_take8 (HC4.out _ _ HSD.out.up3).1 511 (by decide))).mono ?_); rintro e wE ⟨rfl, hb⟩; have HSE := Aside0.mk (HSD.out.step hb); clear hb)
      | ((with_reducible refine gate_store (ty := 26) rfl ?_); refine Sep.store_own rfl 26 _ _ rfl rfl rfl (HSE.out.push_alloc Z 26) HSZZ.out rfl HZA.out ?_; intro wF hF; have HSF := Aside0.mk hF.drop; clear hF))
    clear HSD HSE hc4 HL5
    have HL6 := Aside0.mk (show (eb ++ [0]).length = 513 ∧ bytes_ (eb ++ [0]) ∧ decJ (eb ++ [0]) = none from ⟨by rw [List.length_append, HEB.out.1]; rfl, bytes_append HEB.out.2.1 (fun x hx => by simp at hx; omega), decJ_len (by rw [List.length_append, HEB.out.1]; decide)⟩)
    go_upto_region 15 with (first
      | ((with_reducible refine gate_builtin (b := .append) (xs := #[.const (.slice none 0 0), .tmp 81]) rfl ?_); refine Sep.app_row rfl _ _ rfl eb rfl rfl (HSF.out.push_nil (Kd.int .u8) 5) (HC4.out _ _ HSF.out.up3).1 ?aL ?_; (case aL => simp); intro vG wG hG; have HSG := Aside0.mk (show Sep w wG (ownT (Kd.int .u8) 5 vG eb :: ownT (Kd.int .u8) 5 (.slice (some ⟨g8, 0, none⟩) 512 c8) fb :: cellsT g5 ((cutC s).V A5 c5).toArray 26 :: ownT kRF 69 (.slice A5 (cutC s).r.length c5) (cutC s).r :: ownT (Kd.int .u8) 5 (.slice A4 512 c4) eb :: cellsT g1 ((cutC s).V A c).toArray 26 :: []) from hG); clear hG)
      | ((with_reducible refine gate_builtin (b := .append) (xs := #[.tmp 82, .tmp 83]) rfl ?_); refine Sep.app_one rfl _ _ rfl 0 rfl rfl HSG.out ?aL ?_; (case aL => rw [HEB.out.1]; decide); intro vH wH hH; have HSH := Aside0.mk hH; clear hH; obtain ⟨AH, cH, rfl⟩ := HSH.out.own_slice; rw [HL6.out.1] at HSH ⊢)
      | (go_at_call 24; (with_reducible refine (HDN.out (eb ++ [0]) HL6.out.2.1 513 HL6.out.1 HL6.out.2.2 _ _ (by have h := HSH.out.own_C.2; rwa [HL6.out.1] at h) _ (HHH.out _ HSH.out.below) (by have h := HSH.out.own_C.1; rwa [HL6.out.1] at h)).mono ?_); rintro e wI ⟨rfl, hb⟩; have HSI := Aside0.mk (HSH.out.step hb); clear hb)
      | ((with_reducible refine gate_store (ty := 26) rfl ?_); refine Sep.store_own rfl 26 _ _ rfl rfl rfl (HSI.out.push_alloc Z 26) HSZZ.out rfl HZA.out ?_; intro wK hK; have HSK := Aside0.mk hK; clear hK))
    go_upto_region 17 with (fail)
    have HSL := Aside0.mk (Sep.start HSK.out.below)
    clear HSF HSG HSH HSI HSK HC4 HFP HEB HE0 HMY
    generalize wK = wL at HSL ⊢
    cases hd : decJ b with
    | none =>
      have HHD := Aside0.mk hd
      clear hd
      go_upto_region 18 with (first
        | (go_at_call 21; (with_reducible refine (HCU2.out _).mono ?_); rintro e wM ⟨rfl, rfl⟩)
        | (go_at_call 24; (with_reducible refine (HDN.out b HBY.out n HLE.out.1 HHD.out _ _ HLE.out.2.1 _ (HHH.out _ HSL.out.below) (HC0.out _ HSL.out.below)).mono ?_); rintro e wN ⟨rfl, hb⟩; have HSN := Aside0.mk (HSL.out.step hb); clear hb)
        | ((with_reducible refine gate_store (ty := 26) rfl ?_); refine Sep.store_own rfl 26 _ _ rfl rfl rfl (HSN.out.push_alloc Z 26) HSZZ.out rfl HZA.out ?_; intro wO hO; have HSO := Aside0.mk hO; clear hO))
      generalize wN.heap.size = gN at HSO ⊢
      have z0 : wO.cell? ⟨gN, 0, none⟩ = some (.int .i64 0) := cell_at (cs := Z.toList) HSO.out.cells.1 0 HZ0.out.1
      have z33 : wO.cell? ⟨gN, 33, none⟩ = some (.slice none 0 0) := cell_at (cs := Z.toList) HSO.out.cells.1 33 HZ0.out.2
      have HKC := Aside0.mk (show ∀ j v, (nums .u8 (List.replicate 32 0)).toArray.toList[j]? = some v → wO.cell? ((⟨gN, 1, none⟩ : Addr).add j) = some v from fun j v hv => seg_at (cs := Z.toList) HSO.out.cells.1 1 (nums .u8 (List.replicate 32 0)) (by rw [nums_length, List.length_replicate]; exact HZK.out) j v (by simpa using hv))
      have HKS := Aside0.mk (show (Tryd.prog.info? 23).map (·.size) = some (nums .u8 (List.replicate 32 0)).toArray.size from size23 (by simp [nums_length]))
      have HKB := Aside0.mk built23z
      have HKE := Aside0.mk (fun W => (show (Op.equalIn 10000 23 (.agg (nums .u8 (List.replicate 32 0)).toArray) (.agg (nums .u8 (List.replicate 32 0)).toArray)).run Tryd.prog W = .ok true W from by have h := eq_key 9998 (List.replicate 32 0) (List.replicate 32 0) (by simp) (by simp) W; rwa [decide_eq_true rfl] at h))
      generalize (nums .u8 (List.replicate 32 0)).toArray = K0 at HKC HKS HKB HKE
      clear hd hr hwk hz
      go_wp2_with (first
        | ((with_reducible refine gate_load (ty := 23) rfl ?_); refine wpList_ldw ?_ 23 _ rfl ⟨gN, 1, none⟩ ?_ K0 _ HKC.out Tryd.underlying23 rfl HKS.out ?_; exact rfl; exact rfl; skip)
        | ((with_reducible refine gate_build (ty := 23) rfl ?_); refine gate_guard (by rfl) ?_; dsimp only; refine wpList_buildTo rfl 23 _ rfl (some 118) rfl K0 ?aB ?_; (case aB => (simp only [List.map_toArray, List.map_cons, List.map_nil]; exact HKB.out)))
        | ((with_reducible refine gate_eql (t := 23) rfl ?_); refine wpList_eqlw ?_ 23 23 _ _ rfl K0 ?_ ?_ guard23 (HKE.out _) ?_; exact rfl; exact rfl; exact rfl; skip))
      go_ret
      exact ⟨rfl, HSO.out.below⟩
    | some r =>
      have HRR := Aside0.mk (decJ_some HBY.out hd)
      have HN5 := Aside0.mk (show n = 512 from HLE.out.1.symm.trans (decJ_is hd).1)
      have HDS := Aside0.mk (fun (W : World) (hb : Below w.heap.size w W) => decode_some b HBY.out A0 n c0 HLE.out.1 HLE.out.2.1 W (HHH.out W hb) (HC0.out W hb) r hd)
      have HSZr := Aside0.mk (fun (A' : Option Addr) (c' : Nat) => RC.size HRR.out.1 A' c')
      have HVAr := Aside0.mk (fun (A' : Option Addr) (c' : Nat) => RC.V_all r A' c')
      have HVSr := Aside0.mk (fun (A' : Option Addr) (c' : Nat) => (show (r.V A' c').toArray.size = 34 from by simpa using RC.V_len HRR.out.1 A' c'))
      clear hd
      go_upto_region 18 with (first
        | (go_at_call 21; (with_reducible refine (HCU2.out _).mono ?_); rintro e wM ⟨rfl, rfl⟩)
        | (go_at_call 24; (with_reducible refine (HDS.out _ HSL.out.below).mono ?_); rintro e wN ⟨AN, cN, rfl, hN⟩; have HSN := Aside0.mk (HSL.out.then_ hN); clear hN)
        | ((with_reducible refine gate_store (ty := 26) rfl ?_); refine Sep.store_own rfl 26 _ _ rfl rfl rfl (HSN.out.push_alloc Z 26) (HSZr.out AN cN) (HZs.out.trans (HVSr.out AN cN).symm) (HVAr.out AN cN) ?_; intro wO hO; have HSO := Aside0.mk hO; clear hO))
      generalize wN.heap.size = gN at HSO ⊢
      have HER := Aside0.mk (encode_yes r HRR.out.1 HRR.out.2.1 AN cN wO (HHH.out _ HSO.out.below) HSO.out.up1.own_C.1)
      rw [HRR.out.2.2] at HER
      go_upto_region 21 with (first
        | ((with_reducible refine gate_load (ty := 26) rfl ?_); refine wpList_ldw ?_ 26 _ rfl ⟨gN, 0, none⟩ ?_ (r.V AN cN).toArray _ (cells_agg HSO.out) Tryd.underlying26 rfl (HSZr.out AN cN) ?_; exact rfl; exact rfl; skip)
        | (go_at_call 17; (with_reducible refine HER.out.mono ?_); rintro e wQ ⟨AQ, cQ, rfl, hQ⟩; have HSQ := Aside0.mk (HSO.out.then_ hQ); clear hQ))
      have HSM := Aside0.mk (show Calls Tryd.prog 19 #[.slice AQ 512 cQ, .slice A0 b0.length c0] wQ (fun e w' => e = .returned (.bool true) ∧ Below wQ.heap.size wQ w') from by
        have e1 := HBE.out HN5.out
        have h7 := HSQ.out.own_C
        rw [HLE.out.1, HN5.out] at h7
        have h8 := HD0.out _ HSQ.out.below
        have h5 := same19 h7.1 h8 (HLE.out.1.trans HN5.out) rfl h7.2 HLE.out.2.2 (by decide)
        rwa [decide_eq_true e1.1] at h5)
      go_wp2_with (go_at_call 19; (with_reducible refine HSM.out.mono ?_); rintro e wR ⟨rfl, hb⟩; have HSR9 := Aside0.mk (HSQ.out.step hb); clear hb)
      go_ret
      exact ⟨rfl, HSR9.out.below⟩
  · have HM := Aside0.mk hm
    have HEO := Aside0.mk (HEO.out HM.out)
    clear HEN
    have he : ¬ errJ (cutC s) = 0 := hm
    clear hm
    go_upto_region 5 with (first
      | ((with_reducible refine gate_load (ty := 26) rfl ?_); refine wpList_ldw ?_ 26 _ rfl ⟨g1, 0, none⟩ ?_ ((cutC s).V A c).toArray _ (cells_agg HS3.out) Tryd.underlying26 rfl (HSZ.out A c) ?_; exact rfl; exact rfl; skip)
      | (go_at_call 17; (with_reducible refine (HEO.out _ HS3.out.below).mono ?_); rintro e w4 ⟨rfl, hb⟩; have HS4 := Aside0.mk (HS3.out.step hb); clear hb))
    go_upto_region 17 with (fail)
    have HSL := Aside0.mk (Sep.start HS4.out.below)
    clear HS3 HS4 HEO
    generalize w4 = wL at HSL ⊢
    cases hd : decJ b with
    | none =>
      have HHD := Aside0.mk hd
      clear hd
      go_upto_region 18 with (first
        | (go_at_call 21; (with_reducible refine (HCU2.out _).mono ?_); rintro e wM ⟨rfl, rfl⟩)
        | (go_at_call 24; (with_reducible refine (HDN.out b HBY.out n HLE.out.1 HHD.out _ _ HLE.out.2.1 _ (HHH.out _ HSL.out.below) (HC0.out _ HSL.out.below)).mono ?_); rintro e wN ⟨rfl, hb⟩; have HSN := Aside0.mk (HSL.out.step hb); clear hb)
        | ((with_reducible refine gate_store (ty := 26) rfl ?_); refine Sep.store_own rfl 26 _ _ rfl rfl rfl (HSN.out.push_alloc Z 26) HSZZ.out rfl HZA.out ?_; intro wO hO; have HSO := Aside0.mk hO; clear hO))
      generalize wN.heap.size = gN at HSO ⊢
      have z0 : wO.cell? ⟨gN, 0, none⟩ = some (.int .i64 0) := cell_at (cs := Z.toList) HSO.out.cells.1 0 HZ0.out.1
      have z33 : wO.cell? ⟨gN, 33, none⟩ = some (.slice none 0 0) := cell_at (cs := Z.toList) HSO.out.cells.1 33 HZ0.out.2
      have HKC := Aside0.mk (show ∀ j v, (nums .u8 (List.replicate 32 0)).toArray.toList[j]? = some v → wO.cell? ((⟨gN, 1, none⟩ : Addr).add j) = some v from fun j v hv => seg_at (cs := Z.toList) HSO.out.cells.1 1 (nums .u8 (List.replicate 32 0)) (by rw [nums_length, List.length_replicate]; exact HZK.out) j v (by simpa using hv))
      have HKS := Aside0.mk (show (Tryd.prog.info? 23).map (·.size) = some (nums .u8 (List.replicate 32 0)).toArray.size from size23 (by simp [nums_length]))
      have HKB := Aside0.mk built23z
      have HKE := Aside0.mk (fun W => (show (Op.equalIn 10000 23 (.agg (nums .u8 (List.replicate 32 0)).toArray) (.agg (nums .u8 (List.replicate 32 0)).toArray)).run Tryd.prog W = .ok true W from by have h := eq_key 9998 (List.replicate 32 0) (List.replicate 32 0) (by simp) (by simp) W; rwa [decide_eq_true rfl] at h))
      generalize (nums .u8 (List.replicate 32 0)).toArray = K0 at HKC HKS HKB HKE
      clear hd hr hwk hz
      go_wp2_with (first
        | ((with_reducible refine gate_load (ty := 23) rfl ?_); refine wpList_ldw ?_ 23 _ rfl ⟨gN, 1, none⟩ ?_ K0 _ HKC.out Tryd.underlying23 rfl HKS.out ?_; exact rfl; exact rfl; skip)
        | ((with_reducible refine gate_build (ty := 23) rfl ?_); refine gate_guard (by rfl) ?_; dsimp only; refine wpList_buildTo rfl 23 _ rfl (some 118) rfl K0 ?aB ?_; (case aB => (simp only [List.map_toArray, List.map_cons, List.map_nil]; exact HKB.out)))
        | ((with_reducible refine gate_eql (t := 23) rfl ?_); refine wpList_eqlw ?_ 23 23 _ _ rfl K0 ?_ ?_ guard23 (HKE.out _) ?_; exact rfl; exact rfl; exact rfl; skip))
      go_ret
      exact ⟨rfl, HSO.out.below⟩
    | some r =>
      have HRR := Aside0.mk (decJ_some HBY.out hd)
      have HN5 := Aside0.mk (show n = 512 from HLE.out.1.symm.trans (decJ_is hd).1)
      have HDS := Aside0.mk (fun (W : World) (hb : Below w.heap.size w W) => decode_some b HBY.out A0 n c0 HLE.out.1 HLE.out.2.1 W (HHH.out W hb) (HC0.out W hb) r hd)
      have HSZr := Aside0.mk (fun (A' : Option Addr) (c' : Nat) => RC.size HRR.out.1 A' c')
      have HVAr := Aside0.mk (fun (A' : Option Addr) (c' : Nat) => RC.V_all r A' c')
      have HVSr := Aside0.mk (fun (A' : Option Addr) (c' : Nat) => (show (r.V A' c').toArray.size = 34 from by simpa using RC.V_len HRR.out.1 A' c'))
      clear hd
      go_upto_region 18 with (first
        | (go_at_call 21; (with_reducible refine (HCU2.out _).mono ?_); rintro e wM ⟨rfl, rfl⟩)
        | (go_at_call 24; (with_reducible refine (HDS.out _ HSL.out.below).mono ?_); rintro e wN ⟨AN, cN, rfl, hN⟩; have HSN := Aside0.mk (HSL.out.then_ hN); clear hN)
        | ((with_reducible refine gate_store (ty := 26) rfl ?_); refine Sep.store_own rfl 26 _ _ rfl rfl rfl (HSN.out.push_alloc Z 26) (HSZr.out AN cN) (HZs.out.trans (HVSr.out AN cN).symm) (HVAr.out AN cN) ?_; intro wO hO; have HSO := Aside0.mk hO; clear hO))
      generalize wN.heap.size = gN at HSO ⊢
      have HER := Aside0.mk (encode_yes r HRR.out.1 HRR.out.2.1 AN cN wO (HHH.out _ HSO.out.below) HSO.out.up1.own_C.1)
      rw [HRR.out.2.2] at HER
      go_upto_region 21 with (first
        | ((with_reducible refine gate_load (ty := 26) rfl ?_); refine wpList_ldw ?_ 26 _ rfl ⟨gN, 0, none⟩ ?_ (r.V AN cN).toArray _ (cells_agg HSO.out) Tryd.underlying26 rfl (HSZr.out AN cN) ?_; exact rfl; exact rfl; skip)
        | (go_at_call 17; (with_reducible refine HER.out.mono ?_); rintro e wQ ⟨AQ, cQ, rfl, hQ⟩; have HSQ := Aside0.mk (HSO.out.then_ hQ); clear hQ))
      have HSM := Aside0.mk (show Calls Tryd.prog 19 #[.slice AQ 512 cQ, .slice A0 b0.length c0] wQ (fun e w' => e = .returned (.bool true) ∧ Below wQ.heap.size wQ w') from by
        have e1 := HBE.out HN5.out
        have h7 := HSQ.out.own_C
        rw [HLE.out.1, HN5.out] at h7
        have h8 := HD0.out _ HSQ.out.below
        have h5 := same19 h7.1 h8 (HLE.out.1.trans HN5.out) rfl h7.2 HLE.out.2.2 (by decide)
        rwa [decide_eq_true e1.1] at h5)
      go_wp2_with (go_at_call 19; (with_reducible refine HSM.out.mono ?_); rintro e wR ⟨rfl, hb⟩; have HSR9 := Aside0.mk (HSQ.out.step hb); clear hb)
      go_ret
      exact ⟨rfl, HSR9.out.below⟩
theorem journalBack_pure (s : RC) (l : List Int) (bit : Int) (hl : l.length ≤ 140737488351232) (hw : ∀ n ∈ l, (Lit.int .u8 n).wf = true) (hb : (Lit.int .i64 bit).wf = true) : ∃ k : Nat, bytes_ l ∧ true = true := ⟨0, u8_wf hw, rfl⟩
theorem journalBack_row (k : Nat) (s : RC) (A : Option Addr) (c : Nat) (l : List Int) (bit : Int) (v : Bool) (W : World) {A0 : Option Addr} {c0 : Nat} (hs : s.Ok) (hl : s.r.length ≤ c0) (hr : kRF.C W A0 s.r.length s.r) (hn : s.r.length * 48 ≤ reachBytes) (hC : (Kd.int .u8).C W A l.length l) (hc : l.length ≤ c) (hG : Wr.Half W) (h : bytes_ l ∧ v = true) :
    Calls Tryd.prog 5 #[.agg (s.V A0 c0).toArray, .slice A l.length c, .int .i64 bit] W fun e w' => e = .returned (.bool v) ∧ Below W.heap.size W w' := by
  obtain ⟨h, rfl⟩ := h
  exact back_calls s hs A0 c0 hl l h A c hc bit W hG hr hC
end Go.Proofs.YtagodmmpkapgnaaDoor.M

namespace Go.Proofs.YtagodmmpkapgnaaDoor.BulkW
open Go.ChangeShapes Go.WideShapes Go.Proofs.YtagodmmpkapgnaaDoorW.PrintWords
set_option linter.unusedVariables false
section
variable {H : Type} (enc : TypeId × Value → H) (P : Program) (W : World) (base : Nat) (spare : Nat → Bool) (held : Bool)
def Opens {α : Type} (t : TypeId) (d : Kd α) (Ok : α → Prop) : Prop :=
  ∀ (fuel : Nat) (cs : List Value) (x : DataW H × List MemPlace), DataW.trod enc P W base spare held fuel t cs = some x → (∀ n ∈ x.1.weights P t, n ≤ reachBytes) → ∃ y, d.K W y cs ∧ Ok y
variable {enc P W base spare held}
theorem cells_of {a : Addr} {n : Nat} {cs : List Value} (h : W.cells? base a n = some cs) : cs.length = n ∧ ∀ i u, cs[i]? = some u → W.cell? (a.add i) = some u := by
  obtain ⟨_, hl, hc⟩ := World.cells?_some h
  refine ⟨hl, fun i u hu => ?_⟩
  have hi : i < cs.length := (List.getElem?_eq_some_iff.1 hu).1
  rw [hc i (by omega), hu]
theorem in_all {P : Program} {e : TypeId} {n : Nat} : ∀ {l : List (DataW H)} {d : DataW H}, d ∈ l → n ∈ d.weights P e → n ∈ DataW.weightsAll P e l
  | x :: r, d, hd, hn => by
    unfold DataW.weightsAll
    rcases List.mem_cons.1 hd with rfl | hd
    · exact List.mem_append_left _ hn
    · exact List.mem_append_right _ (in_all hd hn)
theorem opens_slice {α : Type} {t e q : TypeId} {d : Kd α} {Ok : α → Prop} (ht : P.underlying t = some (.slice e)) (hc : P.cellsOf e = d.sz)
    (he : Opens enc P W base spare held e d Ok) :
    Opens enc P W base spare held t (Kd.slice q d) (fun ys => ys.length * P.bytesOf e ≤ reachBytes ∧ ∀ y ∈ ys, Ok y) := by
  intro fuel cs x h hwt
  rcases DataW.trod_slice ht h with ⟨rfl, rfl⟩ | ⟨a, len, cap, elems, rest, n, _, rfl, rfl, hb, hl, hmax, hlen, hel, _, _⟩
  · refine ⟨[], ⟨none, 0, rfl, Nat.le_refl _, rfl, Nat.zero_le _, fun h => absurd h (Nat.lt_irrefl _)⟩, by simp, fun y hy => by cases hy⟩
  · have hw1 : ∀ n ∈ ((elems.map (·.1)).length + (rest.map (·.1)).length) * P.bytesOf e :: (DataW.weightsAll P e (elems.map (·.1)) ++ DataW.weightsAll P e (rest.map (·.1))), n ≤ reachBytes := by
      have h1 := hwt
      dsimp only at h1
      unfold DataW.weights at h1
      rw [ht] at h1
      exact h1
    have each : ∀ i (hi : i < elems.length), ∃ y, (∃ c, c.length = d.sz ∧ d.K W y c ∧ ∀ j u, c[j]? = some u → W.cell? (a.add (i * d.sz + j)) = some u) ∧ Ok y := by
      intro i hi
      have h1 := hel i (by omega)
      rw [List.getElem?_eq_getElem hi, Option.bind_eq_some_iff] at h1
      obtain ⟨c, h2, h3⟩ := h1
      obtain ⟨y, hk, hok⟩ := he _ _ _ h3 (fun n hn => hw1 n (List.mem_cons_of_mem _ (List.mem_append_left _ (in_all (List.mem_map.2 ⟨elems[i], List.getElem_mem hi, rfl⟩) hn))))
      obtain ⟨hcl, hcell⟩ := cells_of h2
      rw [hc] at hcl hcell
      refine ⟨y, ⟨c, hcl, hk, fun j u hu => ?_⟩, hok⟩
      have := hcell j u hu
      rwa [Addr.add_add] at this
    have all : ∀ m, m ≤ elems.length → ∃ ys : List α, ys.length = m ∧ ∀ i y, ys[i]? = some y → (∃ c, c.length = d.sz ∧ d.K W y c ∧ ∀ j u, c[j]? = some u → W.cell? (a.add (i * d.sz + j)) = some u) ∧ Ok y := by
      intro m
      induction m with
      | zero => intro _; exact ⟨[], rfl, fun i y hy => by simp at hy⟩
      | succ m ih =>
        intro hm1
        obtain ⟨ys, hys, hall⟩ := ih (by omega)
        obtain ⟨y, hy, hoky⟩ := each m (by omega)
        refine ⟨ys ++ [y], by simp [hys], fun i z hz => ?_⟩
        by_cases hi : i < m
        · rw [List.getElem?_append_left (by omega)] at hz
          exact hall i z hz
        · have hi2 : i < (ys ++ [y]).length := (List.getElem?_eq_some_iff.1 hz).1
          simp [hys] at hi2
          obtain rfl : i = m := by omega
          rw [List.getElem?_append_right (by omega), hys] at hz
          simp at hz
          subst hz
          exact ⟨hy, hoky⟩
    obtain ⟨ys, hys, hall⟩ := all elems.length (Nat.le_refl _)
    refine ⟨ys, ⟨some a, cap, by rw [hys, hlen], by omega, rfl, ?_, fun _ => ⟨a, rfl, fun j p hp => (hall j p hp).1⟩⟩, ?_, fun y hy => ?_⟩
    · rw [hys, hlen]
      have : (maxLen : Nat) ≤ 9223372036854775807 := by decide
      omega
    · have h1 := hw1 _ List.mem_cons_self
      rw [List.length_map, List.length_map] at h1
      rw [hys]
      exact Nat.le_trans (Nat.mul_le_mul_right _ (Nat.le_add_right _ _)) h1
    · obtain ⟨i, hi⟩ := List.getElem?_of_mem hy
      exact (hall i y hi).2
end
theorem weights_at {H : Type} {P : Program} : ∀ {ts : List TypeId} {ds : List (DataW H)}, (DataW.weightsEach P ts ds).all (· ≤ reachBytes) = true → ∀ (j : Nat) (t : TypeId) (d : DataW H), ts[j]? = some t → ds[j]? = some d → ∀ n ∈ d.weights P t, n ≤ reachBytes
  | t0 :: ts, d0 :: ds, h, j, t, d, ht, hd, n, hn => by
    unfold DataW.weightsEach at h
    rw [List.all_append, Bool.and_eq_true] at h
    cases j with
    | zero =>
      obtain rfl : t0 = t := Option.some.inj ht
      obtain rfl : d0 = d := Option.some.inj hd
      exact of_decide_eq_true (List.all_eq_true.1 h.1 n hn)
    | succ j => exact weights_at h.2 j t d ht hd n hn
  | [], _, _, j, t, d, ht, _, _, _ => by simp at ht
  | _ :: _, [], _, j, t, d, _, hd, _, _ => by simp at hd
end Go.Proofs.YtagodmmpkapgnaaDoor.BulkW

namespace Go.Proofs.YtagodmmpkapgnaaDoor.Bulk
open Go.ChangeShapes Go.WideShapes Go.RowKit Go.Proofs.YtagodmmpkapgnaaDoorW.PrintWords Go.Proofs.YtagodmmpkapgnaaDoorW.PrintLast Go.Proofs.YtagodmmpkapgnaaDoorW.PrintMore Go.Proofs.YtagodmmpkapgnaaDoor.M Go.Proofs.YtagodmmpkapgnaaDoor.Pl Go.Proofs.YtagodmmpkapgnaaDoor.Wr Go.Proofs.YtagodmmpkapgnaaDoor.A
set_option linter.unusedVariables false
section
variable {H : Type} {enc : TypeId × Value → H} {W : World} {base : Nat} {spare : Nat → Bool} {held : Bool}
theorem bound_u8 {x : Int} (h : (Lit.int .u8 x).wf = true) : 0 ≤ x ∧ x < 256 := by
  simp [Lit.wf, IntKind.min, IntKind.max, IntKind.signed, IntKind.bits] at h
  omega
def valI : Value → Int
  | .int _ n => n
  | _ => 0
theorem opens_key {fuel : Nat} {cs : List Value} {x : DataW H × List MemPlace} (h : DataW.trod enc Tryd.prog W base spare held fuel 23 cs = some x) : ∃ l : List Int, cs = nums .u8 l ∧ l.length = 32 ∧ bytes_ l := by
  obtain ⟨xs, m, _, _, hl, hx, hf⟩ := DataW.trod_array Tryd.underlying23 h
  rw [show Tryd.prog.cellsOf 23 = 32 by kernel_rfl] at hl
  have q5 : Tryd.prog.cellsOf 5 = 1 := by kernel_rfl
  have each : ∀ v ∈ cs, ∃ n, v = .int .u8 n ∧ 0 ≤ n ∧ n < 256 := by
    intro v hv
    obtain ⟨i, hi, rfl⟩ := List.getElem_of_mem hv
    have h1 := hf i (by omega)
    rw [q5, Nat.mul_one, List.getElem?_eq_getElem (by omega)] at h1
    obtain ⟨n, he, _, hw⟩ := DataW.trod_int Tryd.underlying5 h1
    refine ⟨n, ?_, bound_u8 hw⟩
    have h2 : (cs.drop i).take 1 = [cs[i]] := by rw [List.drop_eq_getElem_cons hi]; rfl
    rw [h2] at he
    exact List.head_eq_of_cons_eq he
  refine ⟨cs.map valI, ?_, by rw [List.length_map, hl], ?_⟩
  · unfold nums
    rw [List.map_map]
    refine (List.map_congr_left (g := id) (fun v hv => ?_) |>.trans (List.map_id _)).symm
    obtain ⟨n, rfl, _⟩ := each v hv
    rfl
  · intro y hy
    obtain ⟨v, hv, rfl⟩ := List.mem_map.1 hy
    obtain ⟨n, rfl, h1⟩ := each v hv
    exact h1
theorem opens_i64 {fuel : Nat} {c : List Value} {x : DataW H × List MemPlace} (h : DataW.trod enc Tryd.prog W base spare held fuel 3 c = some x) : ∃ n, c = [.int .i64 n] := by
  obtain ⟨n, he, _, hw⟩ := DataW.trod_int Tryd.underlying3 h
  exact ⟨n, he⟩
theorem cut_ {α : Type} (cs : List α) (a n : Nat) {y : List α} (h : (cs.drop a).take n = y) : cs.drop a = y ++ cs.drop (a + n) := by
  rw [← h, ← List.drop_drop]
  exact (List.take_append_drop n _).symm
theorem some_at {α : Type} {xs : List α} {i : Nat} (h : i < xs.length) : ∃ x, xs[i]? = some x := ⟨_, List.getElem?_eq_getElem h⟩
theorem opens_ref {fuel : Nat} {cs : List Value} {x : DataW H × List MemPlace} (h : DataW.trod enc Tryd.prog W base spare held fuel 69 cs = some x) : ∃ (l : List Int) (a b : Int), cs = refV l a b ∧ l.length = 32 ∧ bytes_ l := by
  obtain ⟨xs, m, _, _, hl, hx, hf⟩ := DataW.trod_struct Tryd.underlying69 h
  rw [show Tryd.prog.cellsOf 69 = 34 by kernel_rfl] at hl
  have hx3 : xs.length = 3 := hx
  have q23 : Tryd.prog.cellsOf 23 = 32 := by kernel_rfl
  have q3 : Tryd.prog.cellsOf 3 = 1 := by kernel_rfl
  obtain ⟨x0, e0⟩ := some_at (show 0 < xs.length by omega)
  obtain ⟨x1, e1⟩ := some_at (show 1 < xs.length by omega)
  obtain ⟨x2, e2⟩ := some_at (show 2 < xs.length by omega)
  have f0 : DataW.trod enc Tryd.prog W base spare held m 23 ((cs.drop 0).take (Tryd.prog.cellsOf 23)) = some x0 := (hf 0 _ rfl).trans e0
  have f1 : DataW.trod enc Tryd.prog W base spare held m 3 ((cs.drop 32).take (Tryd.prog.cellsOf 3)) = some x1 := (hf 1 _ rfl).trans e1
  have f2 : DataW.trod enc Tryd.prog W base spare held m 3 ((cs.drop 33).take (Tryd.prog.cellsOf 3)) = some x2 := (hf 2 _ rfl).trans e2
  rw [q23] at f0
  rw [q3] at f1 f2
  obtain ⟨l, g0, hl0, hb0⟩ := opens_key f0
  obtain ⟨a, g1⟩ := opens_i64 f1
  obtain ⟨b, g2⟩ := opens_i64 f2
  refine ⟨l, a, b, ?_, hl0, hb0⟩
  have c0 := cut_ cs 0 32 g0
  have c1 := cut_ cs 32 1 g1
  have c2 := cut_ cs 33 1 g2
  rw [List.drop_zero] at c0
  rw [c0]
  show nums .u8 l ++ cs.drop 32 = _
  rw [c1]
  show nums .u8 l ++ ([Value.int .i64 a] ++ cs.drop 33) = _
  rw [c2, List.drop_eq_nil_of_le (show cs.length ≤ 33 + 1 by omega)]
  rfl
end
end Go.Proofs.YtagodmmpkapgnaaDoor.Bulk
namespace Go.Proofs.YtagodmmpkapgnaaDoor.BulkW
open Go.ChangeShapes Go.WideShapes Go.RowKit Go.Proofs.YtagodmmpkapgnaaDoorW.PrintWords Go.Proofs.YtagodmmpkapgnaaDoorW.PrintLast Go.Proofs.YtagodmmpkapgnaaDoorW.PrintMore Go.Proofs.YtagodmmpkapgnaaDoor.M Go.Proofs.YtagodmmpkapgnaaDoor.Pl Go.Proofs.YtagodmmpkapgnaaDoor.Wr Go.Proofs.YtagodmmpkapgnaaDoor.A
set_option linter.unusedVariables false
section
variable {H : Type} {enc : TypeId × Value → H} {W : World} {base : Nat} {spare : Nat → Bool} {held : Bool}
theorem opens_69 : Opens enc Tryd.prog W base spare held 69 kRF (fun _ => True) := by
  intro fuel cs x h _
  obtain ⟨l, a, b, he, hl, hb⟩ := Bulk.opens_ref h
  exact ⟨⟨l, a, b⟩, ⟨⟨hl, hb⟩, he⟩, trivial⟩
set_option maxRecDepth 100000 in
theorem opens_24 : Opens enc Tryd.prog W base spare held 24 (Kd.slice 69 kRF) (fun ys => ys.length * 48 ≤ reachBytes) := fun f cs x h hw => by
  obtain ⟨y, h1, h2, _⟩ := opens_slice (q := 69) (d := kRF) Tryd.underlying24 (by kernel_rfl) opens_69 f cs x h hw
  exact ⟨y, h1, by rwa [show Tryd.prog.bytesOf 69 = 48 by kernel_rfl] at h2⟩
set_option maxRecDepth 100000 in
theorem opens_26 : Opens enc Tryd.prog W base spare held 26 kRC (fun s => s.r.length * 48 ≤ reachBytes) := by
  intro fuel cs x h hw
  obtain ⟨xs, m, _, rfl, hl, hx, hf⟩ := DataW.trod_struct Tryd.underlying26 h
  rw [show Tryd.prog.cellsOf 26 = 34 by kernel_rfl] at hl
  obtain ⟨x0, x1, x2, rfl⟩ : ∃ x0 x1 x2, xs = [x0, x1, x2] := by
    match xs, hx with
    | [x0, x1, x2], _ => exact ⟨x0, x1, x2, rfl⟩
  have hw1 : ∀ n ∈ x0.1.weights Tryd.prog 3 ++ (x1.1.weights Tryd.prog 23 ++ (x2.1.weights Tryd.prog 24 ++ [])), n ≤ reachBytes := by
    have h1 := hw
    dsimp only at h1
    unfold DataW.weights at h1
    rw [Tryd.underlying26] at h1
    exact h1
  have q23 : Tryd.prog.cellsOf 23 = 32 := by kernel_rfl
  have q3 : Tryd.prog.cellsOf 3 = 1 := by kernel_rfl
  have q24 : Tryd.prog.cellsOf 24 = 1 := by kernel_rfl
  have f0 : DataW.trod enc Tryd.prog W base spare held m 3 ((cs.drop 0).take (Tryd.prog.cellsOf 3)) = some x0 := hf 0 _ rfl
  have f1 : DataW.trod enc Tryd.prog W base spare held m 23 ((cs.drop 1).take (Tryd.prog.cellsOf 23)) = some x1 := hf 1 _ rfl
  have f2 : DataW.trod enc Tryd.prog W base spare held m 24 ((cs.drop 33).take (Tryd.prog.cellsOf 24)) = some x2 := hf 2 _ rfl
  rw [q3] at f0
  rw [q23] at f1
  rw [q24] at f2
  obtain ⟨n, g0⟩ := Bulk.opens_i64 f0
  obtain ⟨p, g1, k1, k2⟩ := Bulk.opens_key f1
  obtain ⟨r, ⟨A, c, g2, l2, hC⟩, hlen⟩ := opens_24 _ _ _ f2 (fun n hn => hw1 n (by simp only [List.mem_append]; exact .inr (.inr (.inl hn))))
  have c0 := Bulk.cut_ cs 0 1 g0
  have c1 := Bulk.cut_ cs 1 32 g1
  have c2 := Bulk.cut_ cs 33 1 g2
  rw [List.drop_zero] at c0
  rw [List.drop_eq_nil_of_le (show cs.length ≤ 33 + 1 by omega), List.append_nil] at c2
  have e : cs = (RC.V ⟨n, p, r⟩ A c) := by
    rw [c0]
    show [Value.int .i64 n] ++ cs.drop 1 = _
    rw [c1]
    show [Value.int .i64 n] ++ (nums .u8 p ++ cs.drop 33) = _
    rw [c2]
    rfl
  rw [e]
  exact ⟨⟨n, p, r⟩, kRC_mk W ⟨n, p, r⟩ ⟨k1, k2, refs_ok hC⟩ l2 hC, hlen⟩
set_option maxRecDepth 100000 in
theorem arg_r {r : Reach} {b0 : Nat} {v : Value} {dd : DataW H} {ps : List MemPlace} (hv : Value.okWide Tryd.prog W r b0 26 v)
    (h : DataW.Trod enc Tryd.prog W base spare held 26 v dd ps) (hw : ∀ n ∈ dd.weights Tryd.prog 26, n ≤ reachBytes) : ∃ (s : RC) (A : Option Addr) (c : Nat), v = .agg (s.V A c).toArray ∧ s.Ok ∧ s.r.length ≤ c ∧ kRF.C W A s.r.length s.r ∧ s.r.length * 48 ≤ reachBytes := by
  obtain ⟨cs, rfl, hsz⟩ := okWide_struct Tryd.underlying26 hv
  obtain ⟨fuel, hf⟩ := h
  obtain ⟨s, hs, hl⟩ := opens_26 _ _ _ hf hw
  obtain ⟨hok, A, c, he, hc, hC⟩ := kRC_open hs
  have h1 : cs.toList = s.V A c := he
  exact ⟨s, A, c, by rw [← h1], hok, hc, hC, hl⟩
end
end Go.Proofs.YtagodmmpkapgnaaDoor.BulkW

namespace Go.Proofs.YtagodmmpkapgnaaDoor.journalBack
open Go.ChangeShapes Go.WideShapes Go.ChangeAt Go.RowKit Go.Proofs.YtagodmmpkapgnaaDoorW.PrintWords Go.Proofs.YtagodmmpkapgnaaDoorW.PrintLast Go.Proofs.YtagodmmpkapgnaaDoorW.PrintMore Go.Proofs.YtagodmmpkapgnaaDoor.P Go.Proofs.YtagodmmpkapgnaaDoor.M Go.Proofs.YtagodmmpkapgnaaDoor.Wr Go.Proofs.YtagodmmpkapgnaaDoor.Pl Go.Proofs.YtagodmmpkapgnaaDoor.A
set_option linter.unusedVariables false
theorem own : ownKnob Tryd.prog.godebug = none := by kernel_rfl
theorem laidOut : laidOutB Tryd.prog = true := by kernel_rfl
theorem gTab : Tryd.prog.globalNamed "kiln/wire.half" = some 0 := by kernel_rfl
theorem gTabType : (Tryd.prog.globals[0]?).map (·.type) = some 165 := by kernel_rfl
theorem cellsTab : Tryd.prog.cellsOf 165 = 16 := by kernel_rfl
theorem cells124 : Tryd.prog.cellsOf 124 = 1 := by kernel_rfl
theorem half_of {W : World} (h : laidMetH Tryd.prog Rows.journalBackRow.laid W) : Wr.Half W := by
  have t : Lib.TabIs Tryd.prog W "kiln/wire.half" .u32 [0, 498536548, 997073096, 651767980, 1994146192, 1802195444, 1303535960, 1342533948, 3988292384, 4027552580, 3604390888, 3412177804, 2607071920, 2262029012, 2685067896, 3183342108] := Lib.tabIs_of_head (rest := []) gTab gTabType Tryd.underlying165 Tryd.underlying124 cells124 cellsTab h
  intro i hi
  have hc := t.cell gTab i (by simpa using hi)
  have e : ∀ j : Fin 16, ([0, 498536548, 997073096, 651767980, 1994146192, 1802195444, 1303535960, 1342533948, 3988292384, 4027552580, 3604390888, 3412177804, 2607071920, 2262029012, 2685067896, 3183342108] : List Int)[j.1]? = some ((halfL.getD j.1 0 : Nat) : Int) := by decide
  have e2 := e ⟨i, hi⟩
  first
  | (rw [List.getD_eq_getElem?_getD, e2] at hc; exact hc)
  | (rw [List.getElem?_eq_some_iff] at e2; obtain ⟨_, e3⟩ := e2; rw [e3] at hc; exact hc)
def IsRow (k : IntKind) (w : World) (a : Option Addr) (len cap : Nat) (zs : List Int) : Prop :=
  (a = none ∧ len = 0 ∧ cap = 0 ∧ zs = []) ∨
  ∃ x, a = some x ∧ len ≤ cap ∧ cap ≤ maxLen ∧ zs.length = cap ∧ (∀ i, i < zs.length → w.cell? (x.add i) = some (.int k (zs.getD i 0))) ∧ ∀ n ∈ zs, (Lit.int k n).wf = true
set_option maxRecDepth 100000 in
theorem contract (H : Type) (enc : TypeId × Value → H) (W : World) (base : Nat) (args : Array Value) (ds gs : List (DataW H)) (before : List MemPlace)
    (hval : ∀ (j : Nat) t v, Tryd.f5.params[j]? = some t → args[j]? = some v → Value.okWide Tryd.prog W .any base t v)
    (hW : DataW.Whole enc Tryd.prog Tryd.f5.params.toList Rows.journalBackSpec.vars false W args.toList ds gs before)
    (hsz0 : (DataW.weightsEach Tryd.prog (Tryd.f5.params.toList ++ Rows.journalBackSpec.plain.varTypes Tryd.prog) (ds ++ gs)).all (· ≤ reachBytes) = true)
    (hL : laidMetH Tryd.prog Rows.journalBackRow.laid W) :
    Calls Tryd.prog 5 args W fun e W' => ∃ v, e = .returned v ∧ Rows.journalBackSpec.post enc Tryd.prog Tryd.f5 false true false false W args v W' := by
  have hG := half_of hL
  have hW' := hW
  have hsz : (DataW.weightsEach Tryd.prog (Tryd.f5.params.toList ++ Rows.journalBackSpec.plain.varTypes Tryd.prog) (ds ++ gs)).all (· ≤ reachBytes) = true := hsz0
  obtain ⟨p, q, hA0, hV, rfl, hfz, hnd⟩ := hW
  have hA : DataW.TrodAll enc Tryd.prog W 0 (fun _ => true) true Tryd.f5.params.toList args.toList ds p := hA0
  rw [Tryd.params5] at hA hval hsz
  obtain ⟨v0, vs0, d0, ds0, p0, q0, hargs, rfl, rfl, h0, r0⟩ := trodAll_cons hA
  obtain ⟨v1, vs1, d1, ds1, p1, q1, rfl, rfl, rfl, h1, r1⟩ := trodAll_cons r0
  obtain ⟨v2, vs2, d2, ds2, p2, q2, rfl, rfl, rfl, h2, r2⟩ := trodAll_cons r1
  obtain ⟨rfl, rfl, rfl⟩ := trodAll_nil r2
  obtain rfl : args = #[v0, v1, v2] := by cases args; simp_all
  obtain ⟨rfl, rfl⟩ := trodVars_none hV
  have k0 := h0
  have lt0 : ∀ x ∈ p0, x.block < W.heap.size := by obtain ⟨m, hm⟩ := k0; exact DataW.trod_lt m _ _ _ hm
  obtain ⟨s0, A0, c0, rfl, hs0, hl0, hr0, hn0⟩ := BulkW.arg_r (hval 0 26 v0 rfl rfl) h0 (BulkW.weights_at hsz 0 26 d0 rfl rfl)
  obtain ⟨a1, len1, cap1, rfl⟩ := okWide_slice Tryd.underlying29 (hval 1 29 v1 rfl rfl)
  have k1 := h1
  have lt1 : ∀ x ∈ p1, x.block < W.heap.size := by obtain ⟨m, hm⟩ := k1; exact DataW.trod_lt m _ _ _ hm
  obtain ⟨z1, w1⟩ : ∃ zs, IsRow .u8 W a1 len1 cap1 zs := by
    obtain ⟨fuel, hf⟩ := h1
    rcases open_ints Tryd.underlying29 Tryd.underlying5 (by kernel_rfl) hf with ⟨hcs, _⟩ | ⟨x, l, c, zs, hcs, _, hl, hm, hz, _, hcell, hwz⟩
    · simp [Value.cells] at hcs
      obtain ⟨rfl, rfl, rfl⟩ := hcs
      exact ⟨[], .inl ⟨rfl, rfl, rfl, rfl⟩⟩
    · simp [Value.cells] at hcs
      obtain ⟨rfl, rfl, rfl⟩ := hcs
      exact ⟨zs, .inr ⟨_, rfl, hl, hm, by simpa using hz, hcell, hwz⟩⟩
  have y1 : len1 * 1 ≤ 140737488351232 := Go.Proofs.YtagodmmpkapgnaaDoorW.PrintWords.sized_ints hsz (j := 1) (t := 29) rfl rfl Tryd.underlying29 Tryd.underlying5 (by kernel_rfl) (by kernel_rfl) h1
  obtain ⟨a2, rfl, rfl, rfl, w2⟩ := open_int Tryd.underlying3 (hval 2 3 v2 rfl rfl) h2
  obtain ⟨l1, rfl, hr1, hm1, hw1, hc1⟩ := ReadsInt.ofRowC w1
  clear hA0 hsz0 hsz
  obtain ⟨k, h⟩ := M.journalBack_pure s0 l1 a2 (by omega) hw1 w2
  refine (M.journalBack_row k s0 _ _ l1 a2 true W hs0 hl0 hr0 hn0 (Kd.C_of_reads (d := (0 : Int)) (h1 := fun _ => rfl) hr1) hc1 hG h).mono ?_
  rintro e W' ⟨rfl, bel⟩
  exact ⟨_, rfl, _, _, _, [], _, [], hW', trodAll_mk1 (shut_bool Tryd.underlying4 _), (trodAll_cons_mk (Below.trod laidOut (by kernel_rfl) (of_decide_eq_true (by kernel_rfl)) k0 bel lt0) (trodAll_cons_mk (Below.trod laidOut (by kernel_rfl) (of_decide_eq_true (by kernel_rfl)) k1 bel lt1) (trodAll_cons_mk (shut_int Tryd.underlying3 w2) trodAll_mk0))), rfl, bel.frame _, fun h => by cases h⟩
noncomputable def laidWorld (os : Os) : World :=
  { World.holding Tryd.prog os ⟨#[], #[], []⟩ with heap := (World.holding Tryd.prog os ⟨#[], #[], []⟩).heap.modify 0 fun
      | .cells _ t frozen => .cells #[.int .u32 0, .int .u32 498536548, .int .u32 997073096, .int .u32 651767980, .int .u32 1994146192, .int .u32 1802195444, .int .u32 1303535960, .int .u32 1342533948, .int .u32 3988292384, .int .u32 4027552580, .int .u32 3604390888, .int .u32 3412177804, .int .u32 2607071920, .int .u32 2262029012, .int .u32 2685067896, .int .u32 3183342108] t frozen
      | o => o }
set_option maxRecDepth 100000 in
theorem laid_met (os : Os) : laidMet Tryd.prog Rows.journalBackRow.laid ((laidWorld os).forCall (fun _ _ => 0) ⟨#[], #[.agg (noRC.V none 0).toArray, .slice none 0 0, .int .i64 0], []⟩).memory :=
  laidMet_of_run' 8 (by kernel_rfl) (by kernel_rfl)
set_option maxRecDepth 100000 in
theorem reads (os : Os) {H : Type} (enc : TypeId × Value → H) : ∃ places, DataW.whole enc Tryd.prog ((laidWorld os).forCall (fun _ _ => 0) ⟨#[], #[.agg (noRC.V none 0).toArray, .slice none 0 0, .int .i64 0], []⟩).memory Tryd.f5.params.toList Rows.journalBackSpec.vars false (#[.agg (noRC.V none 0).toArray, .slice none 0 0, .int .i64 0] : Array Value).toList 8 = some ([.agg [.lit (.int .i64 0), .agg [.lit (.int .u8 0), .lit (.int .u8 0), .lit (.int .u8 0), .lit (.int .u8 0), .lit (.int .u8 0), .lit (.int .u8 0), .lit (.int .u8 0), .lit (.int .u8 0), .lit (.int .u8 0), .lit (.int .u8 0), .lit (.int .u8 0), .lit (.int .u8 0), .lit (.int .u8 0), .lit (.int .u8 0), .lit (.int .u8 0), .lit (.int .u8 0), .lit (.int .u8 0), .lit (.int .u8 0), .lit (.int .u8 0), .lit (.int .u8 0), .lit (.int .u8 0), .lit (.int .u8 0), .lit (.int .u8 0), .lit (.int .u8 0), .lit (.int .u8 0), .lit (.int .u8 0), .lit (.int .u8 0), .lit (.int .u8 0), .lit (.int .u8 0), .lit (.int .u8 0), .lit (.int .u8 0), .lit (.int .u8 0)], .nil], .nil, .lit (.int .i64 0)], [], places) :=
  ⟨[], by kernel_rfl⟩
set_option maxRecDepth 100000 in
theorem lifted (os : Os) (started : os.Started) (H : Type) (enc : TypeId × Value → H) (F : Stop.Interp) :
    ReturnsInHanded {} Tryd.checked os 5 .any ((OpenSpec.ofChange Rows.journalBackSpec).preRow enc Tryd.prog Tryd.f5 Rows.journalBackRow.domain false Rows.journalBackRow.laid) (((OpenSpec.ofChange Rows.journalBackSpec).at F).post enc Tryd.prog Tryd.f5 false true false false) := by
  obtain ⟨places, hx⟩ := reads os enc
  refine returnsInHanded_of_row (C := Tryd.checked) (s := OpenSpec.ofChange Rows.journalBackSpec) own started (by kernel_rfl) Tryd.func5
    (witness_row_at (enc := enc) (C := Tryd.checked) false (laidWorld os) #[.agg (noRC.V none 0).toArray, .slice none 0 0, .int .i64 0] rfl (by kernel_rfl) (by kernel_rfl) (by kernel_rfl)
      (OpenSpec.preRow_of_cond 8 hx (by kernel_rfl) (fun k hk => by cases hk) (by kernel_rfl) (laid_met os))) ?_
  intro W base args ds gs before hval hW _ hcond hsz hL _ _
  exact contract H enc W base args ds gs before hval hW hsz hL
set_option maxRecDepth 100000 in
theorem said : Rows.JournalBackSaid :=
  OpenClaim.holds_of_cond 5 Tryd.f5 rfl rfl rfl rfl rfl rfl rfl ⟨rfl, rfl, rfl, rfl, rfl⟩ rfl rfl rfl rfl rfl (by kernel_rfl) Tryd.func5 (by kernel_rfl)
    (of_decide_eq_true (by kernel_rfl)) (by unfold Func.isWrapper; first | (rw [if_pos (by decide +kernel)]; kernel_rfl) | (rw [if_neg (by decide +kernel)]; exact ⟨rfl, rfl⟩))
    (fun os started H enc _ F => by rw [OpenClaim.pre_eq_preRow]; exact lifted os started H enc F)
theorem plain (f : FuncId) (fn : Func) (hf : Tryd.pinned.checked.prog.funcNamed "kiln/kilnlaw17.JournalBack" = some f) (hfn : Tryd.pinned.checked.prog.funcs[f]? = some fn) :
    false = Tryd.pinned.checked.prog.looks [] ∧ ∀ (j : Nat) t, fn.params[j]? = some t → Tryd.pinned.checked.prog.wantsStandIn t = false := by
  obtain rfl : f = 5 := Option.some.inj ((show Tryd.prog.funcNamed "kiln/kilnlaw17.JournalBack" = some 5 by kernel_rfl).symm.trans hf) |>.symm
  obtain rfl : fn = Tryd.f5 := (Option.some.inj (Tryd.func5.symm.trans hfn)).symm
  refine ⟨by kernel_rfl, fun j t ht => ?_⟩
  rw [Tryd.params5] at ht
  have hm : t ∈ [26, 29, 3] := by simpa using Array.mem_of_getElem? ht
  have hall : ([26, 29, 3].all fun u => !Tryd.prog.wantsStandIn u) = true := by kernel_rfl
  exact (show Tryd.prog.wantsStandIn t = false by simpa using List.all_eq_true.1 hall t hm)
set_option maxRecDepth 100000 in
theorem card : Rows.JournalBackCardSaid :=
  Claim7.holds_tied_plain_at .later [] _ _ _ _ said (fun _ h => by cases h) (by kernel_rfl) (fun _ h => by cases h) journalBack_row_tie rfl ⟨rfl, rfl⟩ (by kernel_rfl) rfl plain (by kernel_rfl)
#print axioms card
end Go.Proofs.YtagodmmpkapgnaaDoor.journalBack
namespace Go.Proofs.YtagodmmpkapgnaaDoor
theorem journalBack_card_holds : Rows.JournalBackCardSaid := journalBack.card
end Go.Proofs.YtagodmmpkapgnaaDoor
