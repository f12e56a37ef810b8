-- written by programs of this session; what nothing here names is left out
import Derived.Test.YtaflofcnjakaaaaDoorPrZ1
import Derived.Lib.SlBytesConst
import Derived.OpenShut
import Derived.WideShapes
import Derived.ChangeArms
import Derived.Test.YtaflofcnjakaaaaDoorProg
import Derived.Below
import Derived.Deep.Draws
import Derived.Deep.AppendLies
import Derived.Maps.AppendAt
import Derived.OwnWalk
import Derived.Laws.BytesArg
import Derived.Laws.MakeOwn
import Derived.Laws.OwnMore
import Derived.Deep.OwnRows
import Derived.Tactics
import Derived.Lib.ConvBytes
import Derived.Laws.Slices
import Derived.WalkKit
import Derived.KernelRfl
import Derived.RowKit3
import Derived.Deep.LoopGhost
import Derived.Deep.QuietTactic
import Derived.BigQuiet
import Derived.WideLaws
import Derived.Deep.DeepCutAuto
import Derived.Deep.CutBlock
import Derived.Deep.RegionHeld3
import Derived.Laws.Rows
import Derived.Lib.AppendStr
import Derived.ArgAppend
import Derived.Laws.IdiomCopy
import Derived.OrdersHeld
import Derived.Laws.BitsLemmas
import Derived.RowKit
import Derived.Laws.ResultCell
namespace Go.Proofs.YtaflofcnjakaaaaDoor.M
open Go.RowKit Go.Maps Go.Proofs.YtaflofcnjakaaaaDoorW.PrintWords Go.Proofs.YtaflofcnjakaaaaDoorW.PrintLast Go.Proofs.YtaflofcnjakaaaaDoorW.PrintMore Go.Proofs.YtaflofcnjakaaaaDoor.Wr Go.Proofs.YtaflofcnjakaaaaDoor.Pl Go.Proofs.YtaflofcnjakaaaaDoor.P Go.Proofs.YtaflofcnjakaaaaDoor.A
set_option linter.unusedVariables false
set_option linter.unusedSimpArgs false
def preB (s : SL) (j : Nat) : List Int := match j with
  | 0 => [107, 105, 108, 110]
  | 1 => [107, 105, 108, 110] ++ fixL s.a.toNat 4
  | 2 => [107, 105, 108, 110] ++ fixL s.a.toNat 4 ++ fixL s.b.toNat 4
  | 3 => [107, 105, 108, 110] ++ fixL s.a.toNat 4 ++ fixL s.b.toNat 4 ++ fixL s.c.toNat 8
  | 4 => [107, 105, 108, 110] ++ fixL s.a.toNat 4 ++ fixL s.b.toNat 4 ++ fixL s.c.toNat 8 ++ fixL s.d.toNat 8
  | _ => [107, 105, 108, 110] ++ fixL s.a.toNat 4 ++ fixL s.b.toNat 4 ++ fixL s.c.toNat 8 ++ fixL s.d.toNat 8 ++ fixL s.e.toNat 8
theorem preB_len (s : SL) : (preB s 0).length = 4 ∧ (preB s 1).length = 8 ∧ (preB s 2).length = 12 ∧ (preB s 3).length = 20 ∧ (preB s 4).length = 28 ∧ (preB s 5).length = 36 := by
  simp only [preB, List.length_append, fixL_len]
  exact ⟨rfl, rfl, rfl, rfl, rfl, rfl⟩
theorem preB_body (s : SL) : preB s 5 ++ s.key ++ refB s.rh s.rf s.rl ++ refB s.mh s.mf s.ml = bodyB s := by
  unfold bodyB numB
  simp only [preB, List.append_assoc]
theorem splice_pad {x : List Int} {n : Nat} (h : x.length = n) (m : Nat) : splice (List.replicate (n + m) (0 : Int)) 0 x = x ++ List.replicate m 0 := by
  unfold splice
  rw [List.take_zero, List.nil_append, Nat.zero_add, h, List.drop_replicate, Nat.add_sub_cancel_left]
theorem splice_end {x y z : List Int} {n : Nat} (h : x.length = n) (hz : z.length = y.length) : splice (x ++ y) n z = x ++ z := by
  unfold splice
  rw [take_app h, drop_add, drop_app h, hz, List.drop_length, List.append_nil]
theorem enc_splice {s : SL} (h : s.Ok) : splice (splice (List.replicate 512 0) 0 (bodyB s)) 508 (fixL (crc (padB s)) 4) = encB s := by
  rw [show (512 : Nat) = 148 + 364 from rfl, splice_pad (bodyB_len h), show (364 : Nat) = 360 + 4 from rfl, ← List.replicate_append_replicate, ← List.append_assoc]
  exact splice_end (padB_len h) (by rw [fixL_len, List.length_replicate])
theorem splice_take {s : SL} (h : s.Ok) : (splice (List.replicate 512 0) 0 (bodyB s)).take 508 = padB s := by
  rw [show (512 : Nat) = 148 + 364 from rfl, splice_pad (bodyB_len h), show (364 : Nat) = 360 + 4 from rfl, ← List.replicate_append_replicate, ← List.append_assoc]
  exact take_app (padB_len h)
theorem sum_one {b : List Int} (hb : bytes_ b) (hl : b.length ≤ 4611686018427387904) : wire_Sum.f [b] = some ((crc b : Nat) : Int) := by
  rw [sum_some [b] (by simp) (fun x hx => by rw [List.mem_singleton.1 hx]; exact ⟨hl, hb⟩)]
  rfl
section
variable {w0 w : World} {L : List Th}
theorem Sep.sum_blk {gq g ty e m c : Nat} {ys : List Int} {b : List Int} (h : Sep w0 w (cellsT gq #[.slice (some ⟨g, 0, none⟩) m c] e :: cellsT g (nums .u8 ys).toArray ty :: L)) (hH : Wr.Half w) (hb : bytes_ b) (hm : b.length = m) (hy : ys.take m = b) (hc : m ≤ c) (hl : m ≤ 1000000) :
    Calls Tryd.prog 39 #[.slice (some ⟨gq, 0, none⟩) 1 1] w fun e' w' => e' = .returned (.int .u32 ((crc b : Nat) : Int)) ∧ Sep w0 w' (cellsT gq #[.slice (some ⟨g, 0, none⟩) m c] e :: cellsT g (nums .u8 ys).toArray ty :: L) := by
  have hC : (Kd.int .u8).C w (some ⟨g, 0, none⟩) b.length b := C_segn h.up1.cells.1 0 b b.length rfl (by rw [List.drop_zero, hm]; unfold nums; rw [← List.map_take, hy]) (by omega)
  have hC2 : Kd.C (Kd.slice 5 (Kd.int .u8)) w (some ⟨gq, 0, none⟩) [b].length [b] := ⟨rfl, by show 1 ≤ 9223372036854775807; decide, fun _ => ⟨_, rfl, fun j p hp => by
    obtain rfl : j = 0 := by
      have := (List.getElem?_eq_some_iff.1 hp).1
      simp at this
      exact this
    cases hp
    refine ⟨[.slice (some ⟨g, 0, none⟩) m c], rfl, ⟨some ⟨g, 0, none⟩, c, by rw [hm], by omega, hC⟩, fun i u hu => ?_⟩
    obtain rfl : i = 0 := by
      have := (List.getElem?_eq_some_iff.1 hu).1
      simp at this
      exact this
    cases hu
    exact blk_cell h.cells.1 0⟩⟩
  refine (wire_Sum.calls (some ⟨gq, 0, none⟩) 1 [b] _ w hC2 (by show 1 ≤ 1; decide) hH (sum_one hb (by omega))).mono ?_
  rintro e' w' ⟨rfl, n, rfl⟩
  exact ⟨rfl, h.step (pw_below_drewN (Below.refl _ _) n)⟩
end
def enc11_T : Bool × List (List Nat × List Nat) := (true, [([], []), ([], []), ([1], [1]), ([0, 2], [0, 2]), ([], []), ([4], [4]), ([3, 5, 3], [3, 5]), ([6, 6, 0, 1, 2, 3, 4, 5, 6], [0, 6])])
def enc11_B : List Nat := [0, 0, 2, 7, 0, 16, 63, 127]
theorem enc11_tab : rtab .any (opsOf Tryd.f12 11) = enc11_T := by kernel_rfl
theorem enc11_bits : waitsOk enc11_T.2 enc11_B = true := by kernel_rfl
def enc14_T : Bool × List (List Nat × List Nat) := (true, [([], []), ([], []), ([1], [1]), ([2], [2]), ([3], [3]), ([4, 3], [4]), ([0, 5, 5], [0, 5])])
def enc14_B : List Nat := [0, 0, 2, 6, 14, 30, 63]
theorem enc14_tab : rtab .any (opsOf Tryd.f12 14) = enc14_T := by kernel_rfl
theorem enc14_bits : waitsOk enc14_T.2 enc14_B = true := by kernel_rfl
set_option maxHeartbeats 16000000 in
set_option maxRecDepth 100000 in
theorem Sep.encode {w0 w : World} {L : List Th} (hsep : Sep w0 w L) (hH : Wr.Half w0) (s : SL) (hs : s.Ok) (hm : mayM s = true) :
    Calls Tryd.prog 12 #[.agg s.V.toArray] w fun e w' => ∃ g, e = .returned (.tuple #[.slice (some ⟨g, 0, none⟩) 512 512, .int .i64 0]) ∧ Sep w0 w' (cellsT g (nums .u8 (encB s)).toArray 89 :: L) := by
  have HS0 := Aside0.mk (hsep.push_alloc s.V.toArray 27)
  have HHf := Aside0.mk hH
  have HOK := Aside0.mk hs
  have hmay := (may_iff s).1 hm
  have HMY := Aside0.mk hmay
  have HMR := Aside0.mk (show ((0 ≤ s.rf ∧ s.rf < 4294967296) ∧ (0 ≤ s.rl ∧ s.rl < 4294967296) ∧ (0 ≤ s.mf ∧ s.mf < 4294967296) ∧ (0 ≤ s.ml ∧ s.ml < 4294967296)) from by
    obtain ⟨a1, a2, b1, b2, ab, c, d, e, r, m⟩ := hmay
    omega)
  have HMAY := Aside0.mk (fun W => (show Calls Tryd.prog 35 #[.agg s.V.toArray] W (fun e w' => e = .returned (.bool true) ∧ Below W.heap.size W w') from by have h := may_calls s hs W; rw [hm] at h; exact h))
  have HFLD := Aside0.mk (fun W => fields_calls s hs W)
  have HSA := Aside0.mk (SlAt.sa hs)
  clear hsep hH hs hm hmay
  generalize hV : s.V.toArray = V at HS0 HMAY HFLD HSA ⊢
  have HV := Aside0.mk hV
  clear hV
  have HNB := Aside0.mk (show ((0 ≤ s.a ∧ s.a < 4294967296) ∧ (0 ≤ s.b ∧ s.b < 4294967296) ∧ (0 ≤ s.c ∧ s.c < 1099511627777) ∧ (0 ≤ s.d ∧ s.d < 1099511627777) ∧ (0 ≤ s.e ∧ s.e < 1099511627777)) from by
    obtain ⟨a1, a2, b1, b2, ab, c, d, e, r, m⟩ := HMY.out
    omega)
  have HLN := Aside0.mk (show (preB s 5 ++ s.key).length ≤ 1000000 ∧ (preB s 5 ++ s.key ++ refB s.rh s.rf s.rl).length ≤ 1000000 from by
    simp only [List.length_append, (preB_len s).2.2.2.2.2, HOK.out.k, refB_len HOK.out.r]
    omega)
  have hkc := fun (w : World) (C : Array Value) (n c : Nat) => Lib.run_convert_bytes_const (P := Tryd.prog) w 28 5 C n c Tryd.underlying28 Tryd.underlying5
  have hz := (zero_of_info (P := Tryd.prog) (t := 89) (v := .agg (nums .u8 (List.replicate 512 0)).toArray) (n := 512) (by kernel_rfl)).1
  generalize hZ : (nums .u8 (List.replicate 512 0)).toArray = Z at hz
  have HZ := Aside0.mk hZ
  clear hZ
  go_enter Tryd.func12, Tryd.ntmps12
  go_upto_region 1 with (fail)
  generalize w.alloc (.cells V 27) = w1 at HS0 ⊢
  generalize w.heap.size = g0 at HS0 ⊢
  have HLD := Aside0.mk (fun W (M : List Th) (h : Sep w0 W (cellsT g0 V 27 :: M)) => (show ∀ j v, V.toList[j]? = some v → W.cell? ((⟨g0, 0, none⟩ : Addr).add j) = some v from fun j v hv => seg_at (cs := V.toList) (by rw [Array.toArray_toList]; exact h.cells.1) 0 V.toList (by rw [List.drop_zero]; exact List.take_of_length_le (Nat.le_refl _)) j v hv))
  go_upto_region 4 with (first
    | ((with_reducible refine gate_load (ty := 27) rfl ?_); refine wpList_ldw ?_ 27 _ rfl ⟨g0, 0, none⟩ ?_ V _ (HLD.out _ _ HS0.out) Tryd.underlying27 rfl HSA.out ?_; exact rfl; exact rfl; skip)
    | (go_at_call 35; (with_reducible refine (HMAY.out _).mono ?_); rintro e w2 ⟨rfl, hb⟩; have HS1 := Aside0.mk (HS0.out.step hb); clear hb))
  clear hkc HMAY
  have HS2 := Aside0.mk (HS1.out.push_obj (.cells #[.int .u8 107, .int .u8 105, .int .u8 108, .int .u8 110] 5 (4, 5)))
  generalize w2.alloc (.cells #[.int .u8 107, .int .u8 105, .int .u8 108, .int .u8 110] 5 (4, 5)) = w3 at HS2 ⊢
  generalize w2.heap.size = gk at HS2 ⊢
  clear HS0 HS1
  go_upto_region 5 with (first
    | ((with_reducible refine gate_load (ty := 27) rfl ?_); refine wpList_ldw ?_ 27 _ rfl ⟨g0, 0, none⟩ ?_ V _ (HLD.out _ _ HS2.out.up1) Tryd.underlying27 rfl HSA.out ?_; exact rfl; exact rfl; skip)
    | (go_at_call 36; (with_reducible refine (HFLD.out _).mono ?_); rintro e w4 ⟨rfl, hb⟩; have HS3 := Aside0.mk (HS2.out.step hb); clear hb))
  have HS4 := Aside0.mk (HS3.out.push_alloc #[.int .i64 s.a, .int .i64 4, .int .i64 s.b, .int .i64 4, .int .i64 s.c, .int .i64 8, .int .i64 s.d, .int .i64 8, .int .i64 s.e, .int .i64 8] 84)
  generalize w4.alloc (.cells #[.int .i64 s.a, .int .i64 4, .int .i64 s.b, .int .i64 4, .int .i64 s.c, .int .i64 8, .int .i64 s.d, .int .i64 8, .int .i64 s.e, .int .i64 8] 84) = w5_ at HS4 ⊢
  generalize w4.heap.size = gf at HS4 ⊢
  clear HS2 HS3 HFLD
  go_wp2
  go_loopg [4, 18] 5 (fun kq v4 v18 wr => ∃ j : Nat, v18 = .int .i64 j ∧ Aside0 (j + kq = 5) ∧ ((j = 0 ∧ v4 = .slice (some ⟨gk, 0, none⟩) 4 4 ∧ Aside0 (Sep w0 wr (cellsT gf #[.int .i64 s.a, .int .i64 4, .int .i64 s.b, .int .i64 4, .int .i64 s.c, .int .i64 8, .int .i64 s.d, .int .i64 8, .int .i64 s.e, .int .i64 8] 84 :: blkT gk (.cells #[.int .u8 107, .int .u8 105, .int .u8 108, .int .u8 110] 5 (4, 5)) :: cellsT g0 V 27 :: L))) ∨
    (0 < j ∧ Aside0 (Sep w0 wr (ownT (Kd.int .u8) 5 v4 (preB s j) :: cellsT gf #[.int .i64 s.a, .int .i64 4, .int .i64 s.b, .int .i64 4, .int .i64 s.c, .int .i64 8, .int .i64 s.d, .int .i64 8, .int .i64 s.e, .int .i64 8] 84 :: blkT gk (.cells #[.int .u8 107, .int .u8 105, .int .u8 108, .int .u8 110] 5 (4, 5)) :: cellsT g0 V 27 :: L)))))
  case atStart => exact ⟨0, rfl, ⟨rfl⟩, .inl ⟨rfl, rfl, HS4⟩⟩
  case round =>
    obtain ⟨j, rfl, HJ, hst⟩ := hrel
    by_cases hj : j < 5
    · have hjj : j = 0 ∨ j = 1 ∨ j = 2 ∨ j = 3 ∨ j = 4 := by omega
      clear hj HS4
      rcases hst with ⟨rfl, rfl, hS⟩ | ⟨h0, hS⟩
      · have hf := blk_cell hS.out.cells.1
        clear hjj
        have y0 : wr.cell? ⟨gf, 0, none⟩ = some (.int .i64 s.a) := hf 0
        have y1 : wr.cell? ⟨gf, 1, none⟩ = some (.int .i64 4) := hf 1
        clear hf
        go_upto_region 8 with (fail)
        have HSr := Aside0.mk (hS.out.push_alloc #[.int .i64 s.a, .int .i64 4] 83)
        clear y0 y1
        generalize wr.alloc (.cells #[.int .i64 s.a, .int .i64 4] 83) = w5 at HSr ⊢
        generalize wr.heap.size = gt at HSr ⊢
        have z0 : w5.cell? ⟨gt, 0, none⟩ = some (.int .i64 s.a) := blk_cell HSr.out.cells.1 0
        have z1 : w5.cell? ⟨gt, 1, none⟩ = some (.int .i64 4) := blk_cell HSr.out.cells.1 1
        go_wp2_with (first
          | (go_at_call 37; (with_reducible refine (Sep.fixed4 HSr.out s.a (by have := HNB.out; omega) (by have := HNB.out; omega)).mono ?_); rintro e w6 ⟨v6, rfl, h6⟩; have HS6 := Aside0.mk h6; clear h6 z0 z1)
          | ((with_reducible refine gate_builtin (b := .append) (xs := #[.tmp 22, .tmp 27]) rfl ?_); refine Sep.app_grow rfl _ _ rfl rfl rfl (C_const (n := 4) (ys := [107, 105, 108, 110]) HS6.out.up3.blk rfl (by decide)) HS6.out ?aP0 ?aL0 ?_; (case aP0 => rw [fixL_len]; decide); (case aL0 => rw [fixL_len]; decide); intro v7 w7 h7; have HS7 := Aside0.mk h7; clear h7))
        go_roundg (gk - 1)
        case measure => have := HJ.out; omega
        case rel => exact ⟨1, rfl, ⟨by have := HJ.out; omega⟩, .inr ⟨by decide, ⟨HS7.out.up1.drop.up1.drop⟩⟩⟩
      · have hf := blk_cell hS.out.up1.cells.1
        rcases hjj with rfl | rfl | rfl | rfl | rfl
        · omega
        · have y0 : wr.cell? ⟨gf, 2, none⟩ = some (.int .i64 s.b) := hf 2
          have y1 : wr.cell? ⟨gf, 3, none⟩ = some (.int .i64 4) := hf 3
          clear hf
          go_upto_region 8 with (fail)
          have HSr := Aside0.mk (hS.out.push_alloc #[.int .i64 s.b, .int .i64 4] 83)
          clear y0 y1
          generalize wr.alloc (.cells #[.int .i64 s.b, .int .i64 4] 83) = w5 at HSr ⊢
          generalize wr.heap.size = gt at HSr ⊢
          have z0 : w5.cell? ⟨gt, 0, none⟩ = some (.int .i64 s.b) := blk_cell HSr.out.cells.1 0
          have z1 : w5.cell? ⟨gt, 1, none⟩ = some (.int .i64 4) := blk_cell HSr.out.cells.1 1
          go_wp2_with (first
            | (go_at_call 37; (with_reducible refine (Sep.fixed4 HSr.out s.b (by have := HNB.out; omega) (by have := HNB.out; omega)).mono ?_); rintro e w6 ⟨v6, rfl, h6⟩; have HS6 := Aside0.mk h6; clear h6 z0 z1)
            | ((with_reducible refine gate_builtin (b := .append) (xs := #[.tmp 22, .tmp 27]) rfl ?_); refine Sep.app_own rfl _ _ rfl rfl rfl HS6.out.up2 ?aL1 ?_; (case aL1 => have := preB_len s; rw [fixL_len]; omega); intro v7 w7 h7; have HS7 := Aside0.mk h7; clear h7))
          go_roundg (gk - 1)
          case measure => have := HJ.out; omega
          case rel => exact ⟨2, rfl, ⟨by have := HJ.out; omega⟩, .inr ⟨by decide, ⟨HS7.out.up1.drop.up1.drop⟩⟩⟩
        · have y0 : wr.cell? ⟨gf, 4, none⟩ = some (.int .i64 s.c) := hf 4
          have y1 : wr.cell? ⟨gf, 5, none⟩ = some (.int .i64 8) := hf 5
          clear hf
          go_upto_region 8 with (fail)
          have HSr := Aside0.mk (hS.out.push_alloc #[.int .i64 s.c, .int .i64 8] 83)
          clear y0 y1
          generalize wr.alloc (.cells #[.int .i64 s.c, .int .i64 8] 83) = w5 at HSr ⊢
          generalize wr.heap.size = gt at HSr ⊢
          have z0 : w5.cell? ⟨gt, 0, none⟩ = some (.int .i64 s.c) := blk_cell HSr.out.cells.1 0
          have z1 : w5.cell? ⟨gt, 1, none⟩ = some (.int .i64 8) := blk_cell HSr.out.cells.1 1
          go_wp2_with (first
            | (go_at_call 37; (with_reducible refine (Sep.fixed8 HSr.out s.c (by have := HNB.out; omega) (by have := HNB.out; omega)).mono ?_); rintro e w6 ⟨v6, rfl, h6⟩; have HS6 := Aside0.mk h6; clear h6 z0 z1)
            | ((with_reducible refine gate_builtin (b := .append) (xs := #[.tmp 22, .tmp 27]) rfl ?_); refine Sep.app_own rfl _ _ rfl rfl rfl HS6.out.up2 ?aL2 ?_; (case aL2 => have := preB_len s; rw [fixL_len]; omega); intro v7 w7 h7; have HS7 := Aside0.mk h7; clear h7))
          go_roundg (gk - 1)
          case measure => have := HJ.out; omega
          case rel => exact ⟨3, rfl, ⟨by have := HJ.out; omega⟩, .inr ⟨by decide, ⟨HS7.out.up1.drop.up1.drop⟩⟩⟩
        · have y0 : wr.cell? ⟨gf, 6, none⟩ = some (.int .i64 s.d) := hf 6
          have y1 : wr.cell? ⟨gf, 7, none⟩ = some (.int .i64 8) := hf 7
          clear hf
          go_upto_region 8 with (fail)
          have HSr := Aside0.mk (hS.out.push_alloc #[.int .i64 s.d, .int .i64 8] 83)
          clear y0 y1
          generalize wr.alloc (.cells #[.int .i64 s.d, .int .i64 8] 83) = w5 at HSr ⊢
          generalize wr.heap.size = gt at HSr ⊢
          have z0 : w5.cell? ⟨gt, 0, none⟩ = some (.int .i64 s.d) := blk_cell HSr.out.cells.1 0
          have z1 : w5.cell? ⟨gt, 1, none⟩ = some (.int .i64 8) := blk_cell HSr.out.cells.1 1
          go_wp2_with (first
            | (go_at_call 37; (with_reducible refine (Sep.fixed8 HSr.out s.d (by have := HNB.out; omega) (by have := HNB.out; omega)).mono ?_); rintro e w6 ⟨v6, rfl, h6⟩; have HS6 := Aside0.mk h6; clear h6 z0 z1)
            | ((with_reducible refine gate_builtin (b := .append) (xs := #[.tmp 22, .tmp 27]) rfl ?_); refine Sep.app_own rfl _ _ rfl rfl rfl HS6.out.up2 ?aL3 ?_; (case aL3 => have := preB_len s; rw [fixL_len]; omega); intro v7 w7 h7; have HS7 := Aside0.mk h7; clear h7))
          go_roundg (gk - 1)
          case measure => have := HJ.out; omega
          case rel => exact ⟨4, rfl, ⟨by have := HJ.out; omega⟩, .inr ⟨by decide, ⟨HS7.out.up1.drop.up1.drop⟩⟩⟩
        · have y0 : wr.cell? ⟨gf, 8, none⟩ = some (.int .i64 s.e) := hf 8
          have y1 : wr.cell? ⟨gf, 9, none⟩ = some (.int .i64 8) := hf 9
          clear hf
          go_upto_region 8 with (fail)
          have HSr := Aside0.mk (hS.out.push_alloc #[.int .i64 s.e, .int .i64 8] 83)
          clear y0 y1
          generalize wr.alloc (.cells #[.int .i64 s.e, .int .i64 8] 83) = w5 at HSr ⊢
          generalize wr.heap.size = gt at HSr ⊢
          have z0 : w5.cell? ⟨gt, 0, none⟩ = some (.int .i64 s.e) := blk_cell HSr.out.cells.1 0
          have z1 : w5.cell? ⟨gt, 1, none⟩ = some (.int .i64 8) := blk_cell HSr.out.cells.1 1
          go_wp2_with (first
            | (go_at_call 37; (with_reducible refine (Sep.fixed8 HSr.out s.e (by have := HNB.out; omega) (by have := HNB.out; omega)).mono ?_); rintro e w6 ⟨v6, rfl, h6⟩; have HS6 := Aside0.mk h6; clear h6 z0 z1)
            | ((with_reducible refine gate_builtin (b := .append) (xs := #[.tmp 22, .tmp 27]) rfl ?_); refine Sep.app_own rfl _ _ rfl rfl rfl HS6.out.up2 ?aL4 ?_; (case aL4 => have := preB_len s; rw [fixL_len]; omega); intro v7 w7 h7; have HS7 := Aside0.mk h7; clear h7))
          go_roundg (gk - 1)
          case measure => have := HJ.out; omega
          case rel => exact ⟨5, rfl, ⟨by have := HJ.out; omega⟩, .inr ⟨by decide, ⟨HS7.out.up1.drop.up1.drop⟩⟩⟩
    · have hj5 : j = 5 := by have := HJ.out; omega
      rcases hst with ⟨hz, _, _⟩ | ⟨h0, hS⟩
      · omega
      · subst hj5
        have HS5 := Aside0.mk (hS.out.up1.drop.up1.drop)
        clear hj h0 hS HS4 HJ
        have HSLf := Aside0.mk (fun W (t : Th) (M : List Th) (h : Sep w0 W (t :: cellsT g0 V 27 :: M)) => (show SlAt W g0 s from ⟨by rw [HV.out]; exact h.up1.cells.1, HOK.out⟩))
        have HC5 := Aside0.mk (show (Kd.int .u8).C wr (some ⟨g0, 5, none⟩) 32 s.key from C_segn (HSLf.out _ _ _ HS5.out).b 5 s.key 32 HOK.out.k (by have := SL.V_key HOK.out; rwa [HOK.out.k] at this) (by decide))
        go_upto_region 11 with ((with_reducible refine gate_builtin (b := .append) (xs := #[.tmp 30, .tmp 32]) rfl ?_); refine Sep.app_row rfl _ _ rfl s.key rfl rfl HS5.out HC5.out ?aK ?_; (case aK => have := preB_len s; omega); intro v6 w6 h6; have HS6 := Aside0.mk h6; clear h6)
        have HS7 := Aside0.mk (HS6.out.step (below_drew1 (Below.refl w6.heap.size w6)))
        have HSL := Aside0.mk (HSLf.out _ _ _ HS7.out)
        clear HS5 HC5 HS6
        refine start_ (n := 8) (S := fun W => SlAt W g0 s) (ds := [7]) (bb 8 0) (by kernel_rfl) rfl rfl (HSL.out) (fun hHeld => ?_); refine with_tabW enc11_tab enc11_bits (fun HT_ HW_ => ?_)
        generalize w6.drew = wd at hHeld HS7 ⊢
        refine pure_ (i := 0) (N := (some 34)) (v := ?_) (a' := ?_) (bb 8 1) rfl rfl (any_of HT_.out (by kernel_rfl)) (fun _ _ _ h => h) (Or.inl ⟨by rfl, ?_⟩) ?_ ?_
        rotate_left
        · intro w'
          go_simp
          with_reducible rfl
        rotate_left
        · simp only [Act.put, List.setIfInBounds_toArray, List.set_cons_zero, List.set_cons_succ, i64_w, i32_w]
          rfl
        refine pure_ (i := 1) (N := (some 35)) (v := ?_) (a' := ?_) (bb 8 3) rfl rfl (any_of HT_.out (by kernel_rfl)) (fun _ _ _ h => h) (Or.inl ⟨by rfl, ?_⟩) ?_ ?_
        rotate_left
        · intro w'
          go_simp
          with_reducible rfl
        rotate_left
        · simp only [Act.put, List.setIfInBounds_toArray, List.set_cons_zero, List.set_cons_succ, i64_w, i32_w]
          rfl
        refine take_ (i := 2) (N := (some 36)) (v := .agg (refV s.rh s.rf s.rl).toArray) (a' := ?_) (bb 8 7) rfl rfl (take_ofW HT_.out HW_.out (by kernel_rfl)) (fun _ _ _ h => h) (Or.inl ⟨by rfl, fun w' s0 => yields_ld 25 _ rfl ⟨g0, 37, none⟩ rfl (refV s.rh s.rf s.rl).toArray _ s0.root Tryd.underlying25 rfl (SlAt.sr HOK.out)⟩) hHeld ?_ ?_
        rotate_left
        · simp only [Act.put, List.setIfInBounds_toArray, List.set_cons_zero, List.set_cons_succ, i64_w, i32_w]
          rfl
        refine pure_ (i := 4) (N := (some 38)) (v := ?_) (a' := ?_) (bb 8 23) rfl rfl (any_of HT_.out (by kernel_rfl)) (fun _ _ _ h => h) (Or.inl ⟨by rfl, ?_⟩) ?_ ?_
        rotate_left
        · intro w'
          go_simp
          with_reducible rfl
        rotate_left
        · simp only [Act.put, List.setIfInBounds_toArray, List.set_cons_zero, List.set_cons_succ, i64_w, i32_w]
          rfl
        refine take_ (i := 5) (N := (some 39)) (v := .agg (refV s.mh s.mf s.ml).toArray) (a' := ?_) (bb 8 55) rfl rfl (take_ofW HT_.out HW_.out (by kernel_rfl)) (fun _ _ _ h => h) (Or.inl ⟨by rfl, fun w' s0 => yields_ld 25 _ rfl ⟨g0, 71, none⟩ rfl (refV s.mh s.mf s.ml).toArray _ s0.memo Tryd.underlying25 rfl (SlAt.sm HOK.out)⟩) hHeld ?_ ?_
        rotate_left
        · simp only [Act.put, List.setIfInBounds_toArray, List.set_cons_zero, List.set_cons_succ, i64_w, i32_w]
          rfl
        refine one_ (i := 3) (N := (some 37)) (bb 8 63) rfl rfl (one_of HT_.out (by kernel_rfl)) (by decide) (fun K hK => ?_)
        refine goes_ Tryd.func38 (by kernel_rfl) rfl #[v6, .agg (refV s.rh s.rf s.rl).toArray] (by rfl) rfl rfl (by (try simp only [List.map_toArray, List.map_cons, List.map_nil]); first | done | rfl) ?_
        with_reducible refine (Sep.laid HS7.out s.rh s.rf s.rl HOK.out.r HMR.out.1 HMR.out.2.1 HLN.out.1).mono ?_
        rintro e w8 ⟨v8, rfl, h8⟩
        have HS8 := Aside0.mk h8
        clear h8
        refine ⟨_, rfl, ?_⟩
        refine hK.out _ _ (HSLf.out _ _ _ HS8.out) (fun hHeld => ?_)
        clear hK K
        refine norm_ (a' := ?_) ?_ ?_
        rotate_left
        · show Act.put _ (some 37) _ = _
          simp only [Act.put, List.setIfInBounds_toArray, List.set_cons_zero, List.set_cons_succ, i64_w, i32_w]
          rfl
        refine one_ (i := 6) (N := (some 40)) (bb 8 127) rfl rfl (one_of HT_.out (by kernel_rfl)) (by decide) (fun K hK => ?_)
        refine goes_ Tryd.func38 (by kernel_rfl) rfl #[v8, .agg (refV s.mh s.mf s.ml).toArray] (by rfl) rfl rfl (by (try simp only [List.map_toArray, List.map_cons, List.map_nil]); first | done | rfl) ?_
        with_reducible refine (Sep.laid HS8.out s.mh s.mf s.ml HOK.out.m HMR.out.2.2.1 HMR.out.2.2.2 HLN.out.2).mono ?_
        rintro e w9 ⟨v9, rfl, h9⟩
        have HS9 := Aside0.mk h9
        clear h9
        refine ⟨_, rfl, ?_⟩
        refine hK.out _ _ (HSLf.out _ _ _ HS9.out) (fun hHeld => ?_)
        clear hK K
        refine norm_ (a' := ?_) ?_ ?_
        rotate_left
        · show Act.put _ (some 40) _ = _
          simp only [Act.put, List.setIfInBounds_toArray, List.set_cons_zero, List.set_cons_succ, i64_w, i32_w]
          rfl
        refine pure_ (i := 7) (N := (some 4)) (v := ?_) (a' := ?_) (bb 8 255) rfl rfl (any_of HT_.out (by kernel_rfl)) (fun _ _ _ h => h) (Or.inl ⟨by rfl, ?_⟩) ?_ ?_
        rotate_left
        · intro w'
          go_simp
          with_reducible rfl
        rotate_left
        · simp only [Act.put, List.setIfInBounds_toArray, List.set_cons_zero, List.set_cons_succ, i64_w, i32_w]
          rfl
        refine done_ (done_of HT_.out (by kernel_rfl)) ?_
        have HS9b := Aside0.mk (show Sep w0 w9 (ownT (Kd.int .u8) 5 v9 (bodyB s) :: cellsT g0 V 27 :: L) from by have h := HS9.out; rwa [preB_body] at h)
        clear HS7 HS8 HS9 HSL hHeld HT_ HW_
        go_upto_region 13 with (fail)
        have HS10 := Aside0.mk (show Sep w0 (w9.alloc (.cells Z 89)) (cellsT w9.heap.size (nums .u8 (List.replicate 512 0)).toArray 89 :: ownT (Kd.int .u8) 5 v9 (bodyB s) :: cellsT g0 V 27 :: L) from by rw [HZ.out]; exact HS9b.out.push_alloc Z 89)
        generalize w9.alloc (.cells Z 89) = w10 at HS10 ⊢
        generalize w9.heap.size = g8 at HS10 ⊢
        clear HS9b hz
        go_upto_region 14 with ((with_reducible refine gate_builtin (b := .copy) (xs := #[.tmp 41, .tmp 42]) rfl ?_); refine Sep.copy_own (off := 0) rfl _ _ rfl rfl rfl HS10.out ?aP ?aQ ?aR ?_; (case aP => rw [bodyB_len HOK.out]; decide); (case aQ => rw [bodyB_len HOK.out]; decide); (case aR => rw [bodyB_len HOK.out, List.length_replicate]; decide); intro w11 h11; have HS11_ := Aside0.mk h11; clear h11)
        have HS11 := Aside0.mk (HS11_.out.step (below_drew1 (Below.refl w11.heap.size w11)))
        have HZL := Aside0.mk (show 508 + 4 ≤ (splice (List.replicate 512 (0 : Int)) 0 (bodyB s)).length from by rw [length_splice _ _ _ (by rw [bodyB_len HOK.out, List.length_replicate]; decide), List.length_replicate]; decide)
        have HSUM := Aside0.mk (fun W gq (M : List Th) (h : Sep w0 W (cellsT gq #[.slice (some ⟨g8, 0, none⟩) 508 512] 28 :: cellsT g8 (nums .u8 (splice (List.replicate 512 0) 0 (bodyB s))).toArray 89 :: M)) => Sep.sum_blk (b := padB s) h (HHf.out.below h.below) (bytes_padB HOK.out) (padB_len HOK.out) (splice_take HOK.out) (by decide) (by decide))
        have hnn : crc (padB s) < 4294967296 := crc_lt _
        have HES := Aside0.mk (enc_splice HOK.out)
        generalize crc (padB s) = n at HSUM hnn HES
        have HNL := Aside0.mk (show (n : Int) < 4294967296 by omega)
        have hwn : IntKind.i64.wrap (n : Int) = (n : Int) := by unfold IntKind.wrap; simp [IntKind.signed, IntKind.bits]; omega
        have hwn0 : (0 : Int) ≤ (n : Int) := by omega
        have hwn1 : (n : Int) ≤ 4294967295 := by omega
        clear HS10 HS11_ hnn
        refine start_ (n := 7) (S := fun W => True) (ds := [6]) (bb 7 0) (by kernel_rfl) rfl rfl (trivial) (fun hHeld => ?_); refine with_tabW enc14_tab enc14_bits (fun HT_ HW_ => ?_)
        generalize w11.drew = wd at hHeld HS11 ⊢
        refine pure_ (i := 0) (N := (some 44)) (v := ?_) (a' := ?_) (bb 7 1) rfl rfl (any_of HT_.out (by kernel_rfl)) (fun _ _ _ h => h) (Or.inl ⟨by rfl, ?_⟩) ?_ ?_
        rotate_left
        · intro w'
          go_simp
          with_reducible rfl
        rotate_left
        · simp only [Act.put, List.setIfInBounds_toArray, List.set_cons_zero, List.set_cons_succ, i64_w, i32_w]
          rfl
        refine pure_ (i := 1) (N := (some 45)) (v := ?_) (a' := ?_) (bb 7 3) rfl rfl (any_of HT_.out (by kernel_rfl)) (fun _ _ _ h => h) (Or.inl ⟨by rfl, ?_⟩) ?_ ?_
        rotate_left
        · intro w'
          go_simp
          with_reducible rfl
        rotate_left
        · simp only [Act.put, List.setIfInBounds_toArray, List.set_cons_zero, List.set_cons_succ, i64_w, i32_w]
          rfl
        refine one_ (i := 2) (N := (some 46)) (bb 7 7) rfl rfl (one_of HT_.out (by kernel_rfl)) (by decide) (fun K hK => ?_)
        refine value_ (w1 := ?_) (v := ?_) (by rfl) rfl ?_ ?_
        rotate_left 2
        · go_simp
          constructor
          · rfl
          · rfl
        have HSB := Aside0.mk (HS11.out.push_alloc #[.slice (some ⟨g8, 0, none⟩) 508 512] 28)
        generalize wd.alloc (.cells #[.slice (some ⟨g8, 0, none⟩) 508 512] 28) = w12 at HSB ⊢
        generalize wd.heap.size = gq at HSB ⊢
        refine hK.out _ _ (trivial) (fun hHeld => ?_)
        clear hK K
        refine norm_ (a' := ?_) ?_ ?_
        rotate_left
        · show Act.put _ (some 46) _ = _
          simp only [Act.put, List.setIfInBounds_toArray, List.set_cons_zero, List.set_cons_succ, i64_w, i32_w]
          rfl
        refine one_ (i := 3) (N := (some 47)) (bb 7 15) rfl rfl (one_of HT_.out (by kernel_rfl)) (by decide) (fun K hK => ?_)
        refine goes_ Tryd.func39 (by kernel_rfl) rfl #[.slice (some ⟨gq, 0, none⟩) 1 1] (by rfl) rfl rfl (by (try simp only [List.map_toArray, List.map_cons, List.map_nil]); first | done | rfl) ?_
        refine (HSUM.out w12 gq _ HSB.out).mono ?_
        rintro e w13 ⟨rfl, h13⟩
        have HS13 := Aside0.mk h13
        clear h13
        refine ⟨_, rfl, ?_⟩
        refine hK.out _ _ (trivial) (fun hHeld => ?_)
        clear hK K
        refine norm_ (a' := ?_) ?_ ?_
        rotate_left
        · show Act.put _ (some 47) _ = _
          simp only [Act.put, List.setIfInBounds_toArray, List.set_cons_zero, List.set_cons_succ, i64_w, i32_w]
          rfl
        refine pure_ (i := 4) (N := (some 48)) (v := ?_) (a' := ?_) (bb 7 31) rfl rfl (any_of HT_.out (by kernel_rfl)) (fun _ _ _ h => h) (Or.inl ⟨by rfl, ?_⟩) ?_ ?_
        rotate_left
        · intro w'
          go_simp
          with_reducible rfl
        rotate_left
        · simp only [Act.put, List.setIfInBounds_toArray, List.set_cons_zero, List.set_cons_succ, i64_w, i32_w]
          rfl
        refine one_ (i := 5) (N := (some 49)) (bb 7 63) rfl rfl (one_of HT_.out (by kernel_rfl)) (by decide) (fun K hK => ?_)
        refine goes_ Tryd.func37 (by kernel_rfl) rfl #[.int .i64 (n : Int), .int .i64 4] (by rfl) rfl rfl (by (try simp only [List.map_toArray, List.map_cons, List.map_nil]); first | done | rfl) ?_
        with_reducible refine (Sep.fixed4 HS13.out (n : Int) (Int.natCast_nonneg n) HNL.out).mono ?_
        rintro e w14 ⟨v14, rfl, h14⟩
        have HS14 := Aside0.mk h14
        clear h14
        refine ⟨_, rfl, ?_⟩
        refine hK.out _ _ (trivial) (fun hHeld => ?_)
        clear hK K
        refine norm_ (a' := ?_) ?_ ?_
        rotate_left
        · show Act.put _ (some 49) _ = _
          simp only [Act.put, List.setIfInBounds_toArray, List.set_cons_zero, List.set_cons_succ, i64_w, i32_w]
          rfl
        refine last_ (i := 6) (N := (some 50)) (bb 7 127) rfl rfl (one_of HT_.out (by kernel_rfl)) (by decide) (fun K hK => ?_)
        rw [if_pos (by rfl)]
        refine Sep.copy_wp (off := 508) _ _ rfl rfl rfl HS14.out.up2 (by rw [fixL_len]; decide) (by rw [fixL_len]; decide) (by rw [fixL_len]; exact HZL.out) (fun w15 h15 => ?_)
        have HS15 := Aside0.mk h15
        clear h15
        refine hK.out _ _ ?_
        clear hK K
        refine norm_ (a' := ?_) ?_ ?_
        rotate_left
        · show Act.put _ (some 50) _ = _
          simp only [Act.put, List.setIfInBounds_toArray, List.set_cons_zero, List.set_cons_succ, i64_w, i32_w]
          rfl
        refine done_ (done_of HT_.out (by kernel_rfl)) ?_
        clear HS11 HSB HS13 HS14 HSUM HZL HNL hHeld hwn hwn0 hwn1
        go_wp2
        go_ret2
        exact ⟨g8, rfl, by have h := HS15.out.up1.drop.up1.drop.up1.drop.up1.drop; rw [Int.toNat_natCast, HES.out] at h; exact h⟩
end Go.Proofs.YtaflofcnjakaaaaDoor.M

namespace Go.Proofs.YtaflofcnjakaaaaDoor.M
open Go.RowKit Go.Maps Go.Proofs.YtaflofcnjakaaaaDoorW.PrintWords Go.Proofs.YtaflofcnjakaaaaDoorW.PrintLast Go.Proofs.YtaflofcnjakaaaaDoorW.PrintMore Go.Proofs.YtaflofcnjakaaaaDoor.Wr Go.Proofs.YtaflofcnjakaaaaDoor.Pl Go.Proofs.YtaflofcnjakaaaaDoor.P Go.Proofs.YtaflofcnjakaaaaDoor.A
set_option linter.unusedVariables false
set_option linter.unusedSimpArgs false
set_option maxHeartbeats 8000000 in
set_option maxRecDepth 100000 in
theorem encode_no (s : SL) (hs : s.Ok) (hm : mayM s = false) (w : World) : Calls Tryd.prog 12 #[.agg s.V.toArray] w fun e w' => e = .returned (.tuple #[.slice none 0 0, .int .i64 180]) ∧ Below w.heap.size w w' := by
  have HB0 := Aside0.mk (below_alloc (Below.refl w.heap.size w) (.cells s.V.toArray 27))
  have HLD := Aside0.mk (SlAt.all (SlAt.mk (heap_alloc_new w (.cells s.V.toArray 27)) hs))
  have HMAY := Aside0.mk (fun W => (show Calls Tryd.prog 35 #[.agg s.V.toArray] W (fun e w' => e = .returned (.bool false) ∧ Below W.heap.size W w') from by have h := may_calls s hs W; rw [hm] at h; exact h))
  have HSA := Aside0.mk (SlAt.sa hs)
  clear hs hm
  generalize s.V.toArray = V at HB0 HLD HMAY HSA ⊢
  go_enter Tryd.func12, Tryd.ntmps12
  go_upto_region 1 with (fail)
  generalize w.alloc (.cells V 27) = w1 at HB0 HLD ⊢
  generalize w.heap.size = g0 at HLD ⊢
  go_wp2_with (first
    | ((with_reducible refine gate_load (ty := 27) rfl ?_); refine wpList_ldw ?_ 27 _ rfl ⟨g0, 0, none⟩ ?_ V _ HLD.out Tryd.underlying27 rfl HSA.out ?_; exact rfl; exact rfl; skip)
    | (go_at_call 35; (with_reducible refine (HMAY.out _).mono ?_); rintro e w2 ⟨rfl, hb⟩; have HB1 := Aside0.mk (below_step HB0.out hb); clear hb))
  go_ret2
  exact ⟨rfl, HB1.out⟩
theorem readF_at {b : List Int} (hb : bytes_ b) (hl : b.length = 512) (p n : Nat) (h1 : 1 ≤ n) (h8 : n ≤ 8) (hp : p + n ≤ 512) : ∃ k, wire_ReadFixed.f k b (p : Int) (n : Int) = some (((leV ((b.drop p).take n) : Nat) : Int), ((p + n : Nat) : Int), 0) := by
  obtain ⟨K, hK⟩ := readF_ev hb (by omega) (p : Int) (n : Int)
  have h2 : wire_ReadFixed.f K b (p : Int) (n : Int) = some (readFR b (p : Int) (n : Int)) := hK K (Nat.le_refl _)
  refine ⟨K, ?_⟩
  rw [h2]
  unfold readFR
  rw [if_neg (by omega), if_neg (by omega), Int.toNat_natCast, Int.toNat_natCast]
  rfl
def ReadsB (w0 : World) (L : List Th) (A : Option Addr) (b : List Int) : Prop := ∀ (W : World) (M : List Th), Sub L M → Sep w0 W M → (Kd.int .u8).C W A 512 b
def num1_T : Bool × List (List Nat × List Nat) := (true, [([], []), ([0], [0]), ([1], [1]), ([2], [2]), ([], []), ([4], [4]), ([5], [5]), ([6], [6]), ([], []), ([3, 7, 8], [3, 7, 8]), ([9], [9]), ([10], [10]), ([10], [10]), ([10], [10]), ([11, 9, 0, 1, 2, 3, 4, 5, 6, 7, 8, 9, 10, 11], [11]), ([12, 14, 0, 1, 2, 3, 4, 5, 6, 7, 8, 9, 10, 11, 12, 14], [12]), ([13, 15, 0, 1, 2, 3, 4, 5, 6, 7, 8, 9, 10, 11, 12, 13, 14, 15], [13])])
def num1_B : List Nat := [0, 1, 3, 7, 0, 16, 48, 112, 0, 511, 1023, 2047, 2047, 2047, 4095, 24575, 65535]
theorem num1_tab : rtab .any (opsOf Tryd.f56 1) = num1_T := by kernel_rfl
theorem num1_bits : waitsOk num1_T.2 num1_B = true := by kernel_rfl
set_option maxHeartbeats 8000000 in
set_option maxRecDepth 100000 in
theorem Sep.number {w0 w : World} {L : List Th} {gc : Nat} {A : Option Addr} {c p : Nat} {b : List Int} (h : Sep w0 w (cellsT gc #[.slice A 512 c, .int .i64 (p : Int)] 117 :: L)) (hR : ReadsB w0 L A b) (hb : bytes_ b) (hl : b.length = 512) (hc : 512 ≤ c) (n : Nat) (h1 : 1 ≤ n) (h8 : n ≤ 8) (hp : p + n ≤ 512) :
    Calls Tryd.prog 56 #[.pointer (some ⟨gc, 0, none⟩), .int .i64 (n : Int)] w fun e w' => e = .returned (.int .i64 (numAt b p n)) ∧ Sep w0 w' (cellsT gc #[.slice A 512 c, .int .i64 ((p + n : Nat) : Int)] 117 :: L) := by
  have HS0 := Aside0.mk h
  have HC0 := Aside0.mk (hR w _ (Sub.c (Sub.r _)) h)
  obtain ⟨k, hk⟩ := readF_at hb hl p n h1 h8 hp
  have HRF := Aside0.mk (fun W (hC : (Kd.int .u8).C W A 512 b) => (show Calls Tryd.prog 71 #[.slice A 512 c, .int .i64 (p : Int), .int .i64 (n : Int)] W _ from by
    have h := wire_ReadFixed.calls k A c b (p : Int) (n : Int) _ _ _ W (by rw [hl]; exact hC) (by omega) hk
    rw [hl] at h
    exact h))
  have HNA := Aside0.mk (show numAt b p n = wrap64 ((leV ((b.drop p).take n) : Nat) : Int) from rfl)
  have hv : leV ((b.drop p).take n) < 18446744073709551616 := by
    have h2 := leV_lt ((b.drop p).take n) (bytes_take (bytes_drop hb _) _)
    have h3 : ((b.drop p).take n).length = n := by rw [List.length_take, List.length_drop]; omega
    rw [h3] at h2
    have h4 : 256 ^ n ≤ 256 ^ 8 := Nat.pow_le_pow_right (by decide) h8
    have h5 : (256 : Nat) ^ 8 = 18446744073709551616 := by decide
    omega
  generalize leV ((b.drop p).take n) = v at HRF HNA hv
  generalize hnv : numAt b p n = nv at HNA ⊢
  have HNP := Aside0.mk (show ((p + n : Nat) : Int) = ((p + n : Nat) : Int) from rfl)
  generalize ((p + n : Nat) : Int) = pn at HRF HNP ⊢
  clear h hR hb hl hc h1 h8 hp hk hnv
  go_enter Tryd.func56, Tryd.ntmps56
  go_upto_region 1 with (fail)
  have HS1 := Aside0.mk (HS0.out.step (below_drew1 (Below.refl w.heap.size w)))
  have HC1 := Aside0.mk (Kd.C_below HC0.out (below_drew1 (Below.refl w.heap.size w)))
  refine start_ (n := 17) (S := fun W => W.cell? ⟨gc, 0, none⟩ = some (.slice A 512 c) ∧ W.cell? ⟨gc, 1, none⟩ = some (.int .i64 (p : Int))) (ds := [16]) (bb 17 0) (by kernel_rfl) rfl rfl (⟨blk_cell HS1.out.cells.1 0, blk_cell HS1.out.cells.1 1⟩) (fun hHeld => ?_); refine with_tabW num1_tab num1_bits (fun HT_ HW_ => ?_)
  generalize w.drew = wd at hHeld HS1 HC1 ⊢
  refine pure_ (i := 0) (N := (some 9)) (v := ?_) (a' := ?_) (bb 17 1) rfl rfl (any_of HT_.out (by kernel_rfl)) (fun _ _ _ h => h) (Or.inl ⟨by rfl, ?_⟩) ?_ ?_
  rotate_left
  · intro w'
    go_simp
    with_reducible rfl
  rotate_left
  · simp only [Act.put, List.setIfInBounds_toArray, List.set_cons_zero, List.set_cons_succ, i64_w, i32_w]
    rfl
  refine pure_ (i := 1) (N := (some 10)) (v := ?_) (a' := ?_) (bb 17 3) rfl rfl (any_of HT_.out (by kernel_rfl)) (fun _ _ _ h => h) (Or.inl ⟨by rfl, ?_⟩) ?_ ?_
  rotate_left
  · intro w'
    go_simp
    with_reducible rfl
  rotate_left
  · simp only [Act.put, List.setIfInBounds_toArray, List.set_cons_zero, List.set_cons_succ, i64_w, i32_w]
    rfl
  refine pure_ (i := 2) (N := (some 11)) (v := ?_) (a' := ?_) (bb 17 7) rfl rfl (any_of HT_.out (by kernel_rfl)) (fun _ _ _ h => h) (Or.inl ⟨by rfl, ?_⟩) ?_ ?_
  rotate_left
  · intro w'
    go_simp
    with_reducible rfl
  rotate_left
  · simp only [Act.put, List.setIfInBounds_toArray, List.set_cons_zero, List.set_cons_succ, i64_w, i32_w]
    rfl
  refine take_ (i := 3) (N := (some 12)) (v := ?_) (a' := ?_) (bb 17 15) rfl rfl (take_ofW HT_.out HW_.out (by kernel_rfl)) (fun _ _ _ h => h) (Or.inl ⟨by rfl, ?_⟩) hHeld ?_ ?_
  rotate_left
  · intro w' s0
    (try dsimp only at s0)
    go_simp
    with_reducible rfl
  rotate_left
  · simp only [Act.put, List.setIfInBounds_toArray, List.set_cons_zero, List.set_cons_succ, i64_w, i32_w]
    rfl
  refine pure_ (i := 4) (N := (some 13)) (v := ?_) (a' := ?_) (bb 17 31) rfl rfl (any_of HT_.out (by kernel_rfl)) (fun _ _ _ h => h) (Or.inl ⟨by rfl, ?_⟩) ?_ ?_
  rotate_left
  · intro w'
    go_simp
    with_reducible rfl
  rotate_left
  · simp only [Act.put, List.setIfInBounds_toArray, List.set_cons_zero, List.set_cons_succ, i64_w, i32_w]
    rfl
  refine pure_ (i := 5) (N := (some 14)) (v := ?_) (a' := ?_) (bb 17 63) rfl rfl (any_of HT_.out (by kernel_rfl)) (fun _ _ _ h => h) (Or.inl ⟨by rfl, ?_⟩) ?_ ?_
  rotate_left
  · intro w'
    go_simp
    with_reducible rfl
  rotate_left
  · simp only [Act.put, List.setIfInBounds_toArray, List.set_cons_zero, List.set_cons_succ, i64_w, i32_w]
    rfl
  refine pure_ (i := 6) (N := (some 15)) (v := ?_) (a' := ?_) (bb 17 127) rfl rfl (any_of HT_.out (by kernel_rfl)) (fun _ _ _ h => h) (Or.inl ⟨by rfl, ?_⟩) ?_ ?_
  rotate_left
  · intro w'
    go_simp
    with_reducible rfl
  rotate_left
  · simp only [Act.put, List.setIfInBounds_toArray, List.set_cons_zero, List.set_cons_succ, i64_w, i32_w]
    rfl
  refine take_ (i := 7) (N := (some 16)) (v := ?_) (a' := ?_) (bb 17 255) rfl rfl (take_ofW HT_.out HW_.out (by kernel_rfl)) (fun _ _ _ h => h) (Or.inl ⟨by rfl, ?_⟩) hHeld ?_ ?_
  rotate_left
  · intro w' s0
    (try dsimp only at s0)
    go_simp
    with_reducible rfl
  rotate_left
  · simp only [Act.put, List.setIfInBounds_toArray, List.set_cons_zero, List.set_cons_succ, i64_w, i32_w]
    rfl
  refine pure_ (i := 8) (N := (some 17)) (v := ?_) (a' := ?_) (bb 17 511) rfl rfl (any_of HT_.out (by kernel_rfl)) (fun _ _ _ h => h) (Or.inl ⟨by rfl, ?_⟩) ?_ ?_
  rotate_left
  · intro w'
    go_simp
    with_reducible rfl
  rotate_left
  · simp only [Act.put, List.setIfInBounds_toArray, List.set_cons_zero, List.set_cons_succ, i64_w, i32_w]
    rfl
  refine one_ (i := 9) (N := (some 18)) (bb 17 1023) rfl rfl (one_of HT_.out (by kernel_rfl)) (by decide) (fun K hK => ?_)
  refine goes_ Tryd.func71 (by kernel_rfl) rfl #[.slice A 512 c, .int .i64 (p : Int), .int .i64 (n : Int)] (by rfl) rfl rfl (by (try simp only [List.map_toArray, List.map_cons, List.map_nil]); first | done | rfl) ?_
  refine (HRF.out _ HC1.out).mono ?_
  rintro e w3 ⟨rfl, hd⟩
  have HB3 := Aside0.mk hd
  clear hd
  refine ⟨_, rfl, ?_⟩
  refine hK.out _ _ ((by obtain ⟨nd, rfl⟩ := HB3.out; exact hHeld)) (fun hHeld => ?_)
  clear hK K
  refine norm_ (a' := ?_) ?_ ?_
  rotate_left
  · show Act.put _ (some 18) _ = _
    simp only [Act.put, List.setIfInBounds_toArray, List.set_cons_zero, List.set_cons_succ, i64_w, i32_w]
    rfl
  refine pure_ (i := 10) (N := (some 8)) (v := ?_) (a' := ?_) (bb 17 2047) rfl rfl (any_of HT_.out (by kernel_rfl)) (fun _ _ _ h => h) (Or.inl ⟨by rfl, ?_⟩) ?_ ?_
  rotate_left
  · intro w'
    go_simp
    with_reducible rfl
  rotate_left
  · simp only [Act.put, List.setIfInBounds_toArray, List.set_cons_zero, List.set_cons_succ, i64_w, i32_w]
    rfl
  refine pure_ (i := 11) (N := (some 19)) (v := ?_) (a' := ?_) (bb 17 4095) rfl rfl (any_of HT_.out (by kernel_rfl)) (fun _ _ _ h => h) (Or.inl ⟨by rfl, ?_⟩) ?_ ?_
  rotate_left
  · intro w'
    go_simp
    with_reducible rfl
  rotate_left
  · simp only [Act.put, List.setIfInBounds_toArray, List.set_cons_zero, List.set_cons_succ, i64_w, i32_w]
    rfl
  refine pure_ (i := 12) (N := (some 20)) (v := ?_) (a' := ?_) (bb 17 8191) rfl rfl (any_of HT_.out (by kernel_rfl)) (fun _ _ _ h => h) (Or.inl ⟨by rfl, ?_⟩) ?_ ?_
  rotate_left
  · intro w'
    go_simp
    with_reducible rfl
  rotate_left
  · simp only [Act.put, List.setIfInBounds_toArray, List.set_cons_zero, List.set_cons_succ, i64_w, i32_w]
    rfl
  refine pure_ (i := 13) (N := (some 21)) (v := ?_) (a' := ?_) (bb 17 16383) rfl rfl (any_of HT_.out (by kernel_rfl)) (fun _ _ _ h => h) (Or.inl ⟨by rfl, ?_⟩) ?_ ?_
  rotate_left
  · intro w'
    go_simp
    with_reducible rfl
  rotate_left
  · simp only [Act.put, List.setIfInBounds_toArray, List.set_cons_zero, List.set_cons_succ, i64_w, i32_w]
    rfl
  refine pure_ (i := 14) (N := (some 5)) (v := ?_) (a' := ?_) (bb 17 32767) rfl rfl (any_of HT_.out (by kernel_rfl)) (fun _ _ _ h => h) (Or.inl ⟨by rfl, ?_⟩) ?_ ?_
  rotate_left
  · intro w'
    go_simp
    with_reducible rfl
  rotate_left
  · simp only [Act.put, List.setIfInBounds_toArray, List.set_cons_zero, List.set_cons_succ, i64_w, i32_w]
    rfl
  refine pure_ (i := 15) (N := (some 6)) (v := ?_) (a' := ?_) (bb 17 65535) rfl rfl (any_of HT_.out (by kernel_rfl)) (fun _ _ _ h => h) (Or.inl ⟨by rfl, ?_⟩) ?_ ?_
  rotate_left
  · intro w'
    go_simp
    with_reducible rfl
  rotate_left
  · simp only [Act.put, List.setIfInBounds_toArray, List.set_cons_zero, List.set_cons_succ, i64_w, i32_w]
    rfl
  refine pure_ (i := 16) (N := (some 7)) (v := ?_) (a' := ?_) (bb 17 131071) rfl rfl (any_of HT_.out (by kernel_rfl)) (fun _ _ _ h => h) (Or.inl ⟨by rfl, ?_⟩) ?_ ?_
  rotate_left
  · intro w'
    go_simp
    with_reducible rfl
  rotate_left
  · simp only [Act.put, List.setIfInBounds_toArray, List.set_cons_zero, List.set_cons_succ, i64_w, i32_w]
    rfl
  refine done_ (done_of HT_.out (by kernel_rfl)) ?_
  have HS3 := Aside0.mk (HS1.out.step (show Below wd.heap.size wd w3 from by obtain ⟨nd, rfl⟩ := HB3.out; exact pw_below_drewN (Below.refl _ _) nd))
  clear HS0 HS1 HC0 HC1 HRF hHeld HB3 HT_ HW_
  have x1 : w3.cell? ⟨gc, 1, none⟩ = some (.int .i64 (p : Int)) := blk_cell HS3.out.cells.1 1
  have f1 : w3.frozen? ⟨gc, 1, none⟩ = false := blk_frozen HS3.out.cells.1 1
  have hv0 : (0 : Int) ≤ (v : Int) := by omega
  go_wp2
  go_ret
  exact ⟨by rw [HNA.out]; rfl, HS3.out.cset 1 (.int .i64 pn)⟩
end Go.Proofs.YtaflofcnjakaaaaDoor.M

namespace Go.Proofs.YtaflofcnjakaaaaDoor.M
open Go.RowKit Go.Maps Go.Proofs.YtaflofcnjakaaaaDoorW.PrintWords Go.Proofs.YtaflofcnjakaaaaDoorW.PrintLast Go.Proofs.YtaflofcnjakaaaaDoorW.PrintMore Go.Proofs.YtaflofcnjakaaaaDoor.Wr Go.Proofs.YtaflofcnjakaaaaDoor.Pl Go.Proofs.YtaflofcnjakaaaaDoor.P Go.Proofs.YtaflofcnjakaaaaDoor.A
set_option linter.unusedVariables false
set_option linter.unusedSimpArgs false
theorem arr23 (ad : Addr) (c : Nat) (W : World) : (Instr.arrayAt 23 (.slice (some ad) 32 c)).run Tryd.prog W = .ok (.pointer (some ad)) W := by
  simp [Instr.arrayAt, Sem.run_bind, run_underlying Tryd.underlying23]
def key1_T : Bool × List (List Nat × List Nat) := (true, [([], []), ([0], [0]), ([1], [1]), ([2], [2]), ([], []), ([4], [4]), ([5], [5]), ([6], [6]), ([], []), ([8], [8]), ([9], [9]), ([10], [10]), ([11], [11]), ([3, 7, 12], [3, 7, 12]), ([13], [13]), ([14], [14]), ([], []), ([16, 15, 0, 1, 2, 3, 4, 5, 6, 7, 8, 9, 10, 11, 12, 13, 14, 15, 16], [15, 16])])
def key1_B : List Nat := [0, 1, 3, 7, 0, 16, 48, 112, 0, 256, 768, 1792, 3840, 8191, 16383, 32767, 0, 131071]
theorem key1_tab : rtab .any (opsOf Tryd.f57 1) = key1_T := by kernel_rfl
theorem key1_bits : waitsOk key1_T.2 key1_B = true := by kernel_rfl
set_option maxHeartbeats 8000000 in
set_option maxRecDepth 100000 in
theorem Sep.key {w0 w : World} {L : List Th} {gc : Nat} {A : Option Addr} {c p : Nat} {b : List Int} (h : Sep w0 w (cellsT gc #[.slice A 512 c, .int .i64 (p : Int)] 117 :: L)) (hR : ReadsB w0 L A b) (hb : bytes_ b) (hl : b.length = 512) (hc : 512 ≤ c) (hp : p + 32 ≤ 512) :
    Calls Tryd.prog 57 #[.pointer (some ⟨gc, 0, none⟩)] w fun e w' => e = .returned (.agg (nums .u8 (keyAt b p)).toArray) ∧ Sep w0 w' (cellsT gc #[.slice A 512 c, .int .i64 ((p + 32 : Nat) : Int)] 117 :: L) := by
  obtain ⟨ad, rfl, _⟩ := (hR w _ (Sub.c (Sub.r _)) h).2.2 (by decide)
  have HCK := Aside0.mk (fun W (M : List Th) (hs : Sub L M) (h : Sep w0 W M) => (show ∀ j v, (nums .u8 (keyAt b p))[j]? = some v → W.cell? ((ad.add p).add j) = some v from by
    intro j v hv
    have hj : j < 32 := by have := (List.getElem?_eq_some_iff.1 hv).1; rwa [nums_length, keyAt_len hl hp] at this
    have h1 := C_cells (hR W M hs h) (p + j) v (by
      unfold keyAt nums at hv
      unfold nums
      rw [List.getElem?_map, List.getElem?_take, if_pos hj, List.getElem?_drop] at hv
      rw [List.getElem?_map]
      exact hv)
    rwa [Addr.add_add]))
  have HKL := Aside0.mk (keyAt_len hl hp)
  generalize keyAt b p = ky at HCK HKL ⊢
  have HSZ := Aside0.mk (show (Tryd.prog.info? 23).map (·.size) = some (nums .u8 ky).toArray.size from size23 (by simpa [nums_length] using HKL.out))
  have HS0 := Aside0.mk h
  clear h hR hb hl
  have hz := (zero_of_info (P := Tryd.prog) (t := 23) (v := .agg (nums .u8 (List.replicate 32 0)).toArray) (n := 32) (by kernel_rfl)).1
  generalize hZ : (nums .u8 (List.replicate 32 0)).toArray = Z at hz
  have HZ := Aside0.mk hZ
  clear hZ
  go_enter Tryd.func57, Tryd.ntmps57
  go_upto_region 1 with (fail)
  have HSa := Aside0.mk (HS0.out.push_alloc Z 23)
  generalize w.alloc (.cells Z 23) = w2 at HSa ⊢
  generalize w.heap.size = gr at HSa ⊢
  have HS1 := Aside0.mk (HSa.out.step (below_drew1 (Below.refl w2.heap.size w2)))
  clear HS0
  have hp0 : (0 : Int) ≤ (p : Int) := by omega
  have hp1 : (p : Int) + 32 ≤ (c : Int) := by omega
  have hp2 : IntKind.i64.wrap ((p : Int) + 32) = (p : Int) + 32 := by unfold IntKind.wrap; simp [IntKind.signed, IntKind.bits]; omega
  have hcp : ¬ c = p := by omega
  have harr := arr23 (ad.add p) (c - p)
  have hq1 : (0 : Int) ≤ (p : Int) + 32 := by omega
  have hq2 : ((p : Int) + 32).toNat = p + 32 := by omega
  have hq3 : p + 32 - p = 32 := by omega
  have hq4 : p ≤ p + 32 := by omega
  refine start_ (n := 18) (S := fun W => W.cell? ⟨gc, 0, none⟩ = some (.slice (some ad) 512 c) ∧ W.cell? ⟨gc, 1, none⟩ = some (.int .i64 (p : Int)) ∧ (∀ j v, (nums .u8 ky)[j]? = some v → W.cell? ((ad.add p).add j) = some v)) (ds := [17]) (bb 18 0) (by kernel_rfl) rfl rfl (⟨blk_cell HS1.out.up1.cells.1 0, blk_cell HS1.out.up1.cells.1 1, HCK.out _ _ (Sub.c (Sub.c (Sub.r _))) HS1.out⟩) (fun hHeld => ?_); refine with_tabW key1_tab key1_bits (fun HT_ HW_ => ?_)
  generalize w2.drew = wd at hHeld HS1 ⊢
  refine pure_ (i := 0) (N := (some 4)) (v := ?_) (a' := ?_) (bb 18 1) rfl rfl (any_of HT_.out (by kernel_rfl)) (fun _ _ _ h => h) (Or.inl ⟨by rfl, ?_⟩) ?_ ?_
  rotate_left
  · intro w'
    go_simp
    with_reducible rfl
  rotate_left
  · simp only [Act.put, List.setIfInBounds_toArray, List.set_cons_zero, List.set_cons_succ, i64_w, i32_w]
    rfl
  refine pure_ (i := 1) (N := (some 5)) (v := ?_) (a' := ?_) (bb 18 3) rfl rfl (any_of HT_.out (by kernel_rfl)) (fun _ _ _ h => h) (Or.inl ⟨by rfl, ?_⟩) ?_ ?_
  rotate_left
  · intro w'
    go_simp
    with_reducible rfl
  rotate_left
  · simp only [Act.put, List.setIfInBounds_toArray, List.set_cons_zero, List.set_cons_succ, i64_w, i32_w]
    rfl
  refine pure_ (i := 2) (N := (some 6)) (v := ?_) (a' := ?_) (bb 18 7) rfl rfl (any_of HT_.out (by kernel_rfl)) (fun _ _ _ h => h) (Or.inl ⟨by rfl, ?_⟩) ?_ ?_
  rotate_left
  · intro w'
    go_simp
    with_reducible rfl
  rotate_left
  · simp only [Act.put, List.setIfInBounds_toArray, List.set_cons_zero, List.set_cons_succ, i64_w, i32_w]
    rfl
  refine take_ (i := 3) (N := (some 7)) (v := ?_) (a' := ?_) (bb 18 15) rfl rfl (take_ofW HT_.out HW_.out (by kernel_rfl)) (fun _ _ _ h => h) (Or.inl ⟨by rfl, ?_⟩) hHeld ?_ ?_
  rotate_left
  · intro w' s0
    (try dsimp only at s0)
    go_simp
    with_reducible rfl
  rotate_left
  · simp only [Act.put, List.setIfInBounds_toArray, List.set_cons_zero, List.set_cons_succ, i64_w, i32_w]
    rfl
  refine pure_ (i := 4) (N := (some 8)) (v := ?_) (a' := ?_) (bb 18 31) rfl rfl (any_of HT_.out (by kernel_rfl)) (fun _ _ _ h => h) (Or.inl ⟨by rfl, ?_⟩) ?_ ?_
  rotate_left
  · intro w'
    go_simp
    with_reducible rfl
  rotate_left
  · simp only [Act.put, List.setIfInBounds_toArray, List.set_cons_zero, List.set_cons_succ, i64_w, i32_w]
    rfl
  refine pure_ (i := 5) (N := (some 9)) (v := ?_) (a' := ?_) (bb 18 63) rfl rfl (any_of HT_.out (by kernel_rfl)) (fun _ _ _ h => h) (Or.inl ⟨by rfl, ?_⟩) ?_ ?_
  rotate_left
  · intro w'
    go_simp
    with_reducible rfl
  rotate_left
  · simp only [Act.put, List.setIfInBounds_toArray, List.set_cons_zero, List.set_cons_succ, i64_w, i32_w]
    rfl
  refine pure_ (i := 6) (N := (some 10)) (v := ?_) (a' := ?_) (bb 18 127) rfl rfl (any_of HT_.out (by kernel_rfl)) (fun _ _ _ h => h) (Or.inl ⟨by rfl, ?_⟩) ?_ ?_
  rotate_left
  · intro w'
    go_simp
    with_reducible rfl
  rotate_left
  · simp only [Act.put, List.setIfInBounds_toArray, List.set_cons_zero, List.set_cons_succ, i64_w, i32_w]
    rfl
  refine take_ (i := 7) (N := (some 11)) (v := ?_) (a' := ?_) (bb 18 255) rfl rfl (take_ofW HT_.out HW_.out (by kernel_rfl)) (fun _ _ _ h => h) (Or.inl ⟨by rfl, ?_⟩) hHeld ?_ ?_
  rotate_left
  · intro w' s0
    (try dsimp only at s0)
    go_simp
    with_reducible rfl
  rotate_left
  · simp only [Act.put, List.setIfInBounds_toArray, List.set_cons_zero, List.set_cons_succ, i64_w, i32_w]
    rfl
  refine pure_ (i := 8) (N := (some 12)) (v := ?_) (a' := ?_) (bb 18 511) rfl rfl (any_of HT_.out (by kernel_rfl)) (fun _ _ _ h => h) (Or.inl ⟨by rfl, ?_⟩) ?_ ?_
  rotate_left
  · intro w'
    go_simp
    with_reducible rfl
  rotate_left
  · simp only [Act.put, List.setIfInBounds_toArray, List.set_cons_zero, List.set_cons_succ, i64_w, i32_w]
    rfl
  refine pure_ (i := 9) (N := (some 13)) (v := ?_) (a' := ?_) (bb 18 1023) rfl rfl (any_of HT_.out (by kernel_rfl)) (fun _ _ _ h => h) (Or.inl ⟨by rfl, ?_⟩) ?_ ?_
  rotate_left
  · intro w'
    go_simp
    with_reducible rfl
  rotate_left
  · simp only [Act.put, List.setIfInBounds_toArray, List.set_cons_zero, List.set_cons_succ, i64_w, i32_w]
    rfl
  refine pure_ (i := 10) (N := (some 14)) (v := ?_) (a' := ?_) (bb 18 2047) rfl rfl (any_of HT_.out (by kernel_rfl)) (fun _ _ _ h => h) (Or.inl ⟨by rfl, ?_⟩) ?_ ?_
  rotate_left
  · intro w'
    go_simp
    with_reducible rfl
  rotate_left
  · simp only [Act.put, List.setIfInBounds_toArray, List.set_cons_zero, List.set_cons_succ, i64_w, i32_w]
    rfl
  refine take_ (i := 11) (N := (some 15)) (v := ?_) (a' := ?_) (bb 18 4095) rfl rfl (take_ofW HT_.out HW_.out (by kernel_rfl)) (fun _ _ _ h => h) (Or.inl ⟨by rfl, ?_⟩) hHeld ?_ ?_
  rotate_left
  · intro w' s0
    (try dsimp only at s0)
    go_simp
    with_reducible rfl
  rotate_left
  · simp only [Act.put, List.setIfInBounds_toArray, List.set_cons_zero, List.set_cons_succ, i64_w, i32_w]
    rfl
  refine pure_ (i := 12) (N := (some 16)) (v := ?_) (a' := ?_) (bb 18 8191) rfl rfl (any_of HT_.out (by kernel_rfl)) (fun _ _ _ h => h) (Or.inl ⟨by rfl, ?_⟩) ?_ ?_
  rotate_left
  · intro w'
    go_simp
    with_reducible rfl
  rotate_left
  · simp only [Act.put, List.setIfInBounds_toArray, List.set_cons_zero, List.set_cons_succ, i64_w, i32_w]
    rfl
  refine pure_ (i := 13) (N := (some 17)) (v := ?_) (a' := ?_) (bb 18 16383) rfl rfl (any_of HT_.out (by kernel_rfl)) (fun _ _ _ h => h) (Or.inl ⟨by rfl, ?_⟩) ?_ ?_
  rotate_left
  · intro w'
    go_simp
    with_reducible rfl
  rotate_left
  · simp only [Act.put, List.setIfInBounds_toArray, List.set_cons_zero, List.set_cons_succ, i64_w, i32_w]
    rfl
  refine pure_ (i := 14) (N := (some 18)) (v := ?_) (a' := ?_) (bb 18 32767) rfl rfl (any_of HT_.out (by kernel_rfl)) (fun _ _ _ h => h) (Or.inl ⟨by rfl, ?_⟩) ?_ ?_
  rotate_left
  · intro w'
    go_simp
    with_reducible rfl
  rotate_left
  · simp only [Act.put, List.setIfInBounds_toArray, List.set_cons_zero, List.set_cons_succ, i64_w, i32_w]
    rfl
  refine take_ (i := 15) (N := (some 19)) (v := .agg (nums .u8 ky).toArray) (a' := ?_) (bb 18 65535) rfl rfl (take_ofW HT_.out HW_.out (by kernel_rfl)) (fun _ _ _ h => h) (Or.inl ⟨by rfl, fun w' s0 => yields_ld 23 _ rfl (ad.add p) rfl (nums .u8 ky).toArray _ s0.2.2 Tryd.underlying23 rfl HSZ.out⟩) hHeld ?_ ?_
  rotate_left
  · simp only [Act.put, List.setIfInBounds_toArray, List.set_cons_zero, List.set_cons_succ, i64_w, i32_w]
    rfl
  refine one_ (i := 16) (N := (some 3)) (bb 18 131071) rfl rfl (one_of HT_.out (by kernel_rfl)) (by decide) (fun K hK => ?_)
  refine value_ (w1 := ?_) (v := ?_) (by rfl) rfl ?_ ?_
  rotate_left 2
  · go_simp
    constructor
    · rfl
    · rfl
  have HSb := Aside0.mk (HS1.out.push_alloc Z 23)
  generalize wd.alloc (.cells Z 23) = w3 at HSb ⊢
  generalize wd.heap.size = gk at HSb ⊢
  refine hK.out _ _ (⟨blk_cell HSb.out.up2.cells.1 0, blk_cell HSb.out.up2.cells.1 1, HCK.out _ _ (Sub.c (Sub.c (Sub.c (Sub.r _)))) HSb.out⟩) (fun hHeld => ?_)
  clear hK K
  refine norm_ (a' := ?_) ?_ ?_
  rotate_left
  · show Act.put _ (some 3) _ = _
    simp only [Act.put, List.setIfInBounds_toArray, List.set_cons_zero, List.set_cons_succ, i64_w, i32_w]
    rfl
  refine last_ (i := 17) (N := none) (bb 18 262143) rfl rfl (one_of HT_.out (by kernel_rfl)) (by decide) (fun K hK => ?_)
  rw [if_pos (by rfl)]
  refine Sep.store_wp 23 _ _ rfl rfl rfl HSb.out HSZ.out (show Z.size = (nums .u8 ky).toArray.size from by rw [← HZ.out]; simp [nums_length, HKL.out]) (nums_all ky) (fun w4 h4 => ?_)
  have HS4 := Aside0.mk h4
  clear h4
  refine hK.out _ _ ?_
  clear hK K
  refine norm_ (a' := ?_) ?_ ?_
  rotate_left
  · show Act.put _ none _ = _
    simp only [Act.put, List.setIfInBounds_toArray, List.set_cons_zero, List.set_cons_succ, i64_w, i32_w]
    rfl
  refine done_ (done_of HT_.out (by kernel_rfl)) ?_
  have HS2 := Aside0.mk (show Sep w0 w4 (cellsT gc #[.slice (some ad) 512 c, .int .i64 (p : Int)] 117 :: cellsT gk (nums .u8 ky).toArray 23 :: cellsT gr Z 23 :: L) from HS4.out.up2)
  clear HSa HS1 HSb HS4 hHeld harr hq1 hq2 hq3 hq4 hp2 hp1 hcp HT_ HW_ hz
  have x1 : w4.cell? ⟨gc, 1, none⟩ = some (.int .i64 (p : Int)) := blk_cell HS2.out.cells.1 1
  have f1 : w4.frozen? ⟨gc, 1, none⟩ = false := blk_frozen HS2.out.cells.1 1
  have hp32 : (p : Int) + 32 ≤ 600 := by omega
  go_upto_region 3 with (fail)
  have HS5 := Aside0.mk (show Sep w0 (w4.setCell ⟨gc, 1, none⟩ (.int .i64 ((p : Int) + 32))) (cellsT gc #[.slice (some ad) 512 c, .int .i64 ((p : Int) + 32)] 117 :: cellsT gk (nums .u8 ky).toArray 23 :: cellsT gr Z 23 :: L) from HS2.out.cset 1 (.int .i64 ((p : Int) + 32)))
  clear HS2 x1 f1
  generalize w4.setCell ⟨gc, 1, none⟩ (.int .i64 ((p : Int) + 32)) = w5 at HS5 ⊢
  have HK5 := Aside0.mk (show ∀ j v, (nums .u8 ky).toArray.toList[j]? = some v → w5.cell? ((⟨gk, 0, none⟩ : Addr).add j) = some v from fun j v hv => seg_at HS5.out.up1.cells.1 0 (nums .u8 ky) (by rw [List.drop_zero]; exact List.take_of_length_le (Nat.le_refl _)) j v (by simpa using hv))
  have HZs := Aside0.mk (show Z.size = (nums .u8 ky).toArray.size from by rw [← HZ.out]; simp [nums_length, HKL.out])
  go_wp2_with (first
    | ((with_reducible refine gate_load (ty := 23) rfl ?_); refine wpList_ldw ?_ 23 _ rfl ⟨gk, 0, none⟩ ?_ (nums .u8 ky).toArray _ HK5.out Tryd.underlying23 rfl HSZ.out ?_; exact rfl; exact rfl; skip)
    | ((with_reducible refine gate_store (ty := 23) rfl ?_); refine Sep.store_own rfl 23 _ _ rfl rfl rfl HS5.out.up2 HSZ.out HZs.out (nums_all ky) ?_; intro w6 h6; have HS6 := Aside0.mk h6; clear h6))
  refine bodyPost_ret (results_cell_row (p := 2) (ty := 23) rfl _ _ gr 23 (nums .u8 ky).toArray (0, 0) _ rfl HS6.out.cells.1 Tryd.underlying23 rfl HSZ.out) rfl ⟨rfl, ?_⟩
  exact HS6.out.drop.up1.drop
end Go.Proofs.YtaflofcnjakaaaaDoor.M

namespace Go.Proofs.YtaflofcnjakaaaaDoor.M
open Go.RowKit Go.Maps Go.Proofs.YtaflofcnjakaaaaDoorW.PrintWords Go.Proofs.YtaflofcnjakaaaaDoorW.PrintLast Go.Proofs.YtaflofcnjakaaaaDoorW.PrintMore Go.Proofs.YtaflofcnjakaaaaDoor.Wr Go.Proofs.YtaflofcnjakaaaaDoor.Pl Go.Proofs.YtaflofcnjakaaaaDoor.P Go.Proofs.YtaflofcnjakaaaaDoor.A
set_option linter.unusedVariables false
set_option linter.unusedSimpArgs false
theorem list32 (l : List Int) (h : l.length = 32) : ∃ x0 x1 x2 x3 x4 x5 x6 x7 x8 x9 x10 x11 x12 x13 x14 x15 x16 x17 x18 x19 x20 x21 x22 x23 x24 x25 x26 x27 x28 x29 x30 x31 : Int, l = [x0, x1, x2, x3, x4, x5, x6, x7, x8, x9, x10, x11, x12, x13, x14, x15, x16, x17, x18, x19, x20, x21, x22, x23, x24, x25, x26, x27, x28, x29, x30, x31] := by
  rcases l with _ | ⟨x0, l⟩
  · simp at h
  rcases l with _ | ⟨x1, l⟩
  · simp at h
  rcases l with _ | ⟨x2, l⟩
  · simp at h
  rcases l with _ | ⟨x3, l⟩
  · simp at h
  rcases l with _ | ⟨x4, l⟩
  · simp at h
  rcases l with _ | ⟨x5, l⟩
  · simp at h
  rcases l with _ | ⟨x6, l⟩
  · simp at h
  rcases l with _ | ⟨x7, l⟩
  · simp at h
  rcases l with _ | ⟨x8, l⟩
  · simp at h
  rcases l with _ | ⟨x9, l⟩
  · simp at h
  rcases l with _ | ⟨x10, l⟩
  · simp at h
  rcases l with _ | ⟨x11, l⟩
  · simp at h
  rcases l with _ | ⟨x12, l⟩
  · simp at h
  rcases l with _ | ⟨x13, l⟩
  · simp at h
  rcases l with _ | ⟨x14, l⟩
  · simp at h
  rcases l with _ | ⟨x15, l⟩
  · simp at h
  rcases l with _ | ⟨x16, l⟩
  · simp at h
  rcases l with _ | ⟨x17, l⟩
  · simp at h
  rcases l with _ | ⟨x18, l⟩
  · simp at h
  rcases l with _ | ⟨x19, l⟩
  · simp at h
  rcases l with _ | ⟨x20, l⟩
  · simp at h
  rcases l with _ | ⟨x21, l⟩
  · simp at h
  rcases l with _ | ⟨x22, l⟩
  · simp at h
  rcases l with _ | ⟨x23, l⟩
  · simp at h
  rcases l with _ | ⟨x24, l⟩
  · simp at h
  rcases l with _ | ⟨x25, l⟩
  · simp at h
  rcases l with _ | ⟨x26, l⟩
  · simp at h
  rcases l with _ | ⟨x27, l⟩
  · simp at h
  rcases l with _ | ⟨x28, l⟩
  · simp at h
  rcases l with _ | ⟨x29, l⟩
  · simp at h
  rcases l with _ | ⟨x30, l⟩
  · simp at h
  rcases l with _ | ⟨x31, l⟩
  · simp at h
  rcases l with _ | ⟨y, l⟩
  · exact ⟨x0, x1, x2, x3, x4, x5, x6, x7, x8, x9, x10, x11, x12, x13, x14, x15, x16, x17, x18, x19, x20, x21, x22, x23, x24, x25, x26, x27, x28, x29, x30, x31, rfl⟩
  · simp at h
set_option maxRecDepth 100000 in
theorem built25 (ky : List Int) (h : ky.length = 32) (f l : Int) : Tryd.prog.built 25 [(0, .agg (nums .u8 ky).toArray), (1, .int .i64 f), (2, .int .i64 l)] = some (refV ky f l).toArray := by
  obtain ⟨x0, x1, x2, x3, x4, x5, x6, x7, x8, x9, x10, x11, x12, x13, x14, x15, x16, x17, x18, x19, x20, x21, x22, x23, x24, x25, x26, x27, x28, x29, x30, x31, rfl⟩ := list32 ky h
  kernel_rfl
theorem gate_build {P : Program} {ops : Array Oper} {rest : List Oper} {o : Oper} {a : Act} {w : World} {Q : Exit → Act → World → Prop} {ty : TypeId} {ps : Array (Nat × Operand)} (_ho : o.op = .build ty ps) (h : wpList P ops Q (o :: rest) a w) : wpList P ops Q (o :: rest) a w := h
def z32 : List Int := List.replicate 32 0
set_option maxRecDepth 100000 in
theorem built27 (ky : List Int) (h : ky.length = 32) (a b c d e : Int) : Tryd.prog.built 27 [(0, .int .i64 a), (1, .int .i64 b), (2, .int .i64 c), (3, .int .i64 d), (4, .int .i64 e), (5, .agg (nums .u8 ky).toArray)] = some (SL.V ⟨a, b, c, d, e, ky, z32, 0, 0, z32, 0, 0⟩).toArray := by
  obtain ⟨x0, x1, x2, x3, x4, x5, x6, x7, x8, x9, x10, x11, x12, x13, x14, x15, x16, x17, x18, x19, x20, x21, x22, x23, x24, x25, x26, x27, x28, x29, x30, x31, rfl⟩ := list32 ky h
  kernel_rfl
set_option maxRecDepth 100000 in
theorem built27z : Tryd.prog.built 27 [] = some (SL.V ⟨0, 0, 0, 0, 0, z32, z32, 0, 0, z32, 0, 0⟩).toArray := by kernel_rfl
theorem refV_all (h : List Int) (f l : Int) : (refV h f l).toArray.all (·.oneCell') = true := by
  rw [Array.all_eq_true']
  intro v hv
  unfold refV at hv
  simp only [List.mem_toArray, List.mem_append, List.mem_cons, List.not_mem_nil, or_false] at hv
  rcases hv with hv | rfl | rfl
  · exact nums_ones h v hv
  · rfl
  · rfl
theorem SL.V_all (s : SL) : s.V.toArray.all (·.oneCell') = true := by
  rw [Array.all_eq_true']
  intro v hv
  unfold SL.V at hv
  simp only [List.mem_toArray, List.mem_append, List.mem_cons, List.not_mem_nil, or_false] at hv
  rcases hv with hv | hv | hv | hv
  · rcases hv with rfl | rfl | rfl | rfl | rfl <;> rfl
  · exact nums_ones _ v hv
  · exact Array.all_eq_true'.1 (refV_all s.rh s.rf s.rl) v (by simpa using hv)
  · exact Array.all_eq_true'.1 (refV_all s.mh s.mf s.ml) v (by simpa using hv)
theorem Sep.store_part {w0 w : World} {L : List Th} {ops : Array Oper} {rest : List Oper} {o : Oper} {a : Act} {Q : Exit → Act → World → Prop} (hgd : o.guard = none) (ty : TypeId) (x y : Operand) (ho : o.op = .store ty x y) {g e p : Nat} {old cs : List Value} (hx : a.eval x = .pointer (some ⟨g, p, none⟩)) (hy : a.eval y = .agg cs.toArray) (h : Sep w0 w (cellsT g old.toArray e :: L)) (hi : (Tryd.prog.info? ty).map (·.size) = some cs.toArray.size) (hp : p + cs.length ≤ old.length) (h1 : cs.toArray.all (·.oneCell') = true)
    (hk : ∀ w1, Sep w0 w1 (cellsT g (old.take p ++ cs ++ old.drop (p + cs.length)).toArray e :: L) → wpList Tryd.prog ops Q rest (a.put o.dst undef) w1) : wpList Tryd.prog ops Q (o :: rest) a w :=
  wpList_plain hgd fun K hK => by
    have hr := run_storeCells_at (P := Tryd.prog) g p e cs 0 old.toArray w h.cells.1 (by simpa using hp) (fun v hv => Array.all_eq_true'.1 h1 v (by simpa using hv))
    have hst : (storeVar ty ⟨g, p, none⟩ (.agg cs.toArray)).run Tryd.prog w = .ok () (w.setRow g (old.take p ++ cs ++ old.drop (p + cs.length)).toArray) := by
      cases hq : Tryd.prog.info? ty with
      | none => simp [hq] at hi
      | some i =>
        have hs : cs.length = i.size := by simp [hq] at hi; omega
        simp only [Nat.add_zero] at hr
        simp [storeVar, sizeOf, typeInfo, hq, Value.cells, hs]
        simpa [hs] using hr
    unfold Oper.wp execOp
    simp only [ho, hx, hy, Instr.storeAt, Instr.sureAddr, Sem.run_bind, Sem.run_pure, Result.andThen_ok, hst]
    exact hK _ _ (hk _ (h.setRow _))
theorem V_set_root {s : SL} (h : s.Ok) (rh : List Int) (rf rl : Int) (hl : rh.length = 32) : s.V.take 37 ++ refV rh rf rl ++ s.V.drop (37 + (refV rh rf rl).length) = SL.V { s with rh := rh, rf := rf, rl := rl } := by
  rw [refV_len hl, show 37 + 34 = 71 from rfl, s.V_d71 h]
  have e : s.V.take 37 = [.int .i64 s.a, .int .i64 s.b, .int .i64 s.c, .int .i64 s.d, .int .i64 s.e] ++ nums .u8 s.key := by
    unfold SL.V
    rw [← List.append_assoc]
    exact take_app (by rw [List.length_append, nums_length, h.k]; rfl)
  rw [e]
  unfold SL.V
  simp only [List.append_assoc]
theorem V_set_memo {s : SL} (h : s.Ok) (mh : List Int) (mf ml : Int) (hl : mh.length = 32) : s.V.take 71 ++ refV mh mf ml ++ s.V.drop (71 + (refV mh mf ml).length) = SL.V { s with mh := mh, mf := mf, ml := ml } := by
  rw [refV_len hl, List.drop_eq_nil_of_le (by rw [s.V_len h]; decide), List.append_nil]
  have e : s.V.take 71 = [.int .i64 s.a, .int .i64 s.b, .int .i64 s.c, .int .i64 s.d, .int .i64 s.e] ++ (nums .u8 s.key ++ refV s.rh s.rf s.rl) := by
    unfold SL.V
    rw [← List.append_assoc (nums .u8 s.key), ← List.append_assoc]
    exact take_app (by rw [List.length_append, List.length_append, nums_length, h.k, refV_len h.r]; rfl)
  rw [e]
  unfold SL.V
  simp only [List.append_assoc]
theorem ReadsB.r {w0 : World} {L : List Th} {A : Option Addr} {b : List Int} (h : ReadsB w0 L A b) (t : Th) : ReadsB w0 (t :: L) A b := fun W M hs hS => h W M (by
  obtain ⟨pre, rfl⟩ := hs
  exact ⟨pre ++ [t], by simp⟩) hS
theorem Sep.number4 {w0 w : World} {L : List Th} {gc : Nat} {A : Option Addr} {c : Nat} (p q : Nat) {b : List Int} (h : Sep w0 w (cellsT gc #[.slice A 512 c, .int .i64 (p : Int)] 117 :: L)) (hR : ReadsB w0 L A b) (hb : bytes_ b) (hl : b.length = 512) (hc : 512 ≤ c) (hq : p + 4 = q) (hp : q ≤ 512) :
    Calls Tryd.prog 56 #[.pointer (some ⟨gc, 0, none⟩), .int .i64 4] w fun e w' => e = .returned (.int .i64 (numAt b p 4)) ∧ Sep w0 w' (cellsT gc #[.slice A 512 c, .int .i64 (q : Int)] 117 :: L) := by
  subst hq
  exact Sep.number h hR hb hl hc 4 (by decide) (by decide) hp
set_option maxHeartbeats 8000000 in
set_option maxRecDepth 100000 in
theorem Sep.ref {w0 w : World} {L : List Th} {gc : Nat} {A : Option Addr} {c p : Nat} {b : List Int} (h : Sep w0 w (cellsT gc #[.slice A 512 c, .int .i64 (p : Int)] 117 :: L)) (hR : ReadsB w0 L A b) (hb : bytes_ b) (hl : b.length = 512) (hc : 512 ≤ c) (hp : p + 40 ≤ 512) :
    Calls Tryd.prog 58 #[.pointer (some ⟨gc, 0, none⟩)] w fun e w' => e = .returned (.agg (refV (keyAt b p) (numAt b (p + 32) 4) (numAt b (p + 36) 4)).toArray) ∧ Sep w0 w' (cellsT gc #[.slice A 512 c, .int .i64 ((p + 40 : Nat) : Int)] 117 :: L) := by
  have HKY := Aside0.mk (fun W gr Z (h : Sep w0 W (cellsT gc #[.slice A 512 c, .int .i64 (p : Int)] 117 :: cellsT gr Z 25 :: L)) => Sep.key h (ReadsB.r hR _) hb hl hc (by omega))
  have HN1 := Aside0.mk (fun W gr Z (h : Sep w0 W (cellsT gc #[.slice A 512 c, .int .i64 ((p + 32 : Nat) : Int)] 117 :: cellsT gr Z 25 :: L)) => Sep.number4 _ (p + 36) h (ReadsB.r hR _) hb hl hc (by omega) (by omega))
  have HN2 := Aside0.mk (fun W gr Z (h : Sep w0 W (cellsT gc #[.slice A 512 c, .int .i64 ((p + 36 : Nat) : Int)] 117 :: cellsT gr Z 25 :: L)) => Sep.number4 _ (p + 40) h (ReadsB.r hR _) hb hl hc (by omega) (by omega))
  have HKL := Aside0.mk (keyAt_len (b := b) hl (p := p) (by omega))
  generalize keyAt b p = ky at HKY HKL ⊢
  generalize numAt b (p + 32) 4 = n1 at HN1 ⊢
  generalize numAt b (p + 36) 4 = n2 at HN2 ⊢
  have HSZ := Aside0.mk (show (Tryd.prog.info? 25).map (·.size) = some (refV ky n1 n2).toArray.size from size25 (by simpa using refV_len HKL.out n1 n2))
  have HBL := Aside0.mk (built25 ky HKL.out n1 n2)
  have HAL := Aside0.mk (refV_all ky n1 n2)
  have hz := (zero_of_info (P := Tryd.prog) (t := 25) (v := .agg (refV z32 0 0).toArray) (n := 34) (by kernel_rfl)).1
  generalize hZ : (refV z32 0 0).toArray = Z at hz
  have HZs := Aside0.mk (show Z.size = (refV ky n1 n2).toArray.size from by rw [← hZ]; simp only [List.size_toArray]; rw [refV_len HKL.out, refV_len (by rfl)])
  have HS0 := Aside0.mk h
  clear h hR hb hl hZ
  go_enter Tryd.func58, Tryd.ntmps58
  go_upto_region 1 with (fail)
  have HSa := Aside0.mk (HS0.out.push_alloc Z 25).up1
  generalize w.alloc (.cells Z 25) = w2 at HSa ⊢
  generalize w.heap.size = gr at HSa ⊢
  clear HS0 hz
  go_wp2_with (first
    | (go_at_call 57; (with_reducible refine (HKY.out _ _ _ HSa.out).mono ?_); rintro e w3 ⟨rfl, h3⟩; have HS3 := Aside0.mk h3; clear h3)
    | (go_at_call 56; (with_reducible refine (HN1.out _ _ _ HS3.out).mono ?_); rintro e w4 ⟨rfl, h4⟩; have HS4 := Aside0.mk h4; clear h4 HS3)
    | (go_at_call 56; (with_reducible refine (HN2.out _ _ _ HS4.out).mono ?_); rintro e w5 ⟨rfl, h5⟩; have HS5 := Aside0.mk h5.up1; clear h5 HS4; rename_i hKK; refine hKK _ _ ?_; clear hKK; refine wpList_buildTo rfl 25 _ rfl (some 9) rfl (refV ky n1 n2).toArray ?aB ?_; (case aB => (simp only [List.map_toArray, List.map_cons, List.map_nil]; exact HBL.out)))
    | ((with_reducible refine gate_build (ty := 25) rfl ?_); refine wpList_buildTo rfl 25 _ rfl (some 9) rfl (refV ky n1 n2).toArray ?aB ?_; (case aB => (simp only [List.map_toArray, List.map_cons, List.map_nil]; exact HBL.out)))
    | ((with_reducible refine gate_store (ty := 25) rfl ?_); refine Sep.store_own rfl 25 _ _ rfl rfl rfl HS5.out HSZ.out HZs.out HAL.out ?_; intro w6 h6; have HS6 := Aside0.mk h6; clear h6))
  refine bodyPost_ret (results_cell_row (p := 2) (ty := 25) rfl _ _ gr 25 (refV ky n1 n2).toArray (0, 0) _ rfl HS6.out.cells.1 Tryd.underlying25 rfl HSZ.out) rfl ⟨rfl, ?_⟩
  exact HS6.out.drop
end Go.Proofs.YtaflofcnjakaaaaDoor.M

namespace Go.Proofs.YtaflofcnjakaaaaDoor.Bulk
open Go.ChangeShapes Go.WideShapes Go.RowKit Go.Proofs.YtaflofcnjakaaaaDoorW.PrintWords Go.Proofs.YtaflofcnjakaaaaDoorW.PrintLast Go.Proofs.YtaflofcnjakaaaaDoorW.PrintMore Go.Proofs.YtaflofcnjakaaaaDoor.M Go.Proofs.YtaflofcnjakaaaaDoor.Pl Go.Proofs.YtaflofcnjakaaaaDoor.Wr Go.Proofs.YtaflofcnjakaaaaDoor.A
set_option linter.unusedVariables false
section
variable {H : Type} {enc : TypeId × Value → H} {W : World} {base : Nat} {spare : Nat → Bool} {held : Bool}
theorem bound_u8 {x : Int} (h : (Lit.int .u8 x).wf = true) : 0 ≤ x ∧ x < 256 := by
  simp [Lit.wf, IntKind.min, IntKind.max, IntKind.signed, IntKind.bits] at h
  omega
def valI : Value → Int
  | .int _ n => n
  | _ => 0
theorem opens_key {fuel : Nat} {cs : List Value} {x : DataW H × List MemPlace} (h : DataW.trod enc Tryd.prog W base spare held fuel 23 cs = some x) : ∃ l : List Int, cs = nums .u8 l ∧ l.length = 32 ∧ bytes_ l := by
  obtain ⟨xs, m, _, _, hl, hx, hf⟩ := DataW.trod_array Tryd.underlying23 h
  rw [show Tryd.prog.cellsOf 23 = 32 by kernel_rfl] at hl
  have q5 : Tryd.prog.cellsOf 5 = 1 := by kernel_rfl
  have each : ∀ v ∈ cs, ∃ n, v = .int .u8 n ∧ 0 ≤ n ∧ n < 256 := by
    intro v hv
    obtain ⟨i, hi, rfl⟩ := List.getElem_of_mem hv
    have h1 := hf i (by omega)
    rw [q5, Nat.mul_one, List.getElem?_eq_getElem (by omega)] at h1
    obtain ⟨n, he, _, hw⟩ := DataW.trod_int Tryd.underlying5 h1
    refine ⟨n, ?_, bound_u8 hw⟩
    have h2 : (cs.drop i).take 1 = [cs[i]] := by rw [List.drop_eq_getElem_cons hi]; rfl
    rw [h2] at he
    exact List.head_eq_of_cons_eq he
  refine ⟨cs.map valI, ?_, by rw [List.length_map, hl], ?_⟩
  · unfold nums
    rw [List.map_map]
    refine (List.map_congr_left (g := id) (fun v hv => ?_) |>.trans (List.map_id _)).symm
    obtain ⟨n, rfl, _⟩ := each v hv
    rfl
  · intro y hy
    obtain ⟨v, hv, rfl⟩ := List.mem_map.1 hy
    obtain ⟨n, rfl, h1⟩ := each v hv
    exact h1
theorem opens_i64 {fuel : Nat} {c : List Value} {x : DataW H × List MemPlace} (h : DataW.trod enc Tryd.prog W base spare held fuel 3 c = some x) : ∃ n, c = [.int .i64 n] := by
  obtain ⟨n, he, _, hw⟩ := DataW.trod_int Tryd.underlying3 h
  exact ⟨n, he⟩
theorem cut_ {α : Type} (cs : List α) (a n : Nat) {y : List α} (h : (cs.drop a).take n = y) : cs.drop a = y ++ cs.drop (a + n) := by
  rw [← h, ← List.drop_drop]
  exact (List.take_append_drop n _).symm
theorem some_at {α : Type} {xs : List α} {i : Nat} (h : i < xs.length) : ∃ x, xs[i]? = some x := ⟨_, List.getElem?_eq_getElem h⟩
theorem opens_ref {fuel : Nat} {cs : List Value} {x : DataW H × List MemPlace} (h : DataW.trod enc Tryd.prog W base spare held fuel 25 cs = some x) : ∃ (l : List Int) (a b : Int), cs = refV l a b ∧ l.length = 32 ∧ bytes_ l := by
  obtain ⟨xs, m, _, _, hl, hx, hf⟩ := DataW.trod_struct Tryd.underlying25 h
  rw [show Tryd.prog.cellsOf 25 = 34 by kernel_rfl] at hl
  have hx3 : xs.length = 3 := hx
  have q23 : Tryd.prog.cellsOf 23 = 32 := by kernel_rfl
  have q3 : Tryd.prog.cellsOf 3 = 1 := by kernel_rfl
  obtain ⟨x0, e0⟩ := some_at (show 0 < xs.length by omega)
  obtain ⟨x1, e1⟩ := some_at (show 1 < xs.length by omega)
  obtain ⟨x2, e2⟩ := some_at (show 2 < xs.length by omega)
  have f0 : DataW.trod enc Tryd.prog W base spare held m 23 ((cs.drop 0).take (Tryd.prog.cellsOf 23)) = some x0 := (hf 0 _ rfl).trans e0
  have f1 : DataW.trod enc Tryd.prog W base spare held m 3 ((cs.drop 32).take (Tryd.prog.cellsOf 3)) = some x1 := (hf 1 _ rfl).trans e1
  have f2 : DataW.trod enc Tryd.prog W base spare held m 3 ((cs.drop 33).take (Tryd.prog.cellsOf 3)) = some x2 := (hf 2 _ rfl).trans e2
  rw [q23] at f0
  rw [q3] at f1 f2
  obtain ⟨l, g0, hl0, hb0⟩ := opens_key f0
  obtain ⟨a, g1⟩ := opens_i64 f1
  obtain ⟨b, g2⟩ := opens_i64 f2
  refine ⟨l, a, b, ?_, hl0, hb0⟩
  have c0 := cut_ cs 0 32 g0
  have c1 := cut_ cs 32 1 g1
  have c2 := cut_ cs 33 1 g2
  rw [List.drop_zero] at c0
  rw [c0]
  show nums .u8 l ++ cs.drop 32 = _
  rw [c1]
  show nums .u8 l ++ ([Value.int .i64 a] ++ cs.drop 33) = _
  rw [c2, List.drop_eq_nil_of_le (show cs.length ≤ 33 + 1 by omega)]
  rfl
set_option maxRecDepth 100000 in
theorem opens_slot {fuel : Nat} {cs : List Value} {x : DataW H × List MemPlace} (h : DataW.trod enc Tryd.prog W base spare held fuel 27 cs = some x) : ∃ s : SL, s.Ok ∧ cs = s.V := by
  obtain ⟨xs, m, _, _, hl, hx, hf⟩ := DataW.trod_struct Tryd.underlying27 h
  rw [show Tryd.prog.cellsOf 27 = 105 by kernel_rfl] at hl
  have hx3 : xs.length = 8 := hx
  have q25 : Tryd.prog.cellsOf 25 = 34 := by kernel_rfl
  have q23 : Tryd.prog.cellsOf 23 = 32 := by kernel_rfl
  have q3 : Tryd.prog.cellsOf 3 = 1 := by kernel_rfl
  obtain ⟨x0, e0⟩ := some_at (show 0 < xs.length by omega)
  obtain ⟨x1, e1⟩ := some_at (show 1 < xs.length by omega)
  obtain ⟨x2, e2⟩ := some_at (show 2 < xs.length by omega)
  obtain ⟨x3, e3⟩ := some_at (show 3 < xs.length by omega)
  obtain ⟨x4, e4⟩ := some_at (show 4 < xs.length by omega)
  obtain ⟨x5, e5⟩ := some_at (show 5 < xs.length by omega)
  obtain ⟨x6, e6⟩ := some_at (show 6 < xs.length by omega)
  obtain ⟨x7, e7⟩ := some_at (show 7 < xs.length by omega)
  have f0 : DataW.trod enc Tryd.prog W base spare held m 3 ((cs.drop 0).take (Tryd.prog.cellsOf 3)) = some x0 := (hf 0 _ rfl).trans e0
  have f1 : DataW.trod enc Tryd.prog W base spare held m 3 ((cs.drop 1).take (Tryd.prog.cellsOf 3)) = some x1 := (hf 1 _ rfl).trans e1
  have f2 : DataW.trod enc Tryd.prog W base spare held m 3 ((cs.drop 2).take (Tryd.prog.cellsOf 3)) = some x2 := (hf 2 _ rfl).trans e2
  have f3 : DataW.trod enc Tryd.prog W base spare held m 3 ((cs.drop 3).take (Tryd.prog.cellsOf 3)) = some x3 := (hf 3 _ rfl).trans e3
  have f4 : DataW.trod enc Tryd.prog W base spare held m 3 ((cs.drop 4).take (Tryd.prog.cellsOf 3)) = some x4 := (hf 4 _ rfl).trans e4
  have f5 : DataW.trod enc Tryd.prog W base spare held m 23 ((cs.drop 5).take (Tryd.prog.cellsOf 23)) = some x5 := (hf 5 _ rfl).trans e5
  have f6 : DataW.trod enc Tryd.prog W base spare held m 25 ((cs.drop 37).take (Tryd.prog.cellsOf 25)) = some x6 := (hf 6 _ rfl).trans e6
  have f7 : DataW.trod enc Tryd.prog W base spare held m 25 ((cs.drop 71).take (Tryd.prog.cellsOf 25)) = some x7 := (hf 7 _ rfl).trans e7
  rw [q3] at f0 f1 f2 f3 f4
  rw [q23] at f5
  rw [q25] at f6 f7
  obtain ⟨a, g0⟩ := opens_i64 f0
  obtain ⟨b, g1⟩ := opens_i64 f1
  obtain ⟨c, g2⟩ := opens_i64 f2
  obtain ⟨d, g3⟩ := opens_i64 f3
  obtain ⟨e, g4⟩ := opens_i64 f4
  obtain ⟨k, g5, k1, k2⟩ := opens_key f5
  obtain ⟨r, rf, rl, g6, r1, r2⟩ := opens_ref f6
  obtain ⟨o, mf, ml, g7, o1, o2⟩ := opens_ref f7
  refine ⟨⟨a, b, c, d, e, k, r, rf, rl, o, mf, ml⟩, ⟨k1, r1, o1, k2, r2, o2⟩, ?_⟩
  have c0 := cut_ cs 0 1 g0
  have c1 := cut_ cs 1 1 g1
  have c2 := cut_ cs 2 1 g2
  have c3 := cut_ cs 3 1 g3
  have c4 := cut_ cs 4 1 g4
  have c5 := cut_ cs 5 32 g5
  have c6 := cut_ cs 37 34 g6
  have c7 := cut_ cs 71 34 g7
  rw [List.drop_zero] at c0
  rw [List.drop_eq_nil_of_le (show cs.length ≤ 71 + 34 by omega), List.append_nil] at c7
  rw [c0]
  show [Value.int .i64 a] ++ cs.drop 1 = _
  rw [c1]
  show [Value.int .i64 a] ++ ([Value.int .i64 b] ++ cs.drop 2) = _
  rw [c2]
  show [Value.int .i64 a] ++ ([Value.int .i64 b] ++ ([Value.int .i64 c] ++ cs.drop 3)) = _
  rw [c3]
  show [Value.int .i64 a] ++ ([Value.int .i64 b] ++ ([Value.int .i64 c] ++ ([Value.int .i64 d] ++ cs.drop 4))) = _
  rw [c4]
  show [Value.int .i64 a] ++ ([Value.int .i64 b] ++ ([Value.int .i64 c] ++ ([Value.int .i64 d] ++ ([Value.int .i64 e] ++ cs.drop 5)))) = _
  rw [c5]
  show [Value.int .i64 a] ++ ([Value.int .i64 b] ++ ([Value.int .i64 c] ++ ([Value.int .i64 d] ++ ([Value.int .i64 e] ++ (nums .u8 k ++ cs.drop 37))))) = _
  rw [c6]
  show [Value.int .i64 a] ++ ([Value.int .i64 b] ++ ([Value.int .i64 c] ++ ([Value.int .i64 d] ++ ([Value.int .i64 e] ++ (nums .u8 k ++ (refV r rf rl ++ cs.drop 71)))))) = _
  rw [c7]
  rfl
end
end Go.Proofs.YtaflofcnjakaaaaDoor.Bulk

namespace Go.Proofs.YtaflofcnjakaaaaDoor.M
open Go.RowKit Go.Maps Go.Proofs.YtaflofcnjakaaaaDoorW.PrintWords Go.Proofs.YtaflofcnjakaaaaDoorW.PrintLast Go.Proofs.YtaflofcnjakaaaaDoorW.PrintMore
set_option linter.unusedVariables false
set_option linter.unusedSimpArgs false
def kilnref3_Copy.f (l : List Int) : Option (List Int) := if l.length ≤ 140737488355328 then some l else none
set_option maxHeartbeats 1000000 in
set_option maxRecDepth 100000 in
theorem kilnref3_Copy.calls (A0 : Option Addr) (c0 : Nat) (l0 : List Int) (r : List Int) (w : World) (hr0 : Kd.C (Kd.int .u8) w A0 l0.length l0) (hc0 : l0.length ≤ c0) (h : kilnref3_Copy.f l0 = some r) :
    Calls Tryd.prog 44 #[.slice A0 l0.length c0] w fun e w' => ∃ v0_ : Value, e = .returned (v0_) ∧ Kd.R (Kd.int .u8) 5 w' w.heap.size (fun _ => True) v0_ r ∧ Below w.heap.size w w' := by
  unfold kilnref3_Copy.f at h
  split at h
  · rename_i hl
    obtain rfl := Option.some.inj h
    obtain ⟨n, hn⟩ : ∃ n, n = l0.length := ⟨_, rfl⟩
    rw [← hn] at hr0 hl ⊢
    have HR := Aside0.mk hr0
    have HN := Aside0.mk hn
    clear hr0 hc0 h hn
    go_enter Tryd.func44, Tryd.ntmps44
    go_wp2_with (first
      | (at_make; refine Kd.R_make (Kd.int .u8) (w0 := w) w.heap.size 5 rfl (N := 6) rfl 28 (.tmp 5) (.tmp 5) rfl (n : Int) rfl rfl Tryd.underlying28 (.int .u8 0) 1 info5 rfl (by decide) (by decide) 0 (ok := fun _ => True) (okp := fun _ => True) rfl (fun _ h => h) trivial (by omega) (by omega) (Below.refl _ _) (Nat.le_refl _) ?_; intro v6 w6 hr hb hg hat; rw [Int.toNat_natCast] at hr; obtain ⟨A6, c6, e6⟩ := Kd.R_slice hr; rw [List.length_replicate] at e6; subst e6; have H6 := Aside0.mk hr; have HB6 := Aside0.mk hb; clear hr hb hg hat)
      | ((with_reducible refine gate_builtin (b := .copy) (xs := #[.tmp 7, .tmp 8]) rfl ?_); refine Kd.R_copy (0 : Int) (w0 := w) w.heap.size rfl (.tmp 7) (.tmp 8) 28 28 5 rfl Tryd.underlying28 (by kernel_rfl) (.slice A6 n c6) (List.replicate n 0) l0 A0 n c0 (fun _ => True) rfl rfl H6.out (Kd.C_below HR.out HB6.out) HB6.out (below_size HB6.out) ?_; intro w9 hr hb hg; have H9 := Aside0.mk hr; have HB9 := Aside0.mk hb; clear hr hb hg))
    go_ret
    have h9 := H9.out
    rw [List.length_replicate, Nat.min_self, List.take_of_length_le (by rw [HN.out]; exact Nat.le_refl _), List.drop_of_length_le (by rw [List.length_replicate]; exact Nat.le_refl _), List.append_nil] at h9
    exact ⟨_, rfl, h9, HB9.out⟩
  · cases h
end Go.Proofs.YtaflofcnjakaaaaDoor.M

namespace Go.Proofs.YtaflofcnjakaaaaDoor.Z
open Go.Proofs.YtaflofcnjakaaaaDoor.Wr Go.Proofs.YtaflofcnjakaaaaDoor.M
open Go.RowKit Go.Proofs.YtaflofcnjakaaaaDoorW.PrintWords Go.Proofs.YtaflofcnjakaaaaDoorW.PrintLast Go.Proofs.YtaflofcnjakaaaaDoorW.PrintMore
attribute [local go_sem] max2_int min2_int max_two min_two max_three min_three max_four min_four   -- for this text's walks alone
set_option linter.unusedVariables false
set_option linter.unusedSimpArgs false
def errW : Option Int → Value
  | none => .nilIface
  | some c => .iface 0 (.int .i64 c)
theorem errW_none : errW none = .nilIface := rfl
theorem errW_some (c : Int) : errW (some c) = .iface 0 (.int .i64 c) := rfl
theorem info5 : (Tryd.prog.info? 5).map (fun i => (i.zero, i.size, i.bytes)) = some (some (.int .u8 0), 1, 1) := by kernel_rfl
theorem info106 : (Tryd.prog.info? 106).map (fun i => (i.zero, i.size, i.bytes)) = some (some (.agg #[(.int .i64 0), (.slice none 0 0)]), 2, 32) := by kernel_rfl
def rd_L1 (xs : List (List Int)) (i : Int) : (List Int) := xs.getD i.toNat ([] : List Int)
theorem at_L1 {w : World} {A : Option Addr} {n : Nat} {xs : List (List Int)} (h : Kd.C (Kd.slice 5 (Kd.int .u8)) w A n xs) (i : Int) (h0 : 0 ≤ i) (h1 : i < n) : ∃ ad A0 c0, A = some ad ∧ w.cell? (ad.add i.toNat) = some (.slice A0 (rd_L1 xs i).length c0) ∧ (rd_L1 xs i).length ≤ c0 ∧ (Kd.int .u8).C w A0 (rd_L1 xs i).length (rd_L1 xs i) := by
  obtain ⟨ad, c, e, _, hK, hc0⟩ := Kd.C_get h ([] : List Int) i h0 h1
  have hc : ∀ j u, c[j]? = some u → w.cell? (ad.add (i.toNat * 1 + j)) = some u := hc0
  obtain ⟨A0, c0, rfl, l0, g0⟩ := hK
  exact ⟨ad, A0, c0, e, by have hq := hc 0 _ rfl; rwa [Nat.mul_one, Nat.add_zero] at hq, l0, g0⟩
structure S106 where
  f0 : Int
  f1 : (List Int)
def z106 : S106 := ⟨(0 : Int), ([] : List Int)⟩
def k106 : Kd S106 := Kd.iso (Kd.pair (Kd.int .i64) (Kd.slice 5 (Kd.int .u8))) (fun x : S106 => (x.f0, x.f1))
theorem k106_heap : Kd.Heap k106 := Kd.heap_iso _ (Kd.heap_pair (Kd.heap_int .i64) (Kd.heap_slice 5 (Kd.heap_int .u8)))
theorem k106_open {w : World} {x : S106} {cs : List Value} (h : k106.K w x cs) : ∃ A1 c1, cs = [.int .i64 x.f0, .slice A1 x.f1.length c1] ∧ x.f1.length ≤ c1 ∧ (Kd.int .u8).C w A1 x.f1.length x.f1 := by
  obtain ⟨_, _, rfl, rfl, ⟨A1, c1, rfl, l1, g1⟩⟩ := h
  exact ⟨A1, c1, rfl, l1, g1⟩
theorem k106_mk (w : World) (x : S106) {A1 : Option Addr} {c1 : Nat} (l1 : x.f1.length ≤ c1) (g1 : (Kd.int .u8).C w A1 x.f1.length x.f1) : k106.K w x [.int .i64 x.f0, .slice A1 x.f1.length c1] := ⟨[.int .i64 x.f0], [.slice A1 x.f1.length c1], rfl, rfl, ⟨A1, c1, rfl, l1, g1⟩⟩
theorem k106_openF {W : World} {ok : Nat → Prop} {x : S106} {cs : List Value} (h : Kd.FK k106 W ok x cs) : ∃ A1 c1, cs = [.int .i64 x.f0, .slice A1 x.f1.length c1] ∧ x.f1.length ≤ c1 ∧ Kd.F (Kd.int .u8) W ok A1 x.f1.length x.f1 := by
  obtain ⟨A1, c1, rfl, l1, _⟩ := k106_open (Kd.FK_now h)
  exact ⟨A1, c1, rfl, l1, (fun W' hW => by obtain ⟨A1_, c1_, he, l1_, g1_⟩ := k106_open (h W' hW); injection (Option.some.inj (show some (Value.slice A1 x.f1.length c1) = some (Value.slice A1_ x.f1.length c1_) from congrArg (fun l => l[1]?) he)) with ha_ _ _; rw [ha_]; exact g1_)⟩
theorem k106_mkF (W : World) (ok : Nat → Prop) (x : S106) {A1 : Option Addr} {c1 : Nat} (l1 : x.f1.length ≤ c1) (g1 : Kd.F (Kd.int .u8) W ok A1 x.f1.length x.f1) : Kd.FK k106 W ok x [.int .i64 x.f0, .slice A1 x.f1.length c1] := fun W2 hW => k106_mk W2 x l1 (g1 W2 hW)
def rd_T106 (xs : List S106) (i : Int) : S106 := xs.getD i.toNat z106
theorem at_T106 {w : World} {A : Option Addr} {n : Nat} {xs : List S106} (h : Kd.C k106 w A n xs) (i : Int) (h0 : 0 ≤ i) (h1 : i < n) : ∃ ad A1 c1, A = some ad ∧ w.cell? (ad.add (i.toNat * 2)) = some (.int .i64 (rd_T106 xs i).f0) ∧ w.cell? ⟨(ad.add (i.toNat * 2)).block, (ad.add (i.toNat * 2)).off + 1, none⟩ = some (.slice A1 (rd_T106 xs i).f1.length c1) ∧ (rd_T106 xs i).f1.length ≤ c1 ∧ (Kd.int .u8).C w A1 (rd_T106 xs i).f1.length (rd_T106 xs i).f1 := by
  obtain ⟨ad, c, e, _, hK, hc0⟩ := Kd.C_get h z106 i h0 h1
  have hc : ∀ j u, c[j]? = some u → w.cell? (ad.add (i.toNat * 2 + j)) = some u := hc0
  obtain ⟨A1, c1, rfl, l1, g1⟩ := k106_open hK
  exact ⟨ad, A1, c1, e, hc 0 _ rfl, by rw [← add_field _ _ 1 (by omega)]; exact hc 1 _ rfl, l1, g1⟩
end Go.Proofs.YtaflofcnjakaaaaDoor.Z

namespace Go.Proofs.YtaflofcnjakaaaaDoor.Z
open Go.Proofs.YtaflofcnjakaaaaDoor.Wr Go.Proofs.YtaflofcnjakaaaaDoor.M
open Go.RowKit Go.Proofs.YtaflofcnjakaaaaDoorW.PrintWords Go.Proofs.YtaflofcnjakaaaaDoorW.PrintLast Go.Proofs.YtaflofcnjakaaaaDoorW.PrintMore
attribute [local go_sem] max2_int min2_int max_two min_two max_three min_three max_four min_four   -- for this text's walks alone
set_option linter.unusedVariables false
set_option linter.unusedSimpArgs false
def kilnref3_New.f (a0 : Int) : Option (Int × (List (S106)) × (List (S106)) × Int × Int × Int × Int) := if a0 < 2 then (some (0, ([] : List (S106)), ([] : List (S106)), 0, 0, 0, 30)) else (if a0 > 65536 then (some (0, ([] : List (S106)), ([] : List (S106)), 0, 0, 0, 30)) else (some (a0, ([] : List (S106)), ([] : List (S106)), 0, 0, 0, 0)))
set_option maxHeartbeats 8000000 in
set_option maxRecDepth 100000 in
theorem kilnref3_New.calls (a0 : Int) (r1 : Int) (r2 : List (S106)) (r3 : List (S106)) (r4 : Int) (r5 : Int) (r6 : Int) (r7 : Int) (w : World) (h : kilnref3_New.f a0 = some (r1, r2, r3, r4, r5, r6, r7)) :
    Calls Tryd.prog 16 #[.int .i64 a0] w fun e w' => ∃ v1_ v2_ : Value, e = .returned (.tuple #[.agg #[.int .i64 r1, v1_, v2_, .int .i64 r4, .int .i64 r5, .int .i64 r6], .int .i64 r7]) ∧ Kd.S k106 106 w' w.heap.size (fun k_ => some k_ ≠ (v2_ : Value).ownBlock) v1_ r2 ∧ Kd.S k106 106 w' w.heap.size (fun k_ => some k_ ≠ (v1_ : Value).ownBlock) v2_ r3 ∧ Below w.heap.size w w' := by
  have hu43 := Tryd.underlying43
  have HB := Aside0.mk (Below.refl w.heap.size w)
  have H : (if a0 < 2 then (some (0, ([] : List (S106)), ([] : List (S106)), 0, 0, 0, 30)) else (if a0 > 65536 then (some (0, ([] : List (S106)), ([] : List (S106)), 0, 0, 0, 30)) else (some (a0, ([] : List (S106)), ([] : List (S106)), 0, 0, 0, 0)))) = some (r1, r2, r3, r4, r5, r6, r7) := h
  clear h
  by_cases c2 : a0 < 2
  · rw [if_pos c2] at H
    have c2b0 : decide (a0 < 2) = true := decide_eq_true c2
    clear c2
    simp only [Option.some.injEq, Prod.mk.injEq] at H
    obtain ⟨rfl, rfl, rfl, rfl, rfl, rfl, rfl⟩ := H
    go_enter Tryd.func16, Tryd.ntmps16
    go_wp2_with (first | ((with_reducible refine gate_dst (N := 2) rfl ?_); refine box_event ?hg (N := 2) ?hd (cs := #[.int .i64 0, .slice none 0 0, .slice none 0 0, .int .i64 0, .int .i64 0, .int .i64 0]) (t := 43) ?hr ?_; (case hd => rfl); (case hg => rfl); (case hr => first | (go_simp; done) | (go_simp; rfl)); intro gb112 hg w3 hbox hb; have n0_ := Aside0.mk (below_step (by repeat (first | (with_reducible first | exact HB.out | apply below_alloc | apply pw_below_drewN | apply below_drew1) | exact HB.out)) hb); have n1_ := Aside0.mk (hbox); have n2_ := Aside0.mk ((by rw [hg]; exact (below_size (by repeat (first | (with_reducible first | exact HB.out | apply below_alloc | apply pw_below_drewN | apply below_drew1) | exact HB.out))) : w.heap.size ≤ gb112)); have n3_ := Aside0.mk ((by rw [hg]; exact (below_size (by repeat (first | (with_reducible first | exact HB.out | apply below_alloc | apply pw_below_drewN | apply below_drew1) | exact HB.out))) : w.heap.size ≤ gb112)); clear HB; have HB := n0_; have BK112 := n1_; have GW112 := n2_; have GE112 := n3_; clear n0_ n1_ n2_ n3_; clear hb hbox hg; have hcz4_0 : w3.cell? ⟨gb112, 0, none⟩ = some (.int .i64 0) := (blk_cell BK112.out 0).trans rfl; have hcz4_1 : w3.cell? ⟨gb112, 1, none⟩ = some (.slice none 0 0) := (blk_cell BK112.out 1).trans rfl; have hcz4_2 : w3.cell? ⟨gb112, 2, none⟩ = some (.slice none 0 0) := (blk_cell BK112.out 2).trans rfl; have hcz4_3 : w3.cell? ⟨gb112, 3, none⟩ = some (.int .i64 0) := (blk_cell BK112.out 3).trans rfl; have hcz4_4 : w3.cell? ⟨gb112, 4, none⟩ = some (.int .i64 0) := (blk_cell BK112.out 4).trans rfl; have hcz4_5 : w3.cell? ⟨gb112, 5, none⟩ = some (.int .i64 0) := (blk_cell BK112.out 5).trans rfl; have hfz4_0 := blk_frozen BK112.out 0; have hfz4_1 := blk_frozen BK112.out 1; have hfz4_2 := blk_frozen BK112.out 2; have hfz4_3 := blk_frozen BK112.out 3; have hfz4_4 := blk_frozen BK112.out 4; have hfz4_5 := blk_frozen BK112.out 5))
    refine bodyPost_ret (results_ct rfl _ _ gb112 43 #[.int .i64 0, .slice none 0 0, .slice none 0 0, .int .i64 0, .int .i64 0, .int .i64 0] (0, 0) _ rfl (by (with_reducible repeat (first | refine blk_drewN ?_ _ | refine blk_drew ?_ | refine blk_alloc ?_ _)); refine blk_put (cs := #[.int .i64 0, .slice none 0 0, .slice none 0 0, .int .i64 0, .int .i64 0, .int .i64 0]) ?_ 5 _ rfl; (with_reducible repeat (first | refine blk_drewN ?_ _ | refine blk_drew ?_ | refine blk_alloc ?_ _)); refine blk_put (cs := #[.int .i64 0, .slice none 0 0, .slice none 0 0, .int .i64 0, .int .i64 0, .int .i64 0]) ?_ 4 _ rfl; (with_reducible repeat (first | refine blk_drewN ?_ _ | refine blk_drew ?_ | refine blk_alloc ?_ _)); refine blk_put (cs := #[.int .i64 0, .slice none 0 0, .slice none 0 0, .int .i64 0, .int .i64 0, .int .i64 0]) ?_ 3 _ rfl; (with_reducible repeat (first | refine blk_drewN ?_ _ | refine blk_drew ?_ | refine blk_alloc ?_ _)); refine blk_put (cs := #[.int .i64 0, .slice none 0 0, .slice none 0 0, .int .i64 0, .int .i64 0, .int .i64 0]) ?_ 2 _ rfl; (with_reducible repeat (first | refine blk_drewN ?_ _ | refine blk_drew ?_ | refine blk_alloc ?_ _)); refine blk_put (cs := #[.int .i64 0, .slice none 0 0, .slice none 0 0, .int .i64 0, .int .i64 0, .int .i64 0]) ?_ 1 _ rfl; (with_reducible repeat (first | refine blk_drewN ?_ _ | refine blk_drew ?_ | refine blk_alloc ?_ _)); refine blk_put (cs := #[.int .i64 0, .slice none 0 0, .slice none 0 0, .int .i64 0, .int .i64 0, .int .i64 0]) ?_ 0 _ rfl; (with_reducible repeat (first | refine blk_drewN ?_ _ | refine blk_drew ?_ | refine blk_alloc ?_ _)); exact BK112.out) Tryd.underlying43 rfl (by kernel_rfl)) rfl ?_
    exact ⟨_, _, by first | rfl | (simp [errW_none, errW_some] <;> rfl) | (simp [*, errW_none, errW_some] <;> rfl), by first | exact Kd.S_nil _ _ _ _ _ | exact Kd.N_nil _ _ _ _ _ | exact Kd.V_nil _ _ _ _ _ | exact Kd.Q_nil _ _ _ _ _ | exact Kd.R_nil _ _ _ _ _, by first | exact Kd.S_nil _ _ _ _ _ | exact Kd.N_nil _ _ _ _ _ | exact Kd.V_nil _ _ _ _ _ | exact Kd.Q_nil _ _ _ _ _ | exact Kd.R_nil _ _ _ _ _, by repeat (first | (with_reducible first | exact HB.out | apply below_alloc | apply pw_below_drewN | apply below_drew1 | refine below_set ?_ GE112.out) | exact HB.out)⟩
  · rw [if_neg c2] at H
    have c2b0 : decide (a0 < 2) = false := decide_eq_false c2
    clear c2
    by_cases c5 : a0 > 65536
    · rw [if_pos c5] at H
      have c5b0 : decide (65536 < a0) = true := decide_eq_true c5
      clear c5
      simp only [Option.some.injEq, Prod.mk.injEq] at H
      obtain ⟨rfl, rfl, rfl, rfl, rfl, rfl, rfl⟩ := H
      go_enter Tryd.func16, Tryd.ntmps16
      go_wp2_with (first | ((with_reducible refine gate_dst (N := 2) rfl ?_); refine box_event ?hg (N := 2) ?hd (cs := #[.int .i64 0, .slice none 0 0, .slice none 0 0, .int .i64 0, .int .i64 0, .int .i64 0]) (t := 43) ?hr ?_; (case hd => rfl); (case hg => rfl); (case hr => first | (go_simp; done) | (go_simp; rfl)); intro gb112 hg w6 hbox hb; have n0_ := Aside0.mk (below_step (by repeat (first | (with_reducible first | exact HB.out | apply below_alloc | apply pw_below_drewN | apply below_drew1) | exact HB.out)) hb); have n1_ := Aside0.mk (hbox); have n2_ := Aside0.mk ((by rw [hg]; exact (below_size (by repeat (first | (with_reducible first | exact HB.out | apply below_alloc | apply pw_below_drewN | apply below_drew1) | exact HB.out))) : w.heap.size ≤ gb112)); have n3_ := Aside0.mk ((by rw [hg]; exact (below_size (by repeat (first | (with_reducible first | exact HB.out | apply below_alloc | apply pw_below_drewN | apply below_drew1) | exact HB.out))) : w.heap.size ≤ gb112)); clear HB; have HB := n0_; have BK112 := n1_; have GW112 := n2_; have GE112 := n3_; clear n0_ n1_ n2_ n3_; clear hb hbox hg; have hcz7_0 : w6.cell? ⟨gb112, 0, none⟩ = some (.int .i64 0) := (blk_cell BK112.out 0).trans rfl; have hcz7_1 : w6.cell? ⟨gb112, 1, none⟩ = some (.slice none 0 0) := (blk_cell BK112.out 1).trans rfl; have hcz7_2 : w6.cell? ⟨gb112, 2, none⟩ = some (.slice none 0 0) := (blk_cell BK112.out 2).trans rfl; have hcz7_3 : w6.cell? ⟨gb112, 3, none⟩ = some (.int .i64 0) := (blk_cell BK112.out 3).trans rfl; have hcz7_4 : w6.cell? ⟨gb112, 4, none⟩ = some (.int .i64 0) := (blk_cell BK112.out 4).trans rfl; have hcz7_5 : w6.cell? ⟨gb112, 5, none⟩ = some (.int .i64 0) := (blk_cell BK112.out 5).trans rfl; have hfz7_0 := blk_frozen BK112.out 0; have hfz7_1 := blk_frozen BK112.out 1; have hfz7_2 := blk_frozen BK112.out 2; have hfz7_3 := blk_frozen BK112.out 3; have hfz7_4 := blk_frozen BK112.out 4; have hfz7_5 := blk_frozen BK112.out 5))
      refine bodyPost_ret (results_ct rfl _ _ gb112 43 #[.int .i64 0, .slice none 0 0, .slice none 0 0, .int .i64 0, .int .i64 0, .int .i64 0] (0, 0) _ rfl (by (with_reducible repeat (first | refine blk_drewN ?_ _ | refine blk_drew ?_ | refine blk_alloc ?_ _)); refine blk_put (cs := #[.int .i64 0, .slice none 0 0, .slice none 0 0, .int .i64 0, .int .i64 0, .int .i64 0]) ?_ 5 _ rfl; (with_reducible repeat (first | refine blk_drewN ?_ _ | refine blk_drew ?_ | refine blk_alloc ?_ _)); refine blk_put (cs := #[.int .i64 0, .slice none 0 0, .slice none 0 0, .int .i64 0, .int .i64 0, .int .i64 0]) ?_ 4 _ rfl; (with_reducible repeat (first | refine blk_drewN ?_ _ | refine blk_drew ?_ | refine blk_alloc ?_ _)); refine blk_put (cs := #[.int .i64 0, .slice none 0 0, .slice none 0 0, .int .i64 0, .int .i64 0, .int .i64 0]) ?_ 3 _ rfl; (with_reducible repeat (first | refine blk_drewN ?_ _ | refine blk_drew ?_ | refine blk_alloc ?_ _)); refine blk_put (cs := #[.int .i64 0, .slice none 0 0, .slice none 0 0, .int .i64 0, .int .i64 0, .int .i64 0]) ?_ 2 _ rfl; (with_reducible repeat (first | refine blk_drewN ?_ _ | refine blk_drew ?_ | refine blk_alloc ?_ _)); refine blk_put (cs := #[.int .i64 0, .slice none 0 0, .slice none 0 0, .int .i64 0, .int .i64 0, .int .i64 0]) ?_ 1 _ rfl; (with_reducible repeat (first | refine blk_drewN ?_ _ | refine blk_drew ?_ | refine blk_alloc ?_ _)); refine blk_put (cs := #[.int .i64 0, .slice none 0 0, .slice none 0 0, .int .i64 0, .int .i64 0, .int .i64 0]) ?_ 0 _ rfl; (with_reducible repeat (first | refine blk_drewN ?_ _ | refine blk_drew ?_ | refine blk_alloc ?_ _)); exact BK112.out) Tryd.underlying43 rfl (by kernel_rfl)) rfl ?_
      exact ⟨_, _, by first | rfl | (simp [errW_none, errW_some] <;> rfl) | (simp [*, errW_none, errW_some] <;> rfl), by first | exact Kd.S_nil _ _ _ _ _ | exact Kd.N_nil _ _ _ _ _ | exact Kd.V_nil _ _ _ _ _ | exact Kd.Q_nil _ _ _ _ _ | exact Kd.R_nil _ _ _ _ _, by first | exact Kd.S_nil _ _ _ _ _ | exact Kd.N_nil _ _ _ _ _ | exact Kd.V_nil _ _ _ _ _ | exact Kd.Q_nil _ _ _ _ _ | exact Kd.R_nil _ _ _ _ _, by repeat (first | (with_reducible first | exact HB.out | apply below_alloc | apply pw_below_drewN | apply below_drew1 | refine below_set ?_ GE112.out) | exact HB.out)⟩
    · rw [if_neg c5] at H
      have c5b0 : decide (65536 < a0) = false := decide_eq_false c5
      clear c5
      simp only [Option.some.injEq, Prod.mk.injEq] at H
      obtain ⟨rfl, rfl, rfl, rfl, rfl, rfl, rfl⟩ := H
      go_enter Tryd.func16, Tryd.ntmps16
      go_wp2_with (first | ((with_reducible refine gate_dst (N := 2) rfl ?_); refine box_event ?hg (N := 2) ?hd (cs := #[.int .i64 0, .slice none 0 0, .slice none 0 0, .int .i64 0, .int .i64 0, .int .i64 0]) (t := 43) ?hr ?_; (case hd => rfl); (case hg => rfl); (case hr => first | (go_simp; done) | (go_simp; rfl)); intro gb112 hg w8 hbox hb; have n0_ := Aside0.mk (below_step (by repeat (first | (with_reducible first | exact HB.out | apply below_alloc | apply pw_below_drewN | apply below_drew1) | exact HB.out)) hb); have n1_ := Aside0.mk (hbox); have n2_ := Aside0.mk ((by rw [hg]; exact (below_size (by repeat (first | (with_reducible first | exact HB.out | apply below_alloc | apply pw_below_drewN | apply below_drew1) | exact HB.out))) : w.heap.size ≤ gb112)); have n3_ := Aside0.mk ((by rw [hg]; exact (below_size (by repeat (first | (with_reducible first | exact HB.out | apply below_alloc | apply pw_below_drewN | apply below_drew1) | exact HB.out))) : w.heap.size ≤ gb112)); clear HB; have HB := n0_; have BK112 := n1_; have GW112 := n2_; have GE112 := n3_; clear n0_ n1_ n2_ n3_; clear hb hbox hg; have hcz9_0 : w8.cell? ⟨gb112, 0, none⟩ = some (.int .i64 0) := (blk_cell BK112.out 0).trans rfl; have hcz9_1 : w8.cell? ⟨gb112, 1, none⟩ = some (.slice none 0 0) := (blk_cell BK112.out 1).trans rfl; have hcz9_2 : w8.cell? ⟨gb112, 2, none⟩ = some (.slice none 0 0) := (blk_cell BK112.out 2).trans rfl; have hcz9_3 : w8.cell? ⟨gb112, 3, none⟩ = some (.int .i64 0) := (blk_cell BK112.out 3).trans rfl; have hcz9_4 : w8.cell? ⟨gb112, 4, none⟩ = some (.int .i64 0) := (blk_cell BK112.out 4).trans rfl; have hcz9_5 : w8.cell? ⟨gb112, 5, none⟩ = some (.int .i64 0) := (blk_cell BK112.out 5).trans rfl; have hfz9_0 := blk_frozen BK112.out 0; have hfz9_1 := blk_frozen BK112.out 1; have hfz9_2 := blk_frozen BK112.out 2; have hfz9_3 := blk_frozen BK112.out 3; have hfz9_4 := blk_frozen BK112.out 4; have hfz9_5 := blk_frozen BK112.out 5))
      refine bodyPost_ret (results_ct rfl _ _ gb112 43 #[.int .i64 a0, .slice none 0 0, .slice none 0 0, .int .i64 0, .int .i64 0, .int .i64 0] (0, 0) _ rfl (by (with_reducible repeat (first | refine blk_drewN ?_ _ | refine blk_drew ?_ | refine blk_alloc ?_ _)); refine blk_put (cs := #[.int .i64 a0, .slice none 0 0, .slice none 0 0, .int .i64 0, .int .i64 0, .int .i64 0]) ?_ 5 _ rfl; (with_reducible repeat (first | refine blk_drewN ?_ _ | refine blk_drew ?_ | refine blk_alloc ?_ _)); refine blk_put (cs := #[.int .i64 a0, .slice none 0 0, .slice none 0 0, .int .i64 0, .int .i64 0, .int .i64 0]) ?_ 4 _ rfl; (with_reducible repeat (first | refine blk_drewN ?_ _ | refine blk_drew ?_ | refine blk_alloc ?_ _)); refine blk_put (cs := #[.int .i64 a0, .slice none 0 0, .slice none 0 0, .int .i64 0, .int .i64 0, .int .i64 0]) ?_ 3 _ rfl; (with_reducible repeat (first | refine blk_drewN ?_ _ | refine blk_drew ?_ | refine blk_alloc ?_ _)); refine blk_put (cs := #[.int .i64 a0, .slice none 0 0, .slice none 0 0, .int .i64 0, .int .i64 0, .int .i64 0]) ?_ 2 _ rfl; (with_reducible repeat (first | refine blk_drewN ?_ _ | refine blk_drew ?_ | refine blk_alloc ?_ _)); refine blk_put (cs := #[.int .i64 a0, .slice none 0 0, .slice none 0 0, .int .i64 0, .int .i64 0, .int .i64 0]) ?_ 1 _ rfl; (with_reducible repeat (first | refine blk_drewN ?_ _ | refine blk_drew ?_ | refine blk_alloc ?_ _)); refine blk_put (cs := #[.int .i64 0, .slice none 0 0, .slice none 0 0, .int .i64 0, .int .i64 0, .int .i64 0]) ?_ 0 _ rfl; (with_reducible repeat (first | refine blk_drewN ?_ _ | refine blk_drew ?_ | refine blk_alloc ?_ _)); exact BK112.out) Tryd.underlying43 rfl (by kernel_rfl)) rfl ?_
      exact ⟨_, _, by first | rfl | (simp [errW_none, errW_some] <;> rfl) | (simp [*, errW_none, errW_some] <;> rfl), by first | exact Kd.S_nil _ _ _ _ _ | exact Kd.N_nil _ _ _ _ _ | exact Kd.V_nil _ _ _ _ _ | exact Kd.Q_nil _ _ _ _ _ | exact Kd.R_nil _ _ _ _ _, by first | exact Kd.S_nil _ _ _ _ _ | exact Kd.N_nil _ _ _ _ _ | exact Kd.V_nil _ _ _ _ _ | exact Kd.Q_nil _ _ _ _ _ | exact Kd.R_nil _ _ _ _ _, by repeat (first | (with_reducible first | exact HB.out | apply below_alloc | apply pw_below_drewN | apply below_drew1 | refine below_set ?_ GE112.out) | exact HB.out)⟩
mutual
def kilnref3_Write.j0 : Nat → Int → List Int → Bool → Int → List (S106) → List (S106) → Int → Int → Int → Option (Int × (List (S106)) × (List (S106)) × Int × Int × Int × Int)
  | 0, _, _, _, _, _, _, _, _, _ => none
  | k + 1, x1, x2, x17, x122000, x122001, x122002, x122003, x122004, x122005 => if x17 = true then (some (x122000, x122001, x122002, x122003, x122004, x122005, 31)) else (if (x2.length : Int) = 512 then (kilnref3_Write.l0 k x1 x2 ([] : List (S106)) 0 x122000 x122001 x122002 x122003 x122004 x122005) else (some (x122000, x122001, x122002, x122003, x122004, x122005, 32)))
def kilnref3_Write.l0 : Nat → Int → List Int → List (S106) → Int → Int → List (S106) → List (S106) → Int → Int → Int → Option (Int × (List (S106)) × (List (S106)) × Int × Int × Int × Int)
  | 0, _, _, _, _, _, _, _, _, _, _ => none
  | k + 1, x1, x2, x8, x9, x122000, x122001, x122002, x122003, x122004, x122005 => if x9 < (x122002.length : Int) then (if 0 ≤ x9 then (if x8.length < 4398046511104 then (kilnref3_Write.l0 k x1 x2 (x8 ++ [(⟨(rd_T106 x122002 x9).f0, (rd_T106 x122002 x9).f1⟩ : S106)]) (wrap64 (x9 + 1)) x122000 x122001 x122002 x122003 x122004 x122005) else (none)) else (none)) else ((kilnref3_Copy.f x2).bind fun t127 => (if x8.length < 4398046511104 then (some (x122000, x122001, (x8 ++ [(⟨x1, t127⟩ : S106)]), x122003, wrap64 (x122004 + 1), x122005, 0)) else (none)))
end
def kilnref3_Write.f (k : Nat) (a0_0 : Int) (l0_1 : List (S106)) (l0_2 : List (S106)) (a0_3 : Int) (a0_4 : Int) (a0_5 : Int) (a1 : Int) (l2 : List Int) : Option (Int × (List (S106)) × (List (S106)) × Int × Int × Int × Int) := if a1 < 0 then (kilnref3_Write.j0 k a1 l2 true a0_0 l0_1 l0_2 a0_3 a0_4 a0_5) else (kilnref3_Write.j0 k a1 l2 (decide (a1 ≥ a0_0)) a0_0 l0_1 l0_2 a0_3 a0_4 a0_5)
theorem kilnref3_Write.mono_l : ∀ k, (∀ y0 y1 y2 y3 y4 y5 y6 y7 y8, LeO (kilnref3_Write.j0 k y0 y1 y2 y3 y4 y5 y6 y7 y8) (kilnref3_Write.j0 (k + 1) y0 y1 y2 y3 y4 y5 y6 y7 y8)) ∧ (∀ y0 y1 y2 y3 y4 y5 y6 y7 y8 y9, LeO (kilnref3_Write.l0 k y0 y1 y2 y3 y4 y5 y6 y7 y8 y9) (kilnref3_Write.l0 (k + 1) y0 y1 y2 y3 y4 y5 y6 y7 y8 y9))
  | 0 => ⟨fun _ _ _ _ _ _ _ _ _ r h => by simp [kilnref3_Write.j0] at h, fun _ _ _ _ _ _ _ _ _ _ r h => by simp [kilnref3_Write.l0] at h⟩
  | k + 1 => by
    obtain ⟨ih0, ih1⟩ := kilnref3_Write.mono_l k
    refine ⟨?_, ?_⟩
    · intro y0 y1 y2 y3 y4 y5 y6 y7 y8
      unfold kilnref3_Write.j0
      repeat' first
      | (with_reducible exact ih0 _ _ _ _ _ _ _ _ _)
      | (with_reducible exact ih1 _ _ _ _ _ _ _ _ _ _)
      | (with_reducible exact LeO.refl _)
      | (with_reducible exact LeO.none _)
      | (with_reducible refine LeO.ite ?_ ?_)
      | (with_reducible refine LeO.bind ?_ (fun _ => ?_))
      | exact ih0 _ _ _ _ _ _ _ _ _
      | exact ih1 _ _ _ _ _ _ _ _ _ _
      | exact LeO.none _
      | refine LeO.ite ?_ ?_
      | refine LeO.bind ?_ (fun _ => ?_)
    · intro y0 y1 y2 y3 y4 y5 y6 y7 y8 y9
      unfold kilnref3_Write.l0
      repeat' first
      | (with_reducible exact ih0 _ _ _ _ _ _ _ _ _)
      | (with_reducible exact ih1 _ _ _ _ _ _ _ _ _ _)
      | (with_reducible exact LeO.refl _)
      | (with_reducible exact LeO.none _)
      | (with_reducible refine LeO.ite ?_ ?_)
      | (with_reducible refine LeO.bind ?_ (fun _ => ?_))
      | exact ih0 _ _ _ _ _ _ _ _ _
      | exact ih1 _ _ _ _ _ _ _ _ _ _
      | exact LeO.none _
      | refine LeO.ite ?_ ?_
      | refine LeO.bind ?_ (fun _ => ?_)
theorem kilnref3_Write.mono : ∀ a0 a1 a2 a3 a4 a5 a6 a7 k, LeO (kilnref3_Write.f k a0 a1 a2 a3 a4 a5 a6 a7) (kilnref3_Write.f (k + 1) a0 a1 a2 a3 a4 a5 a6 a7) := by
  intro a0 a1 a2 a3 a4 a5 a6 a7 k
  obtain ⟨ih0, ih1⟩ := kilnref3_Write.mono_l k
  unfold kilnref3_Write.f
  repeat' first
      | (with_reducible exact ih0 _ _ _ _ _ _ _ _ _)
      | (with_reducible exact ih1 _ _ _ _ _ _ _ _ _ _)
      | (with_reducible exact LeO.refl _)
      | (with_reducible exact LeO.none _)
      | (with_reducible refine LeO.ite ?_ ?_)
      | (with_reducible refine LeO.bind ?_ (fun _ => ?_))
      | exact ih0 _ _ _ _ _ _ _ _ _
      | exact ih1 _ _ _ _ _ _ _ _ _ _
      | exact LeO.none _
      | refine LeO.ite ?_ ?_
      | refine LeO.bind ?_ (fun _ => ?_)
set_option maxHeartbeats 8000000 in
set_option maxRecDepth 100000 in
theorem kilnref3_Write.calls (k : Nat) (a0_0 : Int) (P0_1_ : Nat → Prop) (A0_1 : Option Addr) (c0_1 : Nat) (l0_1 : List (S106)) (P0_2_ : Nat → Prop) (A0_2 : Option Addr) (c0_2 : Nat) (l0_2 : List (S106)) (a0_3 : Int) (a0_4 : Int) (a0_5 : Int) (a1 : Int) (A2 : Option Addr) (c2 : Nat) (l2 : List Int) (r1 : Int) (r2 : List (S106)) (r3 : List (S106)) (r4 : Int) (r5 : Int) (r6 : Int) (r7 : Int) (w : World) (hs0_1 : Kd.V k106 106 w w.heap.size (fun k_ => P0_1_ k_) (.slice A0_1 l0_1.length c0_1) l0_1) (hs0_2 : Kd.V k106 106 w w.heap.size (fun k_ => P0_2_ k_) (.slice A0_2 l0_2.length c0_2) l0_2) (hr2 : Kd.C (Kd.int .u8) w A2 l2.length l2) (hc2 : l2.length ≤ c2) (h : kilnref3_Write.f k a0_0 l0_1 l0_2 a0_3 a0_4 a0_5 a1 l2 = some (r1, r2, r3, r4, r5, r6, r7)) :
    Calls Tryd.prog 20 #[.agg #[.int .i64 a0_0, .slice A0_1 l0_1.length c0_1, .slice A0_2 l0_2.length c0_2, .int .i64 a0_3, .int .i64 a0_4, .int .i64 a0_5], .int .i64 a1, .slice A2 l2.length c2] w fun e w' => ∃ v1_ v2_ : Value, e = .returned (.tuple #[.agg #[.int .i64 r1, v1_, v2_, .int .i64 r4, .int .i64 r5, .int .i64 r6], .int .i64 r7]) ∧ Kd.V k106 106 w' w.heap.size (fun k_ => ((P0_1_ k_ ∨ P0_2_ k_) ∨ w.heap.size ≤ k_)) v1_ r2 ∧ Kd.V k106 106 w' w.heap.size (fun k_ => ((P0_1_ k_ ∨ P0_2_ k_) ∨ w.heap.size ≤ k_)) v2_ r3 ∧ Below w.heap.size w w' := by
  have hu43 := Tryd.underlying43
  have hu106 := Tryd.underlying106
  have HO0_1 := Aside0.mk (show Kd.V k106 106 w w.heap.size (fun k_ => ((P0_1_ k_ ∨ P0_2_ k_) ∨ w.heap.size ≤ k_)) (.slice A0_1 l0_1.length c0_1) l0_1 from Kd.V_mono hs0_1 (fun k_ hk => .inl (.inl hk)))
  have HO0_2 := Aside0.mk (show Kd.V k106 106 w w.heap.size (fun k_ => ((P0_1_ k_ ∨ P0_2_ k_) ∨ w.heap.size ≤ k_)) (.slice A0_2 l0_2.length c0_2) l0_2 from Kd.V_mono hs0_2 (fun k_ hk => .inl (.inr hk)))
  have HR2 := Aside0.mk hr2
  have HC2 := Aside0.mk hc2
  clear hr2 hc2
  have HB := Aside0.mk (Below.refl w.heap.size w)
  have H : (if a1 < 0 then (kilnref3_Write.j0 k a1 l2 true a0_0 l0_1 l0_2 a0_3 a0_4 a0_5) else (kilnref3_Write.j0 k a1 l2 (decide (a1 ≥ a0_0)) a0_0 l0_1 l0_2 a0_3 a0_4 a0_5)) = some (r1, r2, r3, r4, r5, r6, r7) := h
  clear h
  have HC4 := Aside0.mk H
  clear H
  go_enter Tryd.func20, Tryd.ntmps20
  go_upto_region 1 with (first | ((with_reducible refine gate_dst (N := 3) rfl ?_); refine box_event ?hg (N := 3) ?hd (cs := #[.int .i64 a0_0, .slice A0_1 l0_1.length c0_1, .slice A0_2 l0_2.length c0_2, .int .i64 a0_3, .int .i64 a0_4, .int .i64 a0_5]) (t := 43) ?hr ?_; (case hd => rfl); (case hg => rfl); (case hr => first | (go_simp; done) | (go_simp; rfl)); intro gb121 hg w5 hbox hb; have n0_ := Aside0.mk (Kd.V_below (Kd.V_elderB (by (with_reducible repeat (first | apply Kd.V_alloc | apply Kd.V_drewN | apply Kd.V_drew)); exact HO0_1.out) gb121 (Nat.le_of_eq hg.symm)) hb); have n1_ := Aside0.mk (Kd.V_below (Kd.V_elderB (by (with_reducible repeat (first | apply Kd.V_alloc | apply Kd.V_drewN | apply Kd.V_drew)); exact HO0_2.out) gb121 (Nat.le_of_eq hg.symm)) hb); have n2_ := Aside0.mk (below_step (by repeat (first | (with_reducible first | exact HB.out | apply below_alloc | apply pw_below_drewN | apply below_drew1) | exact HB.out)) hb); have n3_ := Aside0.mk (hbox); have n4_ := Aside0.mk ((by rw [hg]; exact (below_size (by repeat (first | (with_reducible first | exact HB.out | apply below_alloc | apply pw_below_drewN | apply below_drew1) | exact HB.out))) : w.heap.size ≤ gb121)); have n5_ := Aside0.mk ((by rw [hg]; exact (below_size (by repeat (first | (with_reducible first | exact HB.out | apply below_alloc | apply pw_below_drewN | apply below_drew1) | exact HB.out))) : w.heap.size ≤ gb121)); clear HO0_1; clear HO0_2; clear HB; have HO0_1 := n0_; have HO0_2 := n1_; have HB := n2_; have BK121 := n3_; have GW121 := n4_; have GE121 := n5_; clear n0_ n1_ n2_ n3_ n4_ n5_; clear hb hbox hg) | ((with_reducible refine gate_dst (N := 6) rfl ?_); refine box_event ?hg (N := 6) ?hd (cs := #[.int .i64 0, .slice none 0 0, .slice none 0 0, .int .i64 0, .int .i64 0, .int .i64 0]) (t := 43) ?hr ?_; (case hd => rfl); (case hg => rfl); (case hr => first | (go_simp; done) | (go_simp; rfl)); intro gb122 hg w6 hbox hb; have n0_ := Aside0.mk (Kd.V_below (Kd.V_elderB (by (with_reducible repeat (first | apply Kd.V_alloc | apply Kd.V_drewN | apply Kd.V_drew)); exact HO0_1.out) gb122 (Nat.le_of_eq hg.symm)) hb); have n1_ := Aside0.mk (Kd.V_below (Kd.V_elderB (by (with_reducible repeat (first | apply Kd.V_alloc | apply Kd.V_drewN | apply Kd.V_drew)); exact HO0_2.out) gb122 (Nat.le_of_eq hg.symm)) hb); have n2_ := Aside0.mk (blk_below (g := gb121) (o := .cells #[.int .i64 a0_0, .slice A0_1 l0_1.length c0_1, .slice A0_2 l0_2.length c0_2, .int .i64 a0_3, .int .i64 a0_4, .int .i64 a0_5] 43 (0, 0)) (by (with_reducible repeat (first | refine blk_drewN ?_ _ | refine blk_drew ?_ | refine blk_alloc ?_ _)); exact BK121.out) hb); have n3_ := Aside0.mk (below_step (by repeat (first | (with_reducible first | exact HB.out | apply below_alloc | apply pw_below_drewN | apply below_drew1 | refine below_set ?_ GE121.out) | exact HB.out)) hb); have n4_ := Aside0.mk (hbox); have n5_ := Aside0.mk ((by rw [hg]; exact (below_size (by repeat (first | (with_reducible first | exact HB.out | apply below_alloc | apply pw_below_drewN | apply below_drew1 | refine below_set ?_ GE121.out) | exact HB.out))) : w.heap.size ≤ gb122)); have n6_ := Aside0.mk ((by rw [hg]; exact (below_size (by repeat (first | (with_reducible first | exact HB.out | apply below_alloc | apply pw_below_drewN | apply below_drew1 | refine below_set ?_ GE121.out) | exact HB.out))) : w.heap.size ≤ gb122)); have n7_ := Aside0.mk ((by rw [hg]; exact Nat.ne_of_lt (blk_lt (g := gb121) (o := .cells #[.int .i64 a0_0, .slice A0_1 l0_1.length c0_1, .slice A0_2 l0_2.length c0_2, .int .i64 a0_3, .int .i64 a0_4, .int .i64 a0_5] 43 (0, 0)) (by (with_reducible repeat (first | refine blk_drewN ?_ _ | refine blk_drew ?_ | refine blk_alloc ?_ _)); exact BK121.out)) : gb121 ≠ gb122)); have n8_ := Aside0.mk ((by rw [hg]; exact Nat.ne_of_gt (blk_lt (g := gb121) (o := .cells #[.int .i64 a0_0, .slice A0_1 l0_1.length c0_1, .slice A0_2 l0_2.length c0_2, .int .i64 a0_3, .int .i64 a0_4, .int .i64 a0_5] 43 (0, 0)) (by (with_reducible repeat (first | refine blk_drewN ?_ _ | refine blk_drew ?_ | refine blk_alloc ?_ _)); exact BK121.out)) : gb122 ≠ gb121)); clear HO0_1; clear HO0_2; clear BK121; clear HB; have HO0_1 := n0_; have HO0_2 := n1_; have BK121 := n2_; have HB := n3_; have BK122 := n4_; have GW122 := n5_; have GE122 := n6_; have NB121_122 := n7_; have NB122_121 := n8_; clear n0_ n1_ n2_ n3_ n4_ n5_ n6_ n7_ n8_; clear hb hbox hg))
  (try simp only [Act.put, List.setIfInBounds_toArray, List.set_cons_zero, List.set_cons_succ])
  go_cut [17] (fun v17 wc => ∃ (kq : Nat) (x17_3 : Bool), v17 = .bool x17_3 ∧ Aside0 (kilnref3_Write.j0 kq a1 l2 x17_3 a0_0 l0_1 l0_2 a0_3 a0_4 a0_5 = some (r1, r2, r3, r4, r5, r6, r7)) ∧ Aside0 (kq ≤ k) ∧ Aside0 (Kd.V k106 106 wc w.heap.size (fun k_ => ((P0_1_ k_ ∨ P0_2_ k_) ∨ w.heap.size ≤ k_) ∧ k_ ≠ gb121 ∧ k_ ≠ gb122) (.slice A0_1 l0_1.length c0_1) l0_1) ∧ Aside0 (Kd.V k106 106 wc w.heap.size (fun k_ => ((P0_1_ k_ ∨ P0_2_ k_) ∨ w.heap.size ≤ k_) ∧ k_ ≠ gb121 ∧ k_ ≠ gb122) (.slice A0_2 l0_2.length c0_2) l0_2) ∧ Aside0 (wc.heap[gb121]? = some (.cells #[.int .i64 a0_0, (.slice A0_1 l0_1.length c0_1), (.slice A0_2 l0_2.length c0_2), .int .i64 a0_3, .int .i64 a0_4, .int .i64 a0_5] 43 (0, 0))) ∧ Aside0 (wc.heap[gb122]? = some (.cells #[.int .i64 0, (.slice none 0 0), (.slice none 0 0), .int .i64 0, .int .i64 0, .int .i64 0] 43 (0, 0))) ∧ Aside0 (Below w.heap.size w wc))
  case first =>
    have H := HC4.out
    clear HC4
    by_cases c7 : a1 < 0
    · rw [if_pos c7] at H
      have c7b0 : decide (a1 < 0) = true := decide_eq_true c7
      clear c7
      (first | rw [c7b0] | (simp only [i64_w, i32_w]; rw [c7b0]) | skip)
      have H' := Aside0.mk H
      clear H
      go_wp2
      go_meet
      case rel => exact ⟨_, (true), (by first | rfl | (simp; done) | (simp [*]; done)), H', ⟨by first | omega | exact Nat.le_refl _⟩, ⟨by (with_reducible repeat (first | apply Kd.V_alloc | apply Kd.V_drewN | apply Kd.V_drew)); exact Kd.V_mono HO0_1.out (fun _ hk => ⟨hk.1.1, ⟨hk.1.2, hk.2⟩⟩)⟩, ⟨by (with_reducible repeat (first | apply Kd.V_alloc | apply Kd.V_drewN | apply Kd.V_drew)); exact Kd.V_mono HO0_2.out (fun _ hk => ⟨hk.1.1, ⟨hk.1.2, hk.2⟩⟩)⟩, ⟨by (with_reducible repeat (first | refine blk_drewN ?_ _ | refine blk_drew ?_ | refine blk_alloc ?_ _)); exact BK121.out⟩, ⟨by (with_reducible repeat (first | refine blk_drewN ?_ _ | refine blk_drew ?_ | refine blk_alloc ?_ _)); exact BK122.out⟩, ⟨by repeat (first | (with_reducible first | exact HB.out | apply below_alloc | apply pw_below_drewN | apply below_drew1 | refine below_set ?_ GE121.out | refine below_set ?_ GE122.out) | exact HB.out)⟩⟩
    · rw [if_neg c7] at H
      have c7b0 : decide (a1 < 0) = false := decide_eq_false c7
      clear c7
      (first | rw [c7b0] | (simp only [i64_w, i32_w]; rw [c7b0]) | skip)
      have H' := Aside0.mk H
      clear H
      have hnb8 := NB121_122.out
      have hnc8 := NB122_121.out
      have hcz9_0 : w6.cell? ⟨gb121, 0, none⟩ = some (.int .i64 a0_0) := (blk_cell BK121.out 0).trans rfl
      have hcz9_1 : w6.cell? ⟨gb121, 1, none⟩ = some (.slice A0_1 l0_1.length c0_1) := (blk_cell BK121.out 1).trans rfl
      have hcz9_2 : w6.cell? ⟨gb121, 2, none⟩ = some (.slice A0_2 l0_2.length c0_2) := (blk_cell BK121.out 2).trans rfl
      have hcz9_3 : w6.cell? ⟨gb121, 3, none⟩ = some (.int .i64 a0_3) := (blk_cell BK121.out 3).trans rfl
      have hcz9_4 : w6.cell? ⟨gb121, 4, none⟩ = some (.int .i64 a0_4) := (blk_cell BK121.out 4).trans rfl
      have hcz9_5 : w6.cell? ⟨gb121, 5, none⟩ = some (.int .i64 a0_5) := (blk_cell BK121.out 5).trans rfl
      have hfz9_0 := blk_frozen BK121.out 0
      have hfz9_1 := blk_frozen BK121.out 1
      have hfz9_2 := blk_frozen BK121.out 2
      have hfz9_3 := blk_frozen BK121.out 3
      have hfz9_4 := blk_frozen BK121.out 4
      have hfz9_5 := blk_frozen BK121.out 5
      go_wp2
      go_meet
      case rel => exact ⟨_, (decide (a1 ≥ a0_0)), (by first | rfl | (simp; done) | (simp [*]; done)), H', ⟨by first | omega | exact Nat.le_refl _⟩, ⟨by (with_reducible repeat (first | apply Kd.V_alloc | apply Kd.V_drewN | apply Kd.V_drew)); exact Kd.V_mono HO0_1.out (fun _ hk => ⟨hk.1.1, ⟨hk.1.2, hk.2⟩⟩)⟩, ⟨by (with_reducible repeat (first | apply Kd.V_alloc | apply Kd.V_drewN | apply Kd.V_drew)); exact Kd.V_mono HO0_2.out (fun _ hk => ⟨hk.1.1, ⟨hk.1.2, hk.2⟩⟩)⟩, ⟨by (with_reducible repeat (first | refine blk_drewN ?_ _ | refine blk_drew ?_ | refine blk_alloc ?_ _)); exact BK121.out⟩, ⟨by (with_reducible repeat (first | refine blk_drewN ?_ _ | refine blk_drew ?_ | refine blk_alloc ?_ _)); exact BK122.out⟩, ⟨by repeat (first | (with_reducible first | exact HB.out | apply below_alloc | apply pw_below_drewN | apply below_drew1 | refine below_set ?_ GE121.out | refine below_set ?_ GE122.out) | exact HB.out)⟩⟩
  case rest =>
    clear HC4
    try clear c2
    try clear p2
    try clear c7
    try clear c7b0
    try clear c8
    try clear hcz9_0
    try clear hcz9_1
    try clear hcz9_2
    try clear hcz9_3
    try clear hcz9_4
    try clear hcz9_5
    try clear hfz9_0
    try clear hfz9_1
    try clear hfz9_2
    try clear hfz9_3
    try clear hfz9_4
    try clear hfz9_5
    obtain ⟨kq, x17_3, rfl, HA, HJ3, HO_122001, HO_122002, BK121, BK122, HB⟩ := hcut
    cases kq with
    | zero => exact absurd HA.out (by simp [kilnref3_Write.j0])
    | succ kj3 =>
      have H := HA.out
      clear HA
      simp only [kilnref3_Write.j0] at H
      by_cases c10 : x17_3 = true
      · subst c10
        have H1 : (some (a0_0, l0_1, l0_2, a0_3, a0_4, a0_5, 31)) = some (r1, r2, r3, r4, r5, r6, r7) := by rw [if_pos rfl] at H; exact H
        clear H
        have H := H1
        clear H1
        simp only [Option.some.injEq, Prod.mk.injEq] at H
        obtain ⟨rfl, rfl, rfl, rfl, rfl, rfl, rfl⟩ := H
        have hnb11 := NB121_122.out
        have hnc11 := NB122_121.out
        have hcz12_0 : wc.cell? ⟨gb121, 0, none⟩ = some (.int .i64 a0_0) := (blk_cell BK121.out 0).trans rfl
        have hcz12_1 : wc.cell? ⟨gb121, 1, none⟩ = some (.slice A0_1 l0_1.length c0_1) := (blk_cell BK121.out 1).trans rfl
        have hcz12_2 : wc.cell? ⟨gb121, 2, none⟩ = some (.slice A0_2 l0_2.length c0_2) := (blk_cell BK121.out 2).trans rfl
        have hcz12_3 : wc.cell? ⟨gb121, 3, none⟩ = some (.int .i64 a0_3) := (blk_cell BK121.out 3).trans rfl
        have hcz12_4 : wc.cell? ⟨gb121, 4, none⟩ = some (.int .i64 a0_4) := (blk_cell BK121.out 4).trans rfl
        have hcz12_5 : wc.cell? ⟨gb121, 5, none⟩ = some (.int .i64 a0_5) := (blk_cell BK121.out 5).trans rfl
        have hfz12_0 := blk_frozen BK121.out 0
        have hfz12_1 := blk_frozen BK121.out 1
        have hfz12_2 := blk_frozen BK121.out 2
        have hfz12_3 := blk_frozen BK121.out 3
        have hfz12_4 := blk_frozen BK121.out 4
        have hfz12_5 := blk_frozen BK121.out 5
        have hcz13_0 : wc.cell? ⟨gb122, 0, none⟩ = some (.int .i64 0) := (blk_cell BK122.out 0).trans rfl
        have hcz13_1 : wc.cell? ⟨gb122, 1, none⟩ = some (.slice none 0 0) := (blk_cell BK122.out 1).trans rfl
        have hcz13_2 : wc.cell? ⟨gb122, 2, none⟩ = some (.slice none 0 0) := (blk_cell BK122.out 2).trans rfl
        have hcz13_3 : wc.cell? ⟨gb122, 3, none⟩ = some (.int .i64 0) := (blk_cell BK122.out 3).trans rfl
        have hcz13_4 : wc.cell? ⟨gb122, 4, none⟩ = some (.int .i64 0) := (blk_cell BK122.out 4).trans rfl
        have hcz13_5 : wc.cell? ⟨gb122, 5, none⟩ = some (.int .i64 0) := (blk_cell BK122.out 5).trans rfl
        have hfz13_0 := blk_frozen BK122.out 0
        have hfz13_1 := blk_frozen BK122.out 1
        have hfz13_2 := blk_frozen BK122.out 2
        have hfz13_3 := blk_frozen BK122.out 3
        have hfz13_4 := blk_frozen BK122.out 4
        have hfz13_5 := blk_frozen BK122.out 5
        go_wp2
        refine bodyPost_ret (results_ct rfl _ _ gb122 43 #[.int .i64 a0_0, .slice A0_1 l0_1.length c0_1, .slice A0_2 l0_2.length c0_2, .int .i64 a0_3, .int .i64 a0_4, .int .i64 a0_5] (0, 0) _ rfl (by (with_reducible repeat (first | refine blk_drewN ?_ _ | refine blk_drew ?_ | refine blk_alloc ?_ _)); refine blk_put (cs := #[.int .i64 a0_0, .slice A0_1 l0_1.length c0_1, .slice A0_2 l0_2.length c0_2, .int .i64 a0_3, .int .i64 a0_4, .int .i64 0]) ?_ 5 _ rfl; (with_reducible repeat (first | refine blk_drewN ?_ _ | refine blk_drew ?_ | refine blk_alloc ?_ _)); refine blk_put (cs := #[.int .i64 a0_0, .slice A0_1 l0_1.length c0_1, .slice A0_2 l0_2.length c0_2, .int .i64 a0_3, .int .i64 0, .int .i64 0]) ?_ 4 _ rfl; (with_reducible repeat (first | refine blk_drewN ?_ _ | refine blk_drew ?_ | refine blk_alloc ?_ _)); refine blk_put (cs := #[.int .i64 a0_0, .slice A0_1 l0_1.length c0_1, .slice A0_2 l0_2.length c0_2, .int .i64 0, .int .i64 0, .int .i64 0]) ?_ 3 _ rfl; (with_reducible repeat (first | refine blk_drewN ?_ _ | refine blk_drew ?_ | refine blk_alloc ?_ _)); refine blk_put (cs := #[.int .i64 a0_0, .slice A0_1 l0_1.length c0_1, .slice none 0 0, .int .i64 0, .int .i64 0, .int .i64 0]) ?_ 2 _ rfl; (with_reducible repeat (first | refine blk_drewN ?_ _ | refine blk_drew ?_ | refine blk_alloc ?_ _)); refine blk_put (cs := #[.int .i64 a0_0, .slice none 0 0, .slice none 0 0, .int .i64 0, .int .i64 0, .int .i64 0]) ?_ 1 _ rfl; (with_reducible repeat (first | refine blk_drewN ?_ _ | refine blk_drew ?_ | refine blk_alloc ?_ _)); refine blk_put (cs := #[.int .i64 0, .slice none 0 0, .slice none 0 0, .int .i64 0, .int .i64 0, .int .i64 0]) ?_ 0 _ rfl; (with_reducible repeat (first | refine blk_drewN ?_ _ | refine blk_drew ?_ | refine blk_alloc ?_ _)); exact BK122.out) Tryd.underlying43 rfl (by kernel_rfl)) rfl ?_
        exact ⟨_, _, by first | rfl | (simp [errW_none, errW_some] <;> rfl) | (simp [*, errW_none, errW_some] <;> rfl), by (with_reducible repeat (first | apply Kd.V_alloc | apply Kd.V_drewN | apply Kd.V_drew)); exact Kd.V_mono (Kd.V_far (p := ⟨gb122, 5, none⟩) (Kd.V_far (p := ⟨gb122, 4, none⟩) (Kd.V_far (p := ⟨gb122, 3, none⟩) (Kd.V_far (p := ⟨gb122, 2, none⟩) (Kd.V_far (p := ⟨gb122, 1, none⟩) (Kd.V_far (p := ⟨gb122, 0, none⟩) (Kd.V_mono HO_122001.out (fun k_ hk => (⟨hk, hk.2.2⟩ : _ ∧ k_ ≠ gb122))) (fun _ hk => hk.2) (.int .i64 a0_0)) (fun _ hk => hk.2) (.slice A0_1 l0_1.length c0_1)) (fun _ hk => hk.2) (.slice A0_2 l0_2.length c0_2)) (fun _ hk => hk.2) (.int .i64 a0_3)) (fun _ hk => hk.2) (.int .i64 a0_4)) (fun _ hk => hk.2) (.int .i64 a0_5)) (fun _ hk => hk.1.1), by (with_reducible repeat (first | apply Kd.V_alloc | apply Kd.V_drewN | apply Kd.V_drew)); exact Kd.V_mono (Kd.V_far (p := ⟨gb122, 5, none⟩) (Kd.V_far (p := ⟨gb122, 4, none⟩) (Kd.V_far (p := ⟨gb122, 3, none⟩) (Kd.V_far (p := ⟨gb122, 2, none⟩) (Kd.V_far (p := ⟨gb122, 1, none⟩) (Kd.V_far (p := ⟨gb122, 0, none⟩) (Kd.V_mono HO_122002.out (fun k_ hk => (⟨hk, hk.2.2⟩ : _ ∧ k_ ≠ gb122))) (fun _ hk => hk.2) (.int .i64 a0_0)) (fun _ hk => hk.2) (.slice A0_1 l0_1.length c0_1)) (fun _ hk => hk.2) (.slice A0_2 l0_2.length c0_2)) (fun _ hk => hk.2) (.int .i64 a0_3)) (fun _ hk => hk.2) (.int .i64 a0_4)) (fun _ hk => hk.2) (.int .i64 a0_5)) (fun _ hk => hk.1.1), by repeat (first | (with_reducible first | exact HB.out | apply below_alloc | apply pw_below_drewN | apply below_drew1 | refine below_set ?_ GE121.out | refine below_set ?_ GE122.out) | exact HB.out)⟩
      · replace c10 := Bool.eq_false_iff.mpr c10
        subst c10
        have H1 : (if (l2.length : Int) = 512 then (kilnref3_Write.l0 kj3 a1 l2 ([] : List (S106)) 0 a0_0 l0_1 l0_2 a0_3 a0_4 a0_5) else (some (a0_0, l0_1, l0_2, a0_3, a0_4, a0_5, 32))) = some (r1, r2, r3, r4, r5, r6, r7) := by rw [if_neg (show ¬ (false = true) by decide)] at H; exact H
        clear H
        have H := H1
        clear H1
        by_cases c14 : (l2.length : Int) = 512
        · rw [if_pos c14] at H
          have c14b0 : ((l2.length : Int) == 512) = true := beq_iff_eq.mpr c14
          have c14b1 : ((l2.length : Int) != 512) = false := bne_eq_false_iff_eq.mpr c14
          clear c14
          have H' := Aside0.mk H
          clear H
          go_wp2
          go_loopg [8, 9] kj3 (fun kq v8 v9 w' => ∃ (x8_2 : List (S106)) (x9_2 : Int), v9 = .int .i64 x9_2 ∧ Aside0 (kilnref3_Write.l0 kq a1 l2 x8_2 x9_2 a0_0 l0_1 l0_2 a0_3 a0_4 a0_5 = some (r1, r2, r3, r4, r5, r6, r7)) ∧ Aside0 (kq ≤ kj3) ∧ Aside0 (Kd.N k106 106 w' w.heap.size (fun k_ => ((P0_1_ k_ ∨ P0_2_ k_) ∨ w.heap.size ≤ k_) ∧ k_ ≠ gb121 ∧ k_ ≠ gb122) v8 x8_2) ∧ Aside0 (Kd.V k106 106 w' w.heap.size (fun k_ => ((P0_1_ k_ ∨ P0_2_ k_) ∨ w.heap.size ≤ k_) ∧ some k_ ≠ (v8 : Value).ownBlock ∧ k_ ≠ gb121 ∧ k_ ≠ gb122) (.slice A0_1 l0_1.length c0_1) l0_1) ∧ Aside0 (Kd.V k106 106 w' w.heap.size (fun k_ => ((P0_1_ k_ ∨ P0_2_ k_) ∨ w.heap.size ≤ k_) ∧ some k_ ≠ (v8 : Value).ownBlock ∧ k_ ≠ gb121 ∧ k_ ≠ gb122) (.slice A0_2 l0_2.length c0_2) l0_2) ∧ Aside0 (w'.heap[gb121]? = some (.cells #[.int .i64 a0_0, (.slice A0_1 l0_1.length c0_1), (.slice A0_2 l0_2.length c0_2), .int .i64 a0_3, .int .i64 a0_4, .int .i64 a0_5] 43 (0, 0))) ∧ Aside0 (w'.heap[gb122]? = some (.cells #[.int .i64 0, (.slice none 0 0), (.slice none 0 0), .int .i64 0, .int .i64 0, .int .i64 0] 43 (0, 0))) ∧ Aside0 (Below w.heap.size w w'))
          case atStart => exact ⟨(([] : List (S106))), (0), (by first | rfl | (simp; done) | (simp [*]; done)), H', ⟨Nat.le_refl _⟩, ⟨by first | exact Kd.S_nil _ _ _ _ _ | exact Kd.N_nil _ _ _ _ _ | exact Kd.V_nil _ _ _ _ _ | exact Kd.Q_nil _ _ _ _ _ | exact Kd.R_nil _ _ _ _ _⟩, ⟨by (with_reducible repeat (first | apply Kd.V_alloc | apply Kd.V_drewN | apply Kd.V_drew)); exact Kd.V_mono HO_122001.out (fun _ hk => ⟨hk.1, ⟨(by simp [Value.ownBlock]), ⟨hk.2.1, hk.2.2⟩⟩⟩)⟩, ⟨by (with_reducible repeat (first | apply Kd.V_alloc | apply Kd.V_drewN | apply Kd.V_drew)); exact Kd.V_mono HO_122002.out (fun _ hk => ⟨hk.1, ⟨(by simp [Value.ownBlock]), ⟨hk.2.1, hk.2.2⟩⟩⟩)⟩, ⟨by (with_reducible repeat (first | refine blk_drewN ?_ _ | refine blk_drew ?_ | refine blk_alloc ?_ _)); exact BK121.out⟩, ⟨by (with_reducible repeat (first | refine blk_drewN ?_ _ | refine blk_drew ?_ | refine blk_alloc ?_ _)); exact BK122.out⟩, ⟨by repeat (first | (with_reducible first | exact HB.out | apply below_alloc | apply pw_below_drewN | apply below_drew1 | refine below_set ?_ GE121.out | refine below_set ?_ GE122.out) | exact HB.out)⟩⟩
          case round =>
            clear H'
            try clear c1
            try clear c2
            try clear p2
            try clear c7
            try clear c7b0
            try clear c8
            try clear c10
            try clear c11
            try clear c14
            try clear c14b0
            try clear c14b1
            try clear hcz12_0
            try clear hcz12_1
            try clear hcz12_2
            try clear hcz12_3
            try clear hcz12_4
            try clear hcz12_5
            try clear hcz13_0
            try clear hcz13_1
            try clear hcz13_2
            try clear hcz13_3
            try clear hcz13_4
            try clear hcz13_5
            try clear hcz9_0
            try clear hcz9_1
            try clear hcz9_2
            try clear hcz9_3
            try clear hcz9_4
            try clear hcz9_5
            try clear hfz12_0
            try clear hfz12_1
            try clear hfz12_2
            try clear hfz12_3
            try clear hfz12_4
            try clear hfz12_5
            try clear hfz13_0
            try clear hfz13_1
            try clear hfz13_2
            try clear hfz13_3
            try clear hfz13_4
            try clear hfz13_5
            try clear hfz9_0
            try clear hfz9_1
            try clear hfz9_2
            try clear hfz9_3
            try clear hfz9_4
            try clear hfz9_5
            try clear p2
            obtain ⟨x8_2, x9_2, rfl, HA, HK2, HO_8, HO_122001, HO_122002, BK121, BK122, HB⟩ := hrel
            cases gk with
            | zero => exact absurd HA.out (by simp [kilnref3_Write.l0])
            | succ k2 =>
              have H := HA.out
              clear HA
              simp only [kilnref3_Write.l0] at H
              by_cases c15 : x9_2 < (l0_2.length : Int)
              · rw [if_pos c15] at H
                have c15b0 : decide (x9_2 < (l0_2.length : Int)) = true := decide_eq_true c15
                clear c15
                by_cases c16 : 0 ≤ x9_2
                · rw [if_pos c16] at H
                  have c16b0 : decide (0 ≤ x9_2) = true := decide_eq_true c16
                  clear c16
                  by_cases c17 : x8_2.length < 4398046511104
                  · rw [if_pos c17] at H
                    have LMc17 := Aside0.mk c17
                    clear c17
                    obtain ⟨y124, hy124⟩ : ∃ y_ : List (S106), y_ = (x8_2 ++ [(⟨(rd_T106 l0_2 x9_2).f0, (rd_T106 l0_2 x9_2).f1⟩ : S106)]) := ⟨_, rfl⟩
                    replace H : (kilnref3_Write.l0 k2 a1 l2 y124 (wrap64 (x9_2 + 1)) a0_0 l0_1 l0_2 a0_3 a0_4 a0_5) = some (r1, r2, r3, r4, r5, r6, r7) := by first | (rw [hy124]; with_reducible exact H) | (have H2_ := (Option.bind_some _ _).symm.trans H; rw [hy124]; with_reducible exact H2_) | (have H2_ := (Option.bind_some _ _).symm.trans H; with_reducible exact H2_) | with_reducible exact H | (rw [hy124]; exact H) | exact H
                    have Ny124 := Aside0.mk hy124
                    clear hy124
                    have H' := Aside0.mk H
                    clear H
                    have hnb18 := NB121_122.out
                    have hnc18 := NB122_121.out
                    have hcz19_0 : wr.cell? ⟨gb121, 0, none⟩ = some (.int .i64 a0_0) := (blk_cell BK121.out 0).trans rfl
                    have hcz19_1 : wr.cell? ⟨gb121, 1, none⟩ = some (.slice A0_1 l0_1.length c0_1) := (blk_cell BK121.out 1).trans rfl
                    have hcz19_2 : wr.cell? ⟨gb121, 2, none⟩ = some (.slice A0_2 l0_2.length c0_2) := (blk_cell BK121.out 2).trans rfl
                    have hcz19_3 : wr.cell? ⟨gb121, 3, none⟩ = some (.int .i64 a0_3) := (blk_cell BK121.out 3).trans rfl
                    have hcz19_4 : wr.cell? ⟨gb121, 4, none⟩ = some (.int .i64 a0_4) := (blk_cell BK121.out 4).trans rfl
                    have hcz19_5 : wr.cell? ⟨gb121, 5, none⟩ = some (.int .i64 a0_5) := (blk_cell BK121.out 5).trans rfl
                    have hfz19_0 := blk_frozen BK121.out 0
                    have hfz19_1 := blk_frozen BK121.out 1
                    have hfz19_2 := blk_frozen BK121.out 2
                    have hfz19_3 := blk_frozen BK121.out 3
                    have hfz19_4 := blk_frozen BK121.out 4
                    have hfz19_5 := blk_frozen BK121.out 5
                    have p123 : 0 ≤ (x9_2 : Int) := of_decide_eq_true (by first | (with_reducible assumption) | assumption)
                    have q123 : x9_2 < (l0_2.length : Int) := of_decide_eq_true (by first | (with_reducible assumption) | assumption)
                    obtain ⟨ad123, A123_1, c123_1, e123, hx123_0, hx123_1, hl123_1, hi123_1⟩ := at_T106 (Kd.V_reads' HO_122002.out).2.2 x9_2 p123 q123
                    cases e123
                    obtain ⟨ce123, hce123, hMe123, hcc123⟩ := Kd.V_get HO_122002.out z106 x9_2 p123 (by first | exact q123 | exact of_decide_eq_true (by first | (with_reducible assumption) | assumption) | (have e_ := (Kd.V_reads' HO_122002.out).1; omega))
                    obtain ⟨ua123_1, uc123_1, rfl, ul123_1, ge123_1⟩ := k106_openF hMe123
                    have hv123_1 := hcc123 1 _ rfl
                    rw [add_field _ _ 1 (by omega)] at hv123_1
                    replace hv123_1 := Option.some.inj (hv123_1.symm.trans hx123_1)
                    injection hv123_1 with hva_ hvn_ hvc_
                    rw [hva_] at ge123_1
                    rw [hvc_] at ul123_1
                    have HL123_1 := Aside0.mk (show Kd.V (Kd.int .u8) 5 _ w.heap.size _ _ ((rd_T106 l0_2 x9_2).f1) from Kd.V_mk ul123_1 ge123_1)
                    clear hva_ hvn_ hvc_ ge123_1 ul123_1
                    clear hcc123 hce123
                    have HR123_1 := Aside0.mk hi123_1
                    have HC123_1 := Aside0.mk hl123_1
                    clear hi123_1 hl123_1
                    replace p123 := eq_true p123
                    replace q123 := eq_true q123
                    go_wp2_with (first | ((with_reducible refine gate_builtin (b := .append) (xs := #[.tmp 30, .tmp 36]) rfl ?_); at_builtin; refine Kd.N_append k106 (w0 := w) w.heap.size rfl (.tmp 30) (.tmp 36) 39 106 (.agg #[(.int .i64 0), (.slice none 0 0)]) 32 rfl Tryd.underlying39 info106 rfl (by decide) (by omega) u8 x8_2 (⟨(rd_T106 l0_2 x9_2).f0, (rd_T106 l0_2 x9_2).f1⟩ : S106) [.int .i64 ((rd_T106 l0_2 x9_2).f0), .slice A123_1 ((rd_T106 l0_2 x9_2).f1).length c123_1] (fun k_ => ((P0_1_ k_ ∨ P0_2_ k_) ∨ w.heap.size ≤ k_) ∧ k_ ≠ gb121 ∧ k_ ≠ gb122) (fun k_ => ((fun k_ => ((P0_1_ k_ ∨ P0_2_ k_) ∨ w.heap.size ≤ k_) ∧ k_ ≠ gb121 ∧ k_ ≠ gb122)) k_ ∧ some k_ ≠ (u8 : Value).ownBlock) rfl rfl ?aP (fun _ hk => hk) ?aF ?aO ?aB ?aS ?aL ?_; (case aP => exact (k106_mkF _ _ (⟨(rd_T106 l0_2 x9_2).f0, (rd_T106 l0_2 x9_2).f1⟩ : S106) (Kd.V_reads' (Kd.V_mono (ok' := (fun k_ => ((fun k_ => ((P0_1_ k_ ∨ P0_2_ k_) ∨ w.heap.size ≤ k_) ∧ k_ ≠ gb121 ∧ k_ ≠ gb122)) k_ ∧ some k_ ≠ (u8 : Value).ownBlock)) (HL123_1.out) (fun k_ hk => ⟨⟨hk.1, ⟨hk.2.2.1, hk.2.2.2⟩⟩, hk.2.1⟩))).2.1 (Kd.V_F (Kd.V_mono (ok' := (fun k_ => ((fun k_ => ((P0_1_ k_ ∨ P0_2_ k_) ∨ w.heap.size ≤ k_) ∧ k_ ≠ gb121 ∧ k_ ≠ gb122)) k_ ∧ some k_ ≠ (u8 : Value).ownBlock)) (HL123_1.out) (fun k_ hk => ⟨⟨hk.1, ⟨hk.2.2.1, hk.2.2.2⟩⟩, hk.2.1⟩))))); (case aB => exact (by repeat (first | (with_reducible first | exact HB.out | apply below_alloc | apply pw_below_drewN | apply below_drew1 | refine below_set ?_ GE121.out | refine below_set ?_ GE122.out) | exact HB.out))); (case aF => exact (fun k_ hk => ⟨(.inr (Nat.le_trans (below_size (by repeat (first | (with_reducible first | exact HB.out | apply below_alloc | apply pw_below_drewN | apply below_drew1 | refine below_set ?_ GE121.out | refine below_set ?_ GE122.out) | exact HB.out))) hk)), Kd.freshB (g := gb121) (o := .cells #[.int .i64 a0_0, .slice A0_1 l0_1.length c0_1, .slice (some ad123) l0_2.length c0_2, .int .i64 a0_3, .int .i64 a0_4, .int .i64 a0_5] 43 (0, 0)) (by (with_reducible repeat (first | refine blk_drewN ?_ _ | refine blk_drew ?_ | refine blk_alloc ?_ _)); exact BK121.out) k_ hk, Kd.freshB (g := gb122) (o := .cells #[.int .i64 0, .slice none 0 0, .slice none 0 0, .int .i64 0, .int .i64 0, .int .i64 0] 43 (0, 0)) (by (with_reducible repeat (first | refine blk_drewN ?_ _ | refine blk_drew ?_ | refine blk_alloc ?_ _)); exact BK122.out) k_ hk⟩)); (case aO => exact (by (with_reducible repeat (first | apply Kd.N_alloc | apply Kd.N_drewN | apply Kd.N_drew)); exact HO_8.out)); (case aS => exact (below_size (by repeat (first | (with_reducible first | exact HB.out | apply below_alloc | apply pw_below_drewN | apply below_drew1 | refine below_set ?_ GE121.out | refine below_set ?_ GE122.out) | exact HB.out)))); (case aL => have := LMc17.out; omega); intro v125 w20 ho hb hg hat; rw [← Ny124.out] at ho; have n0_ := Aside0.mk (Kd.V_afterv (ok := (fun k_ => ((P0_1_ k_ ∨ P0_2_ k_) ∨ w.heap.size ≤ k_) ∧ k_ ≠ gb121 ∧ k_ ≠ gb122)) (by (with_reducible repeat (first | apply Kd.V_alloc | apply Kd.V_drewN | apply Kd.V_drew)); exact Kd.V_mono HO_122001.out (fun _ hk => ⟨⟨hk.1, ⟨hk.2.2.1, hk.2.2.2⟩⟩, hk.2.1⟩)) hg hat); have n1_ := Aside0.mk (Kd.V_afterv (ok := (fun k_ => ((P0_1_ k_ ∨ P0_2_ k_) ∨ w.heap.size ≤ k_) ∧ k_ ≠ gb121 ∧ k_ ≠ gb122)) (by (with_reducible repeat (first | apply Kd.V_alloc | apply Kd.V_drewN | apply Kd.V_drew)); exact Kd.V_mono HO_122002.out (fun _ hk => ⟨⟨hk.1, ⟨hk.2.2.1, hk.2.2.2⟩⟩, hk.2.1⟩)) hg hat); have n2_ := Aside0.mk (blk_grown (g := gb121) (o := .cells #[.int .i64 a0_0, .slice A0_1 l0_1.length c0_1, .slice (some ad123) l0_2.length c0_2, .int .i64 a0_3, .int .i64 a0_4, .int .i64 a0_5] 43 (0, 0)) (by (with_reducible repeat (first | refine blk_drewN ?_ _ | refine blk_drew ?_ | refine blk_alloc ?_ _)); exact BK121.out) hg (Kd.N_ne HO_8.out BK121.out (by decide))); have n3_ := Aside0.mk (blk_grown (g := gb122) (o := .cells #[.int .i64 0, .slice none 0 0, .slice none 0 0, .int .i64 0, .int .i64 0, .int .i64 0] 43 (0, 0)) (by (with_reducible repeat (first | refine blk_drewN ?_ _ | refine blk_drew ?_ | refine blk_alloc ?_ _)); exact BK122.out) hg (Kd.N_ne HO_8.out BK122.out (by decide))); have n4_ := Aside0.mk (Kd.V_afterv (ok := (fun k_ => ((P0_1_ k_ ∨ P0_2_ k_) ∨ w.heap.size ≤ k_) ∧ k_ ≠ gb121 ∧ k_ ≠ gb122)) (by (with_reducible repeat (first | apply Kd.V_alloc | apply Kd.V_drewN | apply Kd.V_drew)); exact Kd.V_mono HL123_1.out (fun _ hk => ⟨⟨hk.1, ⟨hk.2.2.1, hk.2.2.2⟩⟩, hk.2.1⟩)) hg hat); have n5_ := Aside0.mk (hb); have n6_ := Aside0.mk (ho); clear HO_122001; clear HO_122002; clear BK121; clear BK122; clear HL123_1; clear HB; clear HO_8; have HO_122001 := n0_; have HO_122002 := n1_; have BK121 := n2_; have BK122 := n3_; have HL123_1 := n4_; have HB := n5_; have HO126 := n6_; clear n0_ n1_ n2_ n3_ n4_ n5_ n6_; clear ho hb hg hat))
                    go_roundg k2
                    case measure => have := HJ3.out; have := HK2.out; omega
                    case rel => exact ⟨(y124), (wrap64 (x9_2 + 1)), (by first | rfl | (simp; done) | (simp [*]; done)), H', ⟨by have := HJ3.out; have := HK2.out; omega⟩, ⟨by (with_reducible repeat (first | apply Kd.N_alloc | apply Kd.N_drewN | apply Kd.N_drew)); exact HO126.out⟩, ⟨by (with_reducible repeat (first | apply Kd.V_alloc | apply Kd.V_drewN | apply Kd.V_drew)); exact Kd.V_mono HO_122001.out (fun _ hk => ⟨hk.1.1, ⟨hk.2, ⟨hk.1.2.1, hk.1.2.2⟩⟩⟩)⟩, ⟨by (with_reducible repeat (first | apply Kd.V_alloc | apply Kd.V_drewN | apply Kd.V_drew)); exact Kd.V_mono HO_122002.out (fun _ hk => ⟨hk.1.1, ⟨hk.2, ⟨hk.1.2.1, hk.1.2.2⟩⟩⟩)⟩, ⟨by (with_reducible repeat (first | refine blk_drewN ?_ _ | refine blk_drew ?_ | refine blk_alloc ?_ _)); exact BK121.out⟩, ⟨by (with_reducible repeat (first | refine blk_drewN ?_ _ | refine blk_drew ?_ | refine blk_alloc ?_ _)); exact BK122.out⟩, ⟨by repeat (first | (with_reducible first | exact HB.out | apply below_alloc | apply pw_below_drewN | apply below_drew1 | refine below_set ?_ GE121.out | refine below_set ?_ GE122.out) | exact HB.out)⟩⟩
                  · rw [if_neg c17] at H
                    exact absurd H (by simp)
                · rw [if_neg c16] at H
                  exact absurd H (by simp)
              · rw [if_neg c15] at H
                have c15b0 : decide (x9_2 < (l0_2.length : Int)) = false := decide_eq_false c15
                clear c15
                replace H := Option.bind_eq_some_iff.mp H
                obtain ⟨t127, A210, H⟩ := H
                replace H : (if x8_2.length < 4398046511104 then (some (a0_0, l0_1, (x8_2 ++ [(⟨a1, t127⟩ : S106)]), a0_3, wrap64 (a0_4 + 1), a0_5, 0)) else (none)) = some (r1, r2, r3, r4, r5, r6, r7) := H
                have A21 := Aside0.mk A210
                clear A210
                by_cases c22 : x8_2.length < 4398046511104
                · rw [if_pos c22] at H
                  have LMc22 := Aside0.mk c22
                  clear c22
                  obtain ⟨y130, hy130⟩ : ∃ y_ : List (S106), y_ = (x8_2 ++ [(⟨a1, t127⟩ : S106)]) := ⟨_, rfl⟩
                  replace H : (some (a0_0, l0_1, y130, a0_3, wrap64 (a0_4 + 1), a0_5, 0)) = some (r1, r2, r3, r4, r5, r6, r7) := by first | (rw [hy130]; with_reducible exact H) | (have H2_ := (Option.bind_some _ _).symm.trans H; rw [hy130]; with_reducible exact H2_) | (have H2_ := (Option.bind_some _ _).symm.trans H; with_reducible exact H2_) | with_reducible exact H | (rw [hy130]; exact H) | exact H
                  have Ny130 := Aside0.mk hy130
                  clear hy130
                  simp only [Option.some.injEq, Prod.mk.injEq] at H
                  obtain ⟨rfl, rfl, rfl, rfl, rfl, rfl, rfl⟩ := H
                  have hnb23 := NB121_122.out
                  have hnc23 := NB122_121.out
                  have hcz24_0 : wr.cell? ⟨gb121, 0, none⟩ = some (.int .i64 a0_0) := (blk_cell BK121.out 0).trans rfl
                  have hcz24_1 : wr.cell? ⟨gb121, 1, none⟩ = some (.slice A0_1 l0_1.length c0_1) := (blk_cell BK121.out 1).trans rfl
                  have hcz24_2 : wr.cell? ⟨gb121, 2, none⟩ = some (.slice A0_2 l0_2.length c0_2) := (blk_cell BK121.out 2).trans rfl
                  have hcz24_3 : wr.cell? ⟨gb121, 3, none⟩ = some (.int .i64 a0_3) := (blk_cell BK121.out 3).trans rfl
                  have hcz24_4 : wr.cell? ⟨gb121, 4, none⟩ = some (.int .i64 a0_4) := (blk_cell BK121.out 4).trans rfl
                  have hcz24_5 : wr.cell? ⟨gb121, 5, none⟩ = some (.int .i64 a0_5) := (blk_cell BK121.out 5).trans rfl
                  have hfz24_0 := blk_frozen BK121.out 0
                  have hfz24_1 := blk_frozen BK121.out 1
                  have hfz24_2 := blk_frozen BK121.out 2
                  have hfz24_3 := blk_frozen BK121.out 3
                  have hfz24_4 := blk_frozen BK121.out 4
                  have hfz24_5 := blk_frozen BK121.out 5
                  go_wp2_with (first | ((with_reducible refine gate_callee (f := 44) rfl ?_); refine goesL_ (some 41) rfl rfl Tryd.func44 (by kernel_rfl) rfl #[.slice A2 l2.length c2] rfl (by (try simp only [List.map_toArray, List.map_cons, List.map_nil]); first | done | rfl | (simp only [List.length_drop, List.length_take]; rfl)) ?_; (with_reducible refine (kilnref3_Copy.calls _ _ l2 t127 _ ?side1 ?side2 A21.out).mono ?_); (case side1 => repeat (first | exact (Kd.C_below HR2.out HB.out) | (with_reducible refine Kd.C_alloc ?_ _) | (with_reducible refine Kd.C_drewN ?_ _) | (with_reducible refine Kd.C_drew ?_))); (case side2 => exact HC2.out); rintro e w25 ⟨v128, rfl, ho0, hb⟩; refine ⟨_, rfl, ?_⟩; have n0_ := Aside0.mk (Kd.N_elder' (by (with_reducible repeat (first | apply Kd.N_alloc | apply Kd.N_drewN | apply Kd.N_drew)); exact HO_8.out) (Kd.R_base ho0) hb); have n1_ := Aside0.mk (Kd.V_elder' (by (with_reducible repeat (first | apply Kd.V_alloc | apply Kd.V_drewN | apply Kd.V_drew)); exact HO_122001.out) (Kd.R_base ho0) hb); have n2_ := Aside0.mk (Kd.V_elder' (by (with_reducible repeat (first | apply Kd.V_alloc | apply Kd.V_drewN | apply Kd.V_drew)); exact HO_122002.out) (Kd.R_base ho0) hb); have n3_ := Aside0.mk (Kd.R_lower (Kd.R_newM (M := fun k_ => (w.heap.size ≤ k_)) ho0 (below_size (by repeat (first | (with_reducible first | exact HB.out | apply below_alloc | apply pw_below_drewN | apply below_drew1 | refine below_set ?_ GE121.out | refine below_set ?_ GE122.out) | exact HB.out))) (fun k_ h_ => h_)) (below_size (by repeat (first | (with_reducible first | exact HB.out | apply below_alloc | apply pw_below_drewN | apply below_drew1 | refine below_set ?_ GE121.out | refine below_set ?_ GE122.out) | exact HB.out)))); have n4_ := Aside0.mk (blk_below (g := gb121) (o := .cells #[.int .i64 a0_0, .slice A0_1 l0_1.length c0_1, .slice A0_2 l0_2.length c0_2, .int .i64 a0_3, .int .i64 a0_4, .int .i64 a0_5] 43 (0, 0)) (by (with_reducible repeat (first | refine blk_drewN ?_ _ | refine blk_drew ?_ | refine blk_alloc ?_ _)); exact BK121.out) hb); have n5_ := Aside0.mk (blk_below (g := gb122) (o := .cells #[.int .i64 0, .slice none 0 0, .slice none 0 0, .int .i64 0, .int .i64 0, .int .i64 0] 43 (0, 0)) (by (with_reducible repeat (first | refine blk_drewN ?_ _ | refine blk_drew ?_ | refine blk_alloc ?_ _)); exact BK122.out) hb); have n6_ := Aside0.mk (below_step (by repeat (first | (with_reducible first | exact HB.out | apply below_alloc | apply pw_below_drewN | apply below_drew1 | refine below_set ?_ GE121.out | refine below_set ?_ GE122.out) | exact HB.out)) hb); clear HO_8; clear HO_122001; clear HO_122002; clear BK121; clear BK122; clear HB; have HO_8 := n0_; have HO_122001 := n1_; have HO_122002 := n2_; have HO129 := n3_; have BK121 := n4_; have BK122 := n5_; have HB := n6_; clear n0_ n1_ n2_ n3_ n4_ n5_ n6_; (try clear hb); (try clear hb2); (try clear hk); (try clear hi); (try clear ho0); obtain ⟨Ao26, co26, eo26⟩ := Kd.R_slice HO129.out; subst eo26) | ((with_reducible refine gate_builtin (b := .append) (xs := #[.tmp 38, .tmp 43]) rfl ?_); at_builtin; refine Kd.N_append k106 (w0 := w) w.heap.size rfl (.tmp 38) (.tmp 43) 39 106 (.agg #[(.int .i64 0), (.slice none 0 0)]) 32 rfl Tryd.underlying39 info106 rfl (by decide) (by omega) u8 x8_2 (⟨a1, t127⟩ : S106) [.int .i64 a1, .slice Ao26 t127.length co26] (fun k_ => ((P0_1_ k_ ∨ P0_2_ k_) ∨ w.heap.size ≤ k_) ∧ k_ ≠ gb121 ∧ k_ ≠ gb122) (fun k_ => ((fun k_ => ((P0_1_ k_ ∨ P0_2_ k_) ∨ w.heap.size ≤ k_) ∧ k_ ≠ gb121 ∧ k_ ≠ gb122)) k_ ∧ some k_ ≠ (u8 : Value).ownBlock) rfl rfl ?aP (fun _ hk => hk) ?aF ?aO ?aB ?aS ?aL ?_; (case aP => exact (k106_mkF _ _ (⟨a1, t127⟩ : S106) (Kd.R_reads' (Kd.R_mono (ok' := (fun k_ => ((fun k_ => ((P0_1_ k_ ∨ P0_2_ k_) ∨ w.heap.size ≤ k_) ∧ k_ ≠ gb121 ∧ k_ ≠ gb122)) k_ ∧ some k_ ≠ (u8 : Value).ownBlock)) (Kd.R_types (Kd.R_types (Kd.R_apart' (HO129.out) (Kd.N_typed HO_8.out) (by decide)) BK121.out (by decide)) BK122.out (by decide)) (fun k_ hk => ⟨⟨(.inr (hk.1.1.1.1)), ⟨hk.1.2, hk.2⟩⟩, hk.1.1.2⟩))).2.1 (Kd.R_F (Kd.R_mono (ok' := (fun k_ => ((fun k_ => ((P0_1_ k_ ∨ P0_2_ k_) ∨ w.heap.size ≤ k_) ∧ k_ ≠ gb121 ∧ k_ ≠ gb122)) k_ ∧ some k_ ≠ (u8 : Value).ownBlock)) (Kd.R_types (Kd.R_types (Kd.R_apart' (HO129.out) (Kd.N_typed HO_8.out) (by decide)) BK121.out (by decide)) BK122.out (by decide)) (fun k_ hk => ⟨⟨(.inr (hk.1.1.1.1)), ⟨hk.1.2, hk.2⟩⟩, hk.1.1.2⟩))))); (case aB => exact (by repeat (first | (with_reducible first | exact HB.out | apply below_alloc | apply pw_below_drewN | apply below_drew1 | refine below_set ?_ GE121.out | refine below_set ?_ GE122.out) | exact HB.out))); (case aF => exact (fun k_ hk => ⟨(.inr (Nat.le_trans (below_size (by repeat (first | (with_reducible first | exact HB.out | apply below_alloc | apply pw_below_drewN | apply below_drew1 | refine below_set ?_ GE121.out | refine below_set ?_ GE122.out) | exact HB.out))) hk)), Kd.freshB (g := gb121) (o := .cells #[.int .i64 a0_0, .slice A0_1 l0_1.length c0_1, .slice A0_2 l0_2.length c0_2, .int .i64 a0_3, .int .i64 a0_4, .int .i64 a0_5] 43 (0, 0)) (by (with_reducible repeat (first | refine blk_drewN ?_ _ | refine blk_drew ?_ | refine blk_alloc ?_ _)); exact BK121.out) k_ hk, Kd.freshB (g := gb122) (o := .cells #[.int .i64 0, .slice none 0 0, .slice none 0 0, .int .i64 0, .int .i64 0, .int .i64 0] 43 (0, 0)) (by (with_reducible repeat (first | refine blk_drewN ?_ _ | refine blk_drew ?_ | refine blk_alloc ?_ _)); exact BK122.out) k_ hk⟩)); (case aO => exact (by (with_reducible repeat (first | apply Kd.N_alloc | apply Kd.N_drewN | apply Kd.N_drew)); exact Kd.N_mono HO_8.out (fun _ hk => ⟨hk.1.1, ⟨hk.1.2.1, hk.1.2.2⟩⟩))); (case aS => exact (below_size (by repeat (first | (with_reducible first | exact HB.out | apply below_alloc | apply pw_below_drewN | apply below_drew1 | refine below_set ?_ GE121.out | refine below_set ?_ GE122.out) | exact HB.out)))); (case aL => have := LMc22.out; omega); intro v131 w27 ho hb hg hat; rw [← Ny130.out] at ho; have n0_ := Aside0.mk (Kd.V_afterv (ok := (fun k_ => ((P0_1_ k_ ∨ P0_2_ k_) ∨ w.heap.size ≤ k_) ∧ some k_ ≠ (.slice Ao26 t127.length co26 : Value).ownBlock ∧ k_ ≠ gb121 ∧ k_ ≠ gb122)) (by (with_reducible repeat (first | apply Kd.V_alloc | apply Kd.V_drewN | apply Kd.V_drew)); exact Kd.V_mono HO_122001.out (fun _ hk => ⟨⟨hk.1.1, ⟨hk.2, ⟨hk.1.2.2.1, hk.1.2.2.2⟩⟩⟩, hk.1.2.1⟩)) hg hat); have n1_ := Aside0.mk (Kd.V_afterv (ok := (fun k_ => ((P0_1_ k_ ∨ P0_2_ k_) ∨ w.heap.size ≤ k_) ∧ some k_ ≠ (.slice Ao26 t127.length co26 : Value).ownBlock ∧ k_ ≠ gb121 ∧ k_ ≠ gb122)) (by (with_reducible repeat (first | apply Kd.V_alloc | apply Kd.V_drewN | apply Kd.V_drew)); exact Kd.V_mono HO_122002.out (fun _ hk => ⟨⟨hk.1.1, ⟨hk.2, ⟨hk.1.2.2.1, hk.1.2.2.2⟩⟩⟩, hk.1.2.1⟩)) hg hat); have n2_ := Aside0.mk (blk_grown (g := gb121) (o := .cells #[.int .i64 a0_0, .slice A0_1 l0_1.length c0_1, .slice A0_2 l0_2.length c0_2, .int .i64 a0_3, .int .i64 a0_4, .int .i64 a0_5] 43 (0, 0)) (by (with_reducible repeat (first | refine blk_drewN ?_ _ | refine blk_drew ?_ | refine blk_alloc ?_ _)); exact BK121.out) hg (Kd.N_ne HO_8.out BK121.out (by decide))); have n3_ := Aside0.mk (blk_grown (g := gb122) (o := .cells #[.int .i64 0, .slice none 0 0, .slice none 0 0, .int .i64 0, .int .i64 0, .int .i64 0] 43 (0, 0)) (by (with_reducible repeat (first | refine blk_drewN ?_ _ | refine blk_drew ?_ | refine blk_alloc ?_ _)); exact BK122.out) hg (Kd.N_ne HO_8.out BK122.out (by decide))); have n4_ := Aside0.mk (hb); have n5_ := Aside0.mk (ho); clear HO_122001; clear HO_122002; clear BK121; clear BK122; clear HB; clear HO_8; clear HO129; have HO_122001 := n0_; have HO_122002 := n1_; have BK121 := n2_; have BK122 := n3_; have HB := n4_; have HO132 := n5_; clear n0_ n1_ n2_ n3_ n4_ n5_; clear ho hb hg hat; obtain ⟨Ao28, co28, eo28⟩ := Kd.N_slice HO132.out; subst eo28; have hcz29_0 : w27.cell? ⟨gb121, 0, none⟩ = some (.int .i64 a0_0) := (blk_cell BK121.out 0).trans rfl; have hcz29_1 : w27.cell? ⟨gb121, 1, none⟩ = some (.slice A0_1 l0_1.length c0_1) := (blk_cell BK121.out 1).trans rfl; have hcz29_2 : w27.cell? ⟨gb121, 2, none⟩ = some (.slice A0_2 l0_2.length c0_2) := (blk_cell BK121.out 2).trans rfl; have hcz29_3 : w27.cell? ⟨gb121, 3, none⟩ = some (.int .i64 a0_3) := (blk_cell BK121.out 3).trans rfl; have hcz29_4 : w27.cell? ⟨gb121, 4, none⟩ = some (.int .i64 a0_4) := (blk_cell BK121.out 4).trans rfl; have hcz29_5 : w27.cell? ⟨gb121, 5, none⟩ = some (.int .i64 a0_5) := (blk_cell BK121.out 5).trans rfl; have hfz29_0 := blk_frozen BK121.out 0; have hfz29_1 := blk_frozen BK121.out 1; have hfz29_2 := blk_frozen BK121.out 2; have hfz29_3 := blk_frozen BK121.out 3; have hfz29_4 := blk_frozen BK121.out 4; have hfz29_5 := blk_frozen BK121.out 5; have hcz30_0 : w27.cell? ⟨gb122, 0, none⟩ = some (.int .i64 0) := (blk_cell BK122.out 0).trans rfl; have hcz30_1 : w27.cell? ⟨gb122, 1, none⟩ = some (.slice none 0 0) := (blk_cell BK122.out 1).trans rfl; have hcz30_2 : w27.cell? ⟨gb122, 2, none⟩ = some (.slice none 0 0) := (blk_cell BK122.out 2).trans rfl; have hcz30_3 : w27.cell? ⟨gb122, 3, none⟩ = some (.int .i64 0) := (blk_cell BK122.out 3).trans rfl; have hcz30_4 : w27.cell? ⟨gb122, 4, none⟩ = some (.int .i64 0) := (blk_cell BK122.out 4).trans rfl; have hcz30_5 : w27.cell? ⟨gb122, 5, none⟩ = some (.int .i64 0) := (blk_cell BK122.out 5).trans rfl; have hfz30_0 := blk_frozen BK122.out 0; have hfz30_1 := blk_frozen BK122.out 1; have hfz30_2 := blk_frozen BK122.out 2; have hfz30_3 := blk_frozen BK122.out 3; have hfz30_4 := blk_frozen BK122.out 4; have hfz30_5 := blk_frozen BK122.out 5))
                  refine bodyPost_ret (results_ct rfl _ _ gb122 43 #[.int .i64 a0_0, .slice A0_1 l0_1.length c0_1, .slice Ao28 y130.length co28, .int .i64 a0_3, .int .i64 (wrap64 (a0_4 + 1)), .int .i64 a0_5] (0, 0) _ rfl (by (with_reducible repeat (first | refine blk_drewN ?_ _ | refine blk_drew ?_ | refine blk_alloc ?_ _)); refine blk_put (cs := #[.int .i64 a0_0, .slice A0_1 l0_1.length c0_1, .slice Ao28 y130.length co28, .int .i64 a0_3, .int .i64 (wrap64 (a0_4 + 1)), .int .i64 0]) ?_ 5 _ rfl; (with_reducible repeat (first | refine blk_drewN ?_ _ | refine blk_drew ?_ | refine blk_alloc ?_ _)); refine blk_put (cs := #[.int .i64 a0_0, .slice A0_1 l0_1.length c0_1, .slice Ao28 y130.length co28, .int .i64 a0_3, .int .i64 0, .int .i64 0]) ?_ 4 _ rfl; (with_reducible repeat (first | refine blk_drewN ?_ _ | refine blk_drew ?_ | refine blk_alloc ?_ _)); refine blk_put (cs := #[.int .i64 a0_0, .slice A0_1 l0_1.length c0_1, .slice Ao28 y130.length co28, .int .i64 0, .int .i64 0, .int .i64 0]) ?_ 3 _ rfl; (with_reducible repeat (first | refine blk_drewN ?_ _ | refine blk_drew ?_ | refine blk_alloc ?_ _)); refine blk_put (cs := #[.int .i64 a0_0, .slice A0_1 l0_1.length c0_1, .slice none 0 0, .int .i64 0, .int .i64 0, .int .i64 0]) ?_ 2 _ rfl; (with_reducible repeat (first | refine blk_drewN ?_ _ | refine blk_drew ?_ | refine blk_alloc ?_ _)); refine blk_put (cs := #[.int .i64 a0_0, .slice none 0 0, .slice none 0 0, .int .i64 0, .int .i64 0, .int .i64 0]) ?_ 1 _ rfl; (with_reducible repeat (first | refine blk_drewN ?_ _ | refine blk_drew ?_ | refine blk_alloc ?_ _)); refine blk_put (cs := #[.int .i64 0, .slice none 0 0, .slice none 0 0, .int .i64 0, .int .i64 0, .int .i64 0]) ?_ 0 _ rfl; (with_reducible repeat (first | refine blk_drewN ?_ _ | refine blk_drew ?_ | refine blk_alloc ?_ _)); refine blk_far ?_ NB122_121.out _; (with_reducible repeat (first | refine blk_drewN ?_ _ | refine blk_drew ?_ | refine blk_alloc ?_ _)); refine blk_far ?_ NB122_121.out _; (with_reducible repeat (first | refine blk_drewN ?_ _ | refine blk_drew ?_ | refine blk_alloc ?_ _)); exact BK122.out) Tryd.underlying43 rfl (by kernel_rfl)) rfl ?_
                  exact ⟨_, _, by first | rfl | (simp [errW_none, errW_some] <;> rfl) | (simp [*, errW_none, errW_some] <;> rfl), by (with_reducible repeat (first | apply Kd.V_alloc | apply Kd.V_drewN | apply Kd.V_drew)); exact Kd.V_mono (Kd.V_far (p := ⟨gb122, 5, none⟩) (Kd.V_far (p := ⟨gb122, 4, none⟩) (Kd.V_far (p := ⟨gb122, 3, none⟩) (Kd.V_far (p := ⟨gb122, 2, none⟩) (Kd.V_far (p := ⟨gb122, 1, none⟩) (Kd.V_far (p := ⟨gb122, 0, none⟩) (Kd.V_far (p := ⟨gb121, 4, none⟩) (Kd.V_far (p := ⟨gb121, 2, none⟩) (Kd.V_mono (Kd.V_mono HO_122001.out (fun k_ hk => (⟨hk, hk.1.2.2.1⟩ : _ ∧ k_ ≠ gb121))) (fun k_ hk => (⟨hk, hk.1.1.2.2.2⟩ : _ ∧ k_ ≠ gb122))) (fun _ hk => hk.1.2) (.slice Ao28 y130.length co28)) (fun _ hk => hk.1.2) (.int .i64 (wrap64 (a0_4 + 1)))) (fun _ hk => hk.2) (.int .i64 a0_0)) (fun _ hk => hk.2) (.slice A0_1 l0_1.length c0_1)) (fun _ hk => hk.2) (.slice Ao28 y130.length co28)) (fun _ hk => hk.2) (.int .i64 a0_3)) (fun _ hk => hk.2) (.int .i64 (wrap64 (a0_4 + 1)))) (fun _ hk => hk.2) (.int .i64 a0_5)) (fun _ hk => hk.1.1.1.1), Kd.N_V (by (with_reducible repeat (first | apply Kd.N_alloc | apply Kd.N_drewN | apply Kd.N_drew)); exact Kd.N_mono (Kd.N_far (p := ⟨gb122, 5, none⟩) (Kd.N_far (p := ⟨gb122, 4, none⟩) (Kd.N_far (p := ⟨gb122, 3, none⟩) (Kd.N_far (p := ⟨gb122, 2, none⟩) (Kd.N_far (p := ⟨gb122, 1, none⟩) (Kd.N_far (p := ⟨gb122, 0, none⟩) (Kd.N_far (p := ⟨gb121, 4, none⟩) (Kd.N_far (p := ⟨gb121, 2, none⟩) (Kd.N_mono (Kd.N_mono HO132.out (fun k_ hk => (⟨hk, hk.2.1⟩ : _ ∧ k_ ≠ gb121))) (fun k_ hk => (⟨hk, hk.1.2.2⟩ : _ ∧ k_ ≠ gb122))) (fun _ hk => hk.1.2) (.slice Ao28 y130.length co28)) (fun _ hk => hk.1.2) (.int .i64 (wrap64 (a0_4 + 1)))) (fun _ hk => hk.2) (.int .i64 a0_0)) (fun _ hk => hk.2) (.slice A0_1 l0_1.length c0_1)) (fun _ hk => hk.2) (.slice Ao28 y130.length co28)) (fun _ hk => hk.2) (.int .i64 a0_3)) (fun _ hk => hk.2) (.int .i64 (wrap64 (a0_4 + 1)))) (fun _ hk => hk.2) (.int .i64 a0_5)) (fun _ hk => hk.1.1.1)), by repeat (first | (with_reducible first | exact HB.out | apply below_alloc | apply pw_below_drewN | apply below_drew1 | refine below_set ?_ GE121.out | refine below_set ?_ GE122.out) | exact HB.out)⟩
                · rw [if_neg c22] at H
                  exact absurd H (by simp)
        · rw [if_neg c14] at H
          have c14b0 : ((l2.length : Int) == 512) = false := beq_eq_false_iff_ne.mpr c14
          have c14b1 : ((l2.length : Int) != 512) = true := bne_iff_ne.mpr c14
          simp only [Option.some.injEq, Prod.mk.injEq] at H
          obtain ⟨rfl, rfl, rfl, rfl, rfl, rfl, rfl⟩ := H
          have hnb31 := NB121_122.out
          have hnc31 := NB122_121.out
          have hcz32_0 : wc.cell? ⟨gb121, 0, none⟩ = some (.int .i64 a0_0) := (blk_cell BK121.out 0).trans rfl
          have hcz32_1 : wc.cell? ⟨gb121, 1, none⟩ = some (.slice A0_1 l0_1.length c0_1) := (blk_cell BK121.out 1).trans rfl
          have hcz32_2 : wc.cell? ⟨gb121, 2, none⟩ = some (.slice A0_2 l0_2.length c0_2) := (blk_cell BK121.out 2).trans rfl
          have hcz32_3 : wc.cell? ⟨gb121, 3, none⟩ = some (.int .i64 a0_3) := (blk_cell BK121.out 3).trans rfl
          have hcz32_4 : wc.cell? ⟨gb121, 4, none⟩ = some (.int .i64 a0_4) := (blk_cell BK121.out 4).trans rfl
          have hcz32_5 : wc.cell? ⟨gb121, 5, none⟩ = some (.int .i64 a0_5) := (blk_cell BK121.out 5).trans rfl
          have hfz32_0 := blk_frozen BK121.out 0
          have hfz32_1 := blk_frozen BK121.out 1
          have hfz32_2 := blk_frozen BK121.out 2
          have hfz32_3 := blk_frozen BK121.out 3
          have hfz32_4 := blk_frozen BK121.out 4
          have hfz32_5 := blk_frozen BK121.out 5
          have hcz33_0 : wc.cell? ⟨gb122, 0, none⟩ = some (.int .i64 0) := (blk_cell BK122.out 0).trans rfl
          have hcz33_1 : wc.cell? ⟨gb122, 1, none⟩ = some (.slice none 0 0) := (blk_cell BK122.out 1).trans rfl
          have hcz33_2 : wc.cell? ⟨gb122, 2, none⟩ = some (.slice none 0 0) := (blk_cell BK122.out 2).trans rfl
          have hcz33_3 : wc.cell? ⟨gb122, 3, none⟩ = some (.int .i64 0) := (blk_cell BK122.out 3).trans rfl
          have hcz33_4 : wc.cell? ⟨gb122, 4, none⟩ = some (.int .i64 0) := (blk_cell BK122.out 4).trans rfl
          have hcz33_5 : wc.cell? ⟨gb122, 5, none⟩ = some (.int .i64 0) := (blk_cell BK122.out 5).trans rfl
          have hfz33_0 := blk_frozen BK122.out 0
          have hfz33_1 := blk_frozen BK122.out 1
          have hfz33_2 := blk_frozen BK122.out 2
          have hfz33_3 := blk_frozen BK122.out 3
          have hfz33_4 := blk_frozen BK122.out 4
          have hfz33_5 := blk_frozen BK122.out 5
          go_wp2
          refine bodyPost_ret (results_ct rfl _ _ gb122 43 #[.int .i64 a0_0, .slice A0_1 l0_1.length c0_1, .slice A0_2 l0_2.length c0_2, .int .i64 a0_3, .int .i64 a0_4, .int .i64 a0_5] (0, 0) _ rfl (by (with_reducible repeat (first | refine blk_drewN ?_ _ | refine blk_drew ?_ | refine blk_alloc ?_ _)); refine blk_put (cs := #[.int .i64 a0_0, .slice A0_1 l0_1.length c0_1, .slice A0_2 l0_2.length c0_2, .int .i64 a0_3, .int .i64 a0_4, .int .i64 0]) ?_ 5 _ rfl; (with_reducible repeat (first | refine blk_drewN ?_ _ | refine blk_drew ?_ | refine blk_alloc ?_ _)); refine blk_put (cs := #[.int .i64 a0_0, .slice A0_1 l0_1.length c0_1, .slice A0_2 l0_2.length c0_2, .int .i64 a0_3, .int .i64 0, .int .i64 0]) ?_ 4 _ rfl; (with_reducible repeat (first | refine blk_drewN ?_ _ | refine blk_drew ?_ | refine blk_alloc ?_ _)); refine blk_put (cs := #[.int .i64 a0_0, .slice A0_1 l0_1.length c0_1, .slice A0_2 l0_2.length c0_2, .int .i64 0, .int .i64 0, .int .i64 0]) ?_ 3 _ rfl; (with_reducible repeat (first | refine blk_drewN ?_ _ | refine blk_drew ?_ | refine blk_alloc ?_ _)); refine blk_put (cs := #[.int .i64 a0_0, .slice A0_1 l0_1.length c0_1, .slice none 0 0, .int .i64 0, .int .i64 0, .int .i64 0]) ?_ 2 _ rfl; (with_reducible repeat (first | refine blk_drewN ?_ _ | refine blk_drew ?_ | refine blk_alloc ?_ _)); refine blk_put (cs := #[.int .i64 a0_0, .slice none 0 0, .slice none 0 0, .int .i64 0, .int .i64 0, .int .i64 0]) ?_ 1 _ rfl; (with_reducible repeat (first | refine blk_drewN ?_ _ | refine blk_drew ?_ | refine blk_alloc ?_ _)); refine blk_put (cs := #[.int .i64 0, .slice none 0 0, .slice none 0 0, .int .i64 0, .int .i64 0, .int .i64 0]) ?_ 0 _ rfl; (with_reducible repeat (first | refine blk_drewN ?_ _ | refine blk_drew ?_ | refine blk_alloc ?_ _)); exact BK122.out) Tryd.underlying43 rfl (by kernel_rfl)) rfl ?_
          exact ⟨_, _, by first | rfl | (simp [errW_none, errW_some] <;> rfl) | (simp [*, errW_none, errW_some] <;> rfl), by (with_reducible repeat (first | apply Kd.V_alloc | apply Kd.V_drewN | apply Kd.V_drew)); exact Kd.V_mono (Kd.V_far (p := ⟨gb122, 5, none⟩) (Kd.V_far (p := ⟨gb122, 4, none⟩) (Kd.V_far (p := ⟨gb122, 3, none⟩) (Kd.V_far (p := ⟨gb122, 2, none⟩) (Kd.V_far (p := ⟨gb122, 1, none⟩) (Kd.V_far (p := ⟨gb122, 0, none⟩) (Kd.V_mono HO_122001.out (fun k_ hk => (⟨hk, hk.2.2⟩ : _ ∧ k_ ≠ gb122))) (fun _ hk => hk.2) (.int .i64 a0_0)) (fun _ hk => hk.2) (.slice A0_1 l0_1.length c0_1)) (fun _ hk => hk.2) (.slice A0_2 l0_2.length c0_2)) (fun _ hk => hk.2) (.int .i64 a0_3)) (fun _ hk => hk.2) (.int .i64 a0_4)) (fun _ hk => hk.2) (.int .i64 a0_5)) (fun _ hk => hk.1.1), by (with_reducible repeat (first | apply Kd.V_alloc | apply Kd.V_drewN | apply Kd.V_drew)); exact Kd.V_mono (Kd.V_far (p := ⟨gb122, 5, none⟩) (Kd.V_far (p := ⟨gb122, 4, none⟩) (Kd.V_far (p := ⟨gb122, 3, none⟩) (Kd.V_far (p := ⟨gb122, 2, none⟩) (Kd.V_far (p := ⟨gb122, 1, none⟩) (Kd.V_far (p := ⟨gb122, 0, none⟩) (Kd.V_mono HO_122002.out (fun k_ hk => (⟨hk, hk.2.2⟩ : _ ∧ k_ ≠ gb122))) (fun _ hk => hk.2) (.int .i64 a0_0)) (fun _ hk => hk.2) (.slice A0_1 l0_1.length c0_1)) (fun _ hk => hk.2) (.slice A0_2 l0_2.length c0_2)) (fun _ hk => hk.2) (.int .i64 a0_3)) (fun _ hk => hk.2) (.int .i64 a0_4)) (fun _ hk => hk.2) (.int .i64 a0_5)) (fun _ hk => hk.1.1), by repeat (first | (with_reducible first | exact HB.out | apply below_alloc | apply pw_below_drewN | apply below_drew1 | refine below_set ?_ GE121.out | refine below_set ?_ GE122.out) | exact HB.out)⟩
def kilnref3_put.l0 : Nat → List (S106) → Int → List Int → List (S106) → Int → Option ((List (S106)))
  | 0, _, _, _, _, _ => none
  | k + 1, x0, x1, x2, x7, x8 => if x8 < (x0.length : Int) then (if 0 ≤ x8 then (if ((rd_T106 x0 x8).f0) = x1 then (kilnref3_put.l0 k x0 x1 x2 x7 (wrap64 (x8 + 1))) else (if x7.length < 4398046511104 then (kilnref3_put.l0 k x0 x1 x2 (x7 ++ [(⟨(rd_T106 x0 x8).f0, (rd_T106 x0 x8).f1⟩ : S106)]) (wrap64 (x8 + 1))) else (none))) else (none)) else (if x7.length < 4398046511104 then (some (x7 ++ [(⟨x1, x2⟩ : S106)])) else (none))
def kilnref3_put.f (k : Nat) (l0 : List (S106)) (a1 : Int) (l2 : List Int) : Option ((List (S106))) := kilnref3_put.l0 k l0 a1 l2 ([] : List (S106)) 0
theorem kilnref3_put.mono_l : ∀ k, (∀ y0 y1 y2 y3 y4, LeO (kilnref3_put.l0 k y0 y1 y2 y3 y4) (kilnref3_put.l0 (k + 1) y0 y1 y2 y3 y4))
  | 0 => fun _ _ _ _ _ r h => by simp [kilnref3_put.l0] at h
  | k + 1 => by
    have ih0 := kilnref3_put.mono_l k
    · intro y0 y1 y2 y3 y4
      unfold kilnref3_put.l0
      repeat' first
      | (with_reducible exact ih0 _ _ _ _ _)
      | (with_reducible exact LeO.refl _)
      | (with_reducible exact LeO.none _)
      | (with_reducible refine LeO.ite ?_ ?_)
      | (with_reducible refine LeO.bind ?_ (fun _ => ?_))
      | exact ih0 _ _ _ _ _
      | exact LeO.none _
      | refine LeO.ite ?_ ?_
      | refine LeO.bind ?_ (fun _ => ?_)
theorem kilnref3_put.mono : ∀ a0 a1 a2 k, LeO (kilnref3_put.f k a0 a1 a2) (kilnref3_put.f (k + 1) a0 a1 a2) := by
  intro a0 a1 a2 k
  have ih0 := kilnref3_put.mono_l k
  unfold kilnref3_put.f
  repeat' first
      | (with_reducible exact ih0 _ _ _ _ _)
      | (with_reducible exact LeO.refl _)
      | (with_reducible exact LeO.none _)
      | (with_reducible refine LeO.ite ?_ ?_)
      | (with_reducible refine LeO.bind ?_ (fun _ => ?_))
      | exact ih0 _ _ _ _ _
      | exact LeO.none _
      | refine LeO.ite ?_ ?_
      | refine LeO.bind ?_ (fun _ => ?_)
set_option maxHeartbeats 8000000 in
set_option maxRecDepth 100000 in
theorem kilnref3_put.calls (k : Nat) (P0_ : Nat → Prop) (A0 : Option Addr) (c0 : Nat) (l0 : List (S106)) (a1 : Int) (P2_ : Nat → Prop) (A2 : Option Addr) (c2 : Nat) (l2 : List Int) (r : List (S106)) (w : World) (hs0 : Kd.V k106 106 w w.heap.size (fun k_ => P0_ k_) (.slice A0 l0.length c0) l0) (hs2 : Kd.V (Kd.int .u8) 5 w w.heap.size (fun k_ => P2_ k_) (.slice A2 l2.length c2) l2) (h : kilnref3_put.f k l0 a1 l2 = some r) :
    Calls Tryd.prog 48 #[.slice A0 l0.length c0, .int .i64 a1, .slice A2 l2.length c2] w fun e w' => ∃ v0_ : Value, e = .returned (v0_) ∧ Kd.N k106 106 w' w.heap.size (fun k_ => ((P0_ k_ ∨ P2_ k_) ∨ w.heap.size ≤ k_)) v0_ r ∧ Below w.heap.size w w' := by
  have hu106 := Tryd.underlying106
  have HO0 := Aside0.mk (show Kd.V k106 106 w w.heap.size (fun k_ => ((P0_ k_ ∨ P2_ k_) ∨ w.heap.size ≤ k_)) (.slice A0 l0.length c0) l0 from Kd.V_mono hs0 (fun k_ hk => .inl (.inl hk)))
  have HO2 := Aside0.mk (show Kd.V (Kd.int .u8) 5 w w.heap.size (fun k_ => ((P0_ k_ ∨ P2_ k_) ∨ w.heap.size ≤ k_)) (.slice A2 l2.length c2) l2 from Kd.V_mono hs2 (fun k_ hk => .inl (.inr hk)))
  have HB := Aside0.mk (Below.refl w.heap.size w)
  have H : (kilnref3_put.l0 k l0 a1 l2 ([] : List (S106)) 0) = some r := h
  clear h
  have H' := Aside0.mk H
  clear H
  go_enter Tryd.func48, Tryd.ntmps48
  go_wp2
  go_loopg [7, 8] k (fun kq v7 v8 w' => ∃ (x7_1 : List (S106)) (x8_1 : Int), v8 = .int .i64 x8_1 ∧ Aside0 (kilnref3_put.l0 kq l0 a1 l2 x7_1 x8_1 = some r) ∧ Aside0 (kq ≤ k) ∧ Aside0 (Kd.V k106 106 w' w.heap.size (fun k_ => ((P0_ k_ ∨ P2_ k_) ∨ w.heap.size ≤ k_) ∧ some k_ ≠ (v7 : Value).ownBlock) (.slice A0 l0.length c0) l0) ∧ Aside0 (Kd.V (Kd.int .u8) 5 w' w.heap.size (fun k_ => ((P0_ k_ ∨ P2_ k_) ∨ w.heap.size ≤ k_) ∧ some k_ ≠ (v7 : Value).ownBlock) (.slice A2 l2.length c2) l2) ∧ Aside0 (Kd.N k106 106 w' w.heap.size (fun k_ => ((P0_ k_ ∨ P2_ k_) ∨ w.heap.size ≤ k_)) v7 x7_1) ∧ Aside0 (Below w.heap.size w w'))
  case atStart => exact ⟨(([] : List (S106))), (0), (by first | rfl | (simp; done) | (simp [*]; done)), H', ⟨Nat.le_refl _⟩, ⟨by (with_reducible repeat (first | apply Kd.V_alloc | apply Kd.V_drewN | apply Kd.V_drew)); exact Kd.V_mono HO0.out (fun _ hk => ⟨hk, (by simp [Value.ownBlock])⟩)⟩, ⟨by (with_reducible repeat (first | apply Kd.V_alloc | apply Kd.V_drewN | apply Kd.V_drew)); exact Kd.V_mono HO2.out (fun _ hk => ⟨hk, (by simp [Value.ownBlock])⟩)⟩, ⟨by first | exact Kd.S_nil _ _ _ _ _ | exact Kd.N_nil _ _ _ _ _ | exact Kd.V_nil _ _ _ _ _ | exact Kd.Q_nil _ _ _ _ _ | exact Kd.R_nil _ _ _ _ _⟩, ⟨by repeat (first | (with_reducible first | exact HB.out | apply below_alloc | apply pw_below_drewN | apply below_drew1) | exact HB.out)⟩⟩
  case round =>
    clear H'
    try clear c2
    try clear p2
    obtain ⟨x7_1, x8_1, rfl, HA, HK1, HO_0, HO_2, HO_7, HB⟩ := hrel
    cases gk with
    | zero => exact absurd HA.out (by simp [kilnref3_put.l0])
    | succ k1 =>
      have H := HA.out
      clear HA
      simp only [kilnref3_put.l0] at H
      by_cases c4 : x8_1 < (l0.length : Int)
      · rw [if_pos c4] at H
        have c4b0 : decide (x8_1 < (l0.length : Int)) = true := decide_eq_true c4
        clear c4
        by_cases c5 : 0 ≤ x8_1
        · rw [if_pos c5] at H
          have c5b0 : decide (0 ≤ x8_1) = true := decide_eq_true c5
          clear c5
          by_cases c6 : ((rd_T106 l0 x8_1).f0) = a1
          · rw [if_pos c6] at H
            have c6b0 : (((rd_T106 l0 x8_1).f0) == a1) = true := beq_iff_eq.mpr c6
            have c6b1 : (((rd_T106 l0 x8_1).f0) != a1) = false := bne_eq_false_iff_eq.mpr c6
            clear c6
            have H' := Aside0.mk H
            clear H
            have p133 : 0 ≤ (x8_1 : Int) := of_decide_eq_true (by first | (with_reducible assumption) | assumption)
            have q133 : x8_1 < (l0.length : Int) := of_decide_eq_true (by first | (with_reducible assumption) | assumption)
            obtain ⟨ad133, A133_1, c133_1, e133, hx133_0, hx133_1, hl133_1, hi133_1⟩ := at_T106 (Kd.V_reads' HO_0.out).2.2 x8_1 p133 q133
            cases e133
            obtain ⟨ce133, hce133, hMe133, hcc133⟩ := Kd.V_get HO_0.out z106 x8_1 p133 (by first | exact q133 | exact of_decide_eq_true (by first | (with_reducible assumption) | assumption) | (have e_ := (Kd.V_reads' HO_0.out).1; omega))
            obtain ⟨ua133_1, uc133_1, rfl, ul133_1, ge133_1⟩ := k106_openF hMe133
            have hv133_1 := hcc133 1 _ rfl
            rw [add_field _ _ 1 (by omega)] at hv133_1
            replace hv133_1 := Option.some.inj (hv133_1.symm.trans hx133_1)
            injection hv133_1 with hva_ hvn_ hvc_
            rw [hva_] at ge133_1
            rw [hvc_] at ul133_1
            have HL133_1 := Aside0.mk (show Kd.V (Kd.int .u8) 5 _ w.heap.size _ _ ((rd_T106 l0 x8_1).f1) from Kd.V_mk ul133_1 ge133_1)
            clear hva_ hvn_ hvc_ ge133_1 ul133_1
            clear hcc133 hce133
            have HR133_1 := Aside0.mk hi133_1
            have HC133_1 := Aside0.mk hl133_1
            clear hi133_1 hl133_1
            replace p133 := eq_true p133
            replace q133 := eq_true q133
            go_wp2
            go_roundg k1
            case measure => have := HK1.out; omega
            case rel => exact ⟨(x7_1), (wrap64 (x8_1 + 1)), (by first | rfl | (simp; done) | (simp [*]; done)), H', ⟨by have := HK1.out; omega⟩, ⟨by (with_reducible repeat (first | apply Kd.V_alloc | apply Kd.V_drewN | apply Kd.V_drew)); exact HO_0.out⟩, ⟨by (with_reducible repeat (first | apply Kd.V_alloc | apply Kd.V_drewN | apply Kd.V_drew)); exact HO_2.out⟩, ⟨by (with_reducible repeat (first | apply Kd.N_alloc | apply Kd.N_drewN | apply Kd.N_drew)); exact HO_7.out⟩, ⟨by repeat (first | (with_reducible first | exact HB.out | apply below_alloc | apply pw_below_drewN | apply below_drew1) | exact HB.out)⟩⟩
          · rw [if_neg c6] at H
            have c6b0 : (((rd_T106 l0 x8_1).f0) == a1) = false := beq_eq_false_iff_ne.mpr c6
            have c6b1 : (((rd_T106 l0 x8_1).f0) != a1) = true := bne_iff_ne.mpr c6
            by_cases c7 : x7_1.length < 4398046511104
            · rw [if_pos c7] at H
              have LMc7 := Aside0.mk c7
              clear c7
              obtain ⟨y135, hy135⟩ : ∃ y_ : List (S106), y_ = (x7_1 ++ [(⟨(rd_T106 l0 x8_1).f0, (rd_T106 l0 x8_1).f1⟩ : S106)]) := ⟨_, rfl⟩
              replace H : (kilnref3_put.l0 k1 l0 a1 l2 y135 (wrap64 (x8_1 + 1))) = some r := by first | (rw [hy135]; with_reducible exact H) | (have H2_ := (Option.bind_some _ _).symm.trans H; rw [hy135]; with_reducible exact H2_) | (have H2_ := (Option.bind_some _ _).symm.trans H; with_reducible exact H2_) | with_reducible exact H | (rw [hy135]; exact H) | exact H
              have Ny135 := Aside0.mk hy135
              clear hy135
              have H' := Aside0.mk H
              clear H
              have p133 : 0 ≤ (x8_1 : Int) := of_decide_eq_true (by first | (with_reducible assumption) | assumption)
              have q133 : x8_1 < (l0.length : Int) := of_decide_eq_true (by first | (with_reducible assumption) | assumption)
              obtain ⟨ad133, A133_1, c133_1, e133, hx133_0, hx133_1, hl133_1, hi133_1⟩ := at_T106 (Kd.V_reads' HO_0.out).2.2 x8_1 p133 q133
              cases e133
              obtain ⟨ce133, hce133, hMe133, hcc133⟩ := Kd.V_get HO_0.out z106 x8_1 p133 (by first | exact q133 | exact of_decide_eq_true (by first | (with_reducible assumption) | assumption) | (have e_ := (Kd.V_reads' HO_0.out).1; omega))
              obtain ⟨ua133_1, uc133_1, rfl, ul133_1, ge133_1⟩ := k106_openF hMe133
              have hv133_1 := hcc133 1 _ rfl
              rw [add_field _ _ 1 (by omega)] at hv133_1
              replace hv133_1 := Option.some.inj (hv133_1.symm.trans hx133_1)
              injection hv133_1 with hva_ hvn_ hvc_
              rw [hva_] at ge133_1
              rw [hvc_] at ul133_1
              have HL133_1 := Aside0.mk (show Kd.V (Kd.int .u8) 5 _ w.heap.size _ _ ((rd_T106 l0 x8_1).f1) from Kd.V_mk ul133_1 ge133_1)
              clear hva_ hvn_ hvc_ ge133_1 ul133_1
              clear hcc133 hce133
              have HR133_1 := Aside0.mk hi133_1
              have HC133_1 := Aside0.mk hl133_1
              clear hi133_1 hl133_1
              replace p133 := eq_true p133
              replace q133 := eq_true q133
              have p134 : 0 ≤ (x8_1 : Int) := of_decide_eq_true (by first | (with_reducible assumption) | assumption)
              have q134 : x8_1 < (l0.length : Int) := of_decide_eq_true (by first | (with_reducible assumption) | assumption)
              obtain ⟨ad134, A134_1, c134_1, e134, hx134_0, hx134_1, hl134_1, hi134_1⟩ := at_T106 (Kd.V_reads' HO_0.out).2.2 x8_1 p134 q134
              obtain rfl : ad133 = ad134 := (by injection e134)
              obtain ⟨ce134, hce134, hMe134, hcc134⟩ := Kd.V_get HO_0.out z106 x8_1 p134 (by first | exact q134 | exact of_decide_eq_true (by first | (with_reducible assumption) | assumption) | (have e_ := (Kd.V_reads' HO_0.out).1; omega))
              obtain ⟨ua134_1, uc134_1, rfl, ul134_1, ge134_1⟩ := k106_openF hMe134
              have hv134_1 := hcc134 1 _ rfl
              rw [add_field _ _ 1 (by omega)] at hv134_1
              replace hv134_1 := Option.some.inj (hv134_1.symm.trans hx134_1)
              injection hv134_1 with hva_ hvn_ hvc_
              rw [hva_] at ge134_1
              rw [hvc_] at ul134_1
              have HL134_1 := Aside0.mk (show Kd.V (Kd.int .u8) 5 _ w.heap.size _ _ ((rd_T106 l0 x8_1).f1) from Kd.V_mk ul134_1 ge134_1)
              clear hva_ hvn_ hvc_ ge134_1 ul134_1
              clear hcc134 hce134
              have HR134_1 := Aside0.mk hi134_1
              have HC134_1 := Aside0.mk hl134_1
              clear hi134_1 hl134_1
              replace p134 := eq_true p134
              replace q134 := eq_true q134
              have ea_ := Option.some.inj (hx133_1.symm.trans hx134_1)
              injection ea_ with ea_ en_ ec_
              subst ea_
              subst ec_
              clear en_
              go_wp2_with (first | ((with_reducible refine gate_builtin (b := .append) (xs := #[.tmp 22, .tmp 27]) rfl ?_); at_builtin; refine Kd.N_append k106 (w0 := w) w.heap.size rfl (.tmp 22) (.tmp 27) 39 106 (.agg #[(.int .i64 0), (.slice none 0 0)]) 32 rfl Tryd.underlying39 info106 rfl (by decide) (by omega) u7 x7_1 (⟨(rd_T106 l0 x8_1).f0, (rd_T106 l0 x8_1).f1⟩ : S106) [.int .i64 ((rd_T106 l0 x8_1).f0), .slice A133_1 ((rd_T106 l0 x8_1).f1).length c133_1] (fun k_ => ((P0_ k_ ∨ P2_ k_) ∨ w.heap.size ≤ k_)) (fun k_ => ((fun k_ => ((P0_ k_ ∨ P2_ k_) ∨ w.heap.size ≤ k_))) k_ ∧ some k_ ≠ (u7 : Value).ownBlock) rfl rfl ?aP (fun _ hk => hk) ?aF ?aO ?aB ?aS ?aL ?_; (case aP => exact (k106_mkF _ _ (⟨(rd_T106 l0 x8_1).f0, (rd_T106 l0 x8_1).f1⟩ : S106) (Kd.V_reads' (Kd.V_mono (ok' := (fun k_ => ((fun k_ => ((P0_ k_ ∨ P2_ k_) ∨ w.heap.size ≤ k_))) k_ ∧ some k_ ≠ (u7 : Value).ownBlock)) (HL134_1.out) (fun k_ hk => ⟨hk.1, hk.2⟩))).2.1 (Kd.V_F (Kd.V_mono (ok' := (fun k_ => ((fun k_ => ((P0_ k_ ∨ P2_ k_) ∨ w.heap.size ≤ k_))) k_ ∧ some k_ ≠ (u7 : Value).ownBlock)) (HL134_1.out) (fun k_ hk => ⟨hk.1, hk.2⟩))))); (case aB => exact (by repeat (first | (with_reducible first | exact HB.out | apply below_alloc | apply pw_below_drewN | apply below_drew1) | exact HB.out))); (case aF => exact (fun k_ hk => (.inr (Nat.le_trans (below_size (by repeat (first | (with_reducible first | exact HB.out | apply below_alloc | apply pw_below_drewN | apply below_drew1) | exact HB.out))) hk)))); (case aO => exact (by (with_reducible repeat (first | apply Kd.N_alloc | apply Kd.N_drewN | apply Kd.N_drew)); exact HO_7.out)); (case aS => exact (below_size (by repeat (first | (with_reducible first | exact HB.out | apply below_alloc | apply pw_below_drewN | apply below_drew1) | exact HB.out)))); (case aL => have := LMc7.out; omega); intro v136 w8 ho hb hg hat; rw [← Ny135.out] at ho; have n0_ := Aside0.mk (Kd.V_afterv (ok := (fun k_ => ((P0_ k_ ∨ P2_ k_) ∨ w.heap.size ≤ k_))) (by (with_reducible repeat (first | apply Kd.V_alloc | apply Kd.V_drewN | apply Kd.V_drew)); exact HO_0.out) hg hat); have n1_ := Aside0.mk (Kd.V_afterv (ok := (fun k_ => ((P0_ k_ ∨ P2_ k_) ∨ w.heap.size ≤ k_))) (by (with_reducible repeat (first | apply Kd.V_alloc | apply Kd.V_drewN | apply Kd.V_drew)); exact HO_2.out) hg hat); have n2_ := Aside0.mk (Kd.V_afterv (ok := (fun k_ => ((P0_ k_ ∨ P2_ k_) ∨ w.heap.size ≤ k_))) (by (with_reducible repeat (first | apply Kd.V_alloc | apply Kd.V_drewN | apply Kd.V_drew)); exact HL133_1.out) hg hat); have n3_ := Aside0.mk (Kd.V_afterv (ok := (fun k_ => ((P0_ k_ ∨ P2_ k_) ∨ w.heap.size ≤ k_))) (by (with_reducible repeat (first | apply Kd.V_alloc | apply Kd.V_drewN | apply Kd.V_drew)); exact HL134_1.out) hg hat); have n4_ := Aside0.mk (hb); have n5_ := Aside0.mk (ho); clear HO_0; clear HO_2; clear HL133_1; clear HL134_1; clear HB; clear HO_7; have HO_0 := n0_; have HO_2 := n1_; have HL133_1 := n2_; have HL134_1 := n3_; have HB := n4_; have HO137 := n5_; clear n0_ n1_ n2_ n3_ n4_ n5_; clear ho hb hg hat))
              go_roundg k1
              case measure => have := HK1.out; omega
              case rel => exact ⟨(y135), (wrap64 (x8_1 + 1)), (by first | rfl | (simp; done) | (simp [*]; done)), H', ⟨by have := HK1.out; omega⟩, ⟨by (with_reducible repeat (first | apply Kd.V_alloc | apply Kd.V_drewN | apply Kd.V_drew)); exact HO_0.out⟩, ⟨by (with_reducible repeat (first | apply Kd.V_alloc | apply Kd.V_drewN | apply Kd.V_drew)); exact HO_2.out⟩, ⟨by (with_reducible repeat (first | apply Kd.N_alloc | apply Kd.N_drewN | apply Kd.N_drew)); exact HO137.out⟩, ⟨by repeat (first | (with_reducible first | exact HB.out | apply below_alloc | apply pw_below_drewN | apply below_drew1) | exact HB.out)⟩⟩
            · rw [if_neg c7] at H
              exact absurd H (by simp)
        · rw [if_neg c5] at H
          exact absurd H (by simp)
      · rw [if_neg c4] at H
        have c4b0 : decide (x8_1 < (l0.length : Int)) = false := decide_eq_false c4
        clear c4
        by_cases c9 : x7_1.length < 4398046511104
        · rw [if_pos c9] at H
          have LMc9 := Aside0.mk c9
          clear c9
          obtain ⟨y138, hy138⟩ : ∃ y_ : List (S106), y_ = (x7_1 ++ [(⟨a1, l2⟩ : S106)]) := ⟨_, rfl⟩
          replace H : (some y138) = some r := by first | (rw [hy138]; with_reducible exact H) | (have H2_ := (Option.bind_some _ _).symm.trans H; rw [hy138]; with_reducible exact H2_) | (have H2_ := (Option.bind_some _ _).symm.trans H; with_reducible exact H2_) | with_reducible exact H | (rw [hy138]; exact H) | exact H
          have Ny138 := Aside0.mk hy138
          clear hy138
          obtain rfl := Option.some.inj H
          go_wp2_with (first | ((with_reducible refine gate_builtin (b := .append) (xs := #[.tmp 29, .tmp 33]) rfl ?_); at_builtin; refine Kd.N_append k106 (w0 := w) w.heap.size rfl (.tmp 29) (.tmp 33) 39 106 (.agg #[(.int .i64 0), (.slice none 0 0)]) 32 rfl Tryd.underlying39 info106 rfl (by decide) (by omega) u7 x7_1 (⟨a1, l2⟩ : S106) [.int .i64 a1, .slice A2 l2.length c2] (fun k_ => ((P0_ k_ ∨ P2_ k_) ∨ w.heap.size ≤ k_)) (fun k_ => ((fun k_ => ((P0_ k_ ∨ P2_ k_) ∨ w.heap.size ≤ k_))) k_ ∧ some k_ ≠ (u7 : Value).ownBlock) rfl rfl ?aP (fun _ hk => hk) ?aF ?aO ?aB ?aS ?aL ?_; (case aP => exact (k106_mkF _ _ (⟨a1, l2⟩ : S106) (Kd.V_reads' (Kd.V_mono (ok' := (fun k_ => ((fun k_ => ((P0_ k_ ∨ P2_ k_) ∨ w.heap.size ≤ k_))) k_ ∧ some k_ ≠ (u7 : Value).ownBlock)) (HO_2.out) (fun k_ hk => ⟨hk.1, hk.2⟩))).2.1 (Kd.V_F (Kd.V_mono (ok' := (fun k_ => ((fun k_ => ((P0_ k_ ∨ P2_ k_) ∨ w.heap.size ≤ k_))) k_ ∧ some k_ ≠ (u7 : Value).ownBlock)) (HO_2.out) (fun k_ hk => ⟨hk.1, hk.2⟩))))); (case aB => exact (by repeat (first | (with_reducible first | exact HB.out | apply below_alloc | apply pw_below_drewN | apply below_drew1) | exact HB.out))); (case aF => exact (fun k_ hk => (.inr (Nat.le_trans (below_size (by repeat (first | (with_reducible first | exact HB.out | apply below_alloc | apply pw_below_drewN | apply below_drew1) | exact HB.out))) hk)))); (case aO => exact (by (with_reducible repeat (first | apply Kd.N_alloc | apply Kd.N_drewN | apply Kd.N_drew)); exact HO_7.out)); (case aS => exact (below_size (by repeat (first | (with_reducible first | exact HB.out | apply below_alloc | apply pw_below_drewN | apply below_drew1) | exact HB.out)))); (case aL => have := LMc9.out; omega); intro v139 w10 ho hb hg hat; rw [← Ny138.out] at ho; have n0_ := Aside0.mk (Kd.V_afterv (ok := (fun k_ => ((P0_ k_ ∨ P2_ k_) ∨ w.heap.size ≤ k_))) (by (with_reducible repeat (first | apply Kd.V_alloc | apply Kd.V_drewN | apply Kd.V_drew)); exact HO_0.out) hg hat); have n1_ := Aside0.mk (Kd.V_afterv (ok := (fun k_ => ((P0_ k_ ∨ P2_ k_) ∨ w.heap.size ≤ k_))) (by (with_reducible repeat (first | apply Kd.V_alloc | apply Kd.V_drewN | apply Kd.V_drew)); exact HO_2.out) hg hat); have n2_ := Aside0.mk (hb); have n3_ := Aside0.mk (ho); clear HO_0; clear HO_2; clear HB; clear HO_7; have HO_0 := n0_; have HO_2 := n1_; have HB := n2_; have HO140 := n3_; clear n0_ n1_ n2_ n3_; clear ho hb hg hat))
          go_ret
          exact ⟨_, by first | rfl | (simp [errW_none, errW_some] <;> rfl) | (simp [*, errW_none, errW_some] <;> rfl), by (with_reducible repeat (first | apply Kd.N_alloc | apply Kd.N_drewN | apply Kd.N_drew)); exact HO140.out, by repeat (first | (with_reducible first | exact HB.out | apply below_alloc | apply pw_below_drewN | apply below_drew1) | exact HB.out)⟩
        · rw [if_neg c9] at H
          exact absurd H (by simp)
def kilnref3_Flush.l0 : Nat → Int → Int → List (S106) → List (S106) → Int → Int → Int → Option (Int × (List (S106)) × (List (S106)) × Int × Int × Int)
  | 0, _, _, _, _, _, _, _ => none
  | k + 1, x3, x142000, x142001, x142002, x142003, x142004, x142005 => if x3 < (x142002.length : Int) then (if 0 ≤ x3 then ((kilnref3_put.f k x142001 ((rd_T106 x142002 x3).f0) ((rd_T106 x142002 x3).f1)).bind fun t145 => (kilnref3_Flush.l0 k (wrap64 (x3 + 1)) x142000 t145 x142002 x142003 x142004 x142005)) else (none)) else (some (x142000, x142001, ([] : List (S106)), x142003, x142004, wrap64 (x142005 + 1)))
def kilnref3_Flush.f (k : Nat) (a0_0 : Int) (l0_1 : List (S106)) (l0_2 : List (S106)) (a0_3 : Int) (a0_4 : Int) (a0_5 : Int) : Option (Int × (List (S106)) × (List (S106)) × Int × Int × Int) := kilnref3_Flush.l0 k 0 a0_0 l0_1 l0_2 a0_3 a0_4 a0_5
theorem kilnref3_Flush.mono_l : ∀ k, (∀ y0 y1 y2 y3 y4 y5 y6, LeO (kilnref3_Flush.l0 k y0 y1 y2 y3 y4 y5 y6) (kilnref3_Flush.l0 (k + 1) y0 y1 y2 y3 y4 y5 y6))
  | 0 => fun _ _ _ _ _ _ _ r h => by simp [kilnref3_Flush.l0] at h
  | k + 1 => by
    have ih0 := kilnref3_Flush.mono_l k
    · intro y0 y1 y2 y3 y4 y5 y6
      unfold kilnref3_Flush.l0
      repeat' first
      | (with_reducible exact ih0 _ _ _ _ _ _ _)
      | (with_reducible exact kilnref3_put.mono _ _ _ _)
      | (with_reducible exact LeO.refl _)
      | (with_reducible exact LeO.none _)
      | (with_reducible refine LeO.ite ?_ ?_)
      | (with_reducible refine LeO.bind ?_ (fun _ => ?_))
      | exact ih0 _ _ _ _ _ _ _
      | exact kilnref3_put.mono _ _ _ _
      | exact LeO.none _
      | refine LeO.ite ?_ ?_
      | refine LeO.bind ?_ (fun _ => ?_)
theorem kilnref3_Flush.mono : ∀ a0 a1 a2 a3 a4 a5 k, LeO (kilnref3_Flush.f k a0 a1 a2 a3 a4 a5) (kilnref3_Flush.f (k + 1) a0 a1 a2 a3 a4 a5) := by
  intro a0 a1 a2 a3 a4 a5 k
  have ih0 := kilnref3_Flush.mono_l k
  unfold kilnref3_Flush.f
  repeat' first
      | (with_reducible exact ih0 _ _ _ _ _ _ _)
      | (with_reducible exact kilnref3_put.mono _ _ _ _)
      | (with_reducible exact LeO.refl _)
      | (with_reducible exact LeO.none _)
      | (with_reducible refine LeO.ite ?_ ?_)
      | (with_reducible refine LeO.bind ?_ (fun _ => ?_))
      | exact ih0 _ _ _ _ _ _ _
      | exact kilnref3_put.mono _ _ _ _
      | exact LeO.none _
      | refine LeO.ite ?_ ?_
      | refine LeO.bind ?_ (fun _ => ?_)
def kilnref3_Flush.T4 : Bool × List (List Nat × List Nat) := (true, [([], []), ([0], [0]), ([], []), ([2], [2]), ([], []), ([3, 4], [3, 4]), ([5], [5]), ([6], [6]), ([], []), ([8], [8]), ([], []), ([9, 10], [9, 10]), ([11], [11]), ([12], [12]), ([1, 7, 13], [1, 7, 13]), ([0, 1, 2, 3, 4, 5, 6, 7, 8, 9, 10, 11, 12, 13, 14], []), ([15, 14, 14, 0, 1, 2, 3, 4, 5, 6, 7, 8, 9, 10, 11, 12, 13, 14], [14, 15])])
def kilnref3_Flush.B4 : List Nat := [0, 1, 0, 4, 0, 28, 60, 124, 0, 256, 0, 1792, 3840, 7936, 16383, 32767, 65535]
theorem kilnref3_Flush.tab4 : rtab .any (opsOf Tryd.f21 4) = kilnref3_Flush.T4 := by kernel_rfl
theorem kilnref3_Flush.bits4 : waitsOk kilnref3_Flush.T4.2 kilnref3_Flush.B4 = true := by kernel_rfl
set_option maxHeartbeats 8000000 in
set_option maxRecDepth 100000 in
theorem kilnref3_Flush.calls (k : Nat) (a0_0 : Int) (P0_1_ : Nat → Prop) (A0_1 : Option Addr) (c0_1 : Nat) (l0_1 : List (S106)) (P0_2_ : Nat → Prop) (A0_2 : Option Addr) (c0_2 : Nat) (l0_2 : List (S106)) (a0_3 : Int) (a0_4 : Int) (a0_5 : Int) (r1 : Int) (r2 : List (S106)) (r3 : List (S106)) (r4 : Int) (r5 : Int) (r6 : Int) (w : World) (hs0_1 : Kd.V k106 106 w w.heap.size (fun k_ => P0_1_ k_) (.slice A0_1 l0_1.length c0_1) l0_1) (hs0_2 : Kd.V k106 106 w w.heap.size (fun k_ => P0_2_ k_) (.slice A0_2 l0_2.length c0_2) l0_2) (h : kilnref3_Flush.f k a0_0 l0_1 l0_2 a0_3 a0_4 a0_5 = some (r1, r2, r3, r4, r5, r6)) :
    Calls Tryd.prog 21 #[.agg #[.int .i64 a0_0, .slice A0_1 l0_1.length c0_1, .slice A0_2 l0_2.length c0_2, .int .i64 a0_3, .int .i64 a0_4, .int .i64 a0_5]] w fun e w' => ∃ v1_ v2_ : Value, e = .returned (.agg #[.int .i64 r1, v1_, v2_, .int .i64 r4, .int .i64 r5, .int .i64 r6]) ∧ Kd.V k106 106 w' w.heap.size (fun k_ => ((P0_1_ k_ ∨ P0_2_ k_) ∨ w.heap.size ≤ k_) ∧ some k_ ≠ (v2_ : Value).ownBlock) v1_ r2 ∧ Kd.N k106 106 w' w.heap.size (fun k_ => ((P0_1_ k_ ∨ P0_2_ k_) ∨ w.heap.size ≤ k_)) v2_ r3 ∧ Below w.heap.size w w' := by
  have hu43 := Tryd.underlying43
  have HO0_1 := Aside0.mk (show Kd.V k106 106 w w.heap.size (fun k_ => ((P0_1_ k_ ∨ P0_2_ k_) ∨ w.heap.size ≤ k_)) (.slice A0_1 l0_1.length c0_1) l0_1 from Kd.V_mono hs0_1 (fun k_ hk => .inl (.inl hk)))
  have HO0_2 := Aside0.mk (show Kd.V k106 106 w w.heap.size (fun k_ => ((P0_1_ k_ ∨ P0_2_ k_) ∨ w.heap.size ≤ k_)) (.slice A0_2 l0_2.length c0_2) l0_2 from Kd.V_mono hs0_2 (fun k_ hk => .inl (.inr hk)))
  have HB := Aside0.mk (Below.refl w.heap.size w)
  have H : (kilnref3_Flush.l0 k 0 a0_0 l0_1 l0_2 a0_3 a0_4 a0_5) = some (r1, r2, r3, r4, r5, r6) := h
  clear h
  have H' := Aside0.mk H
  clear H
  go_enter Tryd.func21, Tryd.ntmps21
  go_wp2_with (first | ((with_reducible refine gate_dst (N := 1) rfl ?_); refine box_event ?hg (N := 1) ?hd (cs := #[.int .i64 a0_0, .slice A0_1 l0_1.length c0_1, .slice A0_2 l0_2.length c0_2, .int .i64 a0_3, .int .i64 a0_4, .int .i64 a0_5]) (t := 43) ?hr ?_; (case hd => rfl); (case hg => rfl); (case hr => first | (go_simp; done) | (go_simp; rfl)); intro gb141 hg w2 hbox hb; have n0_ := Aside0.mk (Kd.V_below (Kd.V_elderB (by (with_reducible repeat (first | apply Kd.V_alloc | apply Kd.V_drewN | apply Kd.V_drew)); exact HO0_1.out) gb141 (Nat.le_of_eq hg.symm)) hb); have n1_ := Aside0.mk (Kd.V_below (Kd.V_elderB (by (with_reducible repeat (first | apply Kd.V_alloc | apply Kd.V_drewN | apply Kd.V_drew)); exact HO0_2.out) gb141 (Nat.le_of_eq hg.symm)) hb); have n2_ := Aside0.mk (below_step (by repeat (first | (with_reducible first | exact HB.out | apply below_alloc | apply pw_below_drewN | apply below_drew1) | exact HB.out)) hb); have n3_ := Aside0.mk (hbox); have n4_ := Aside0.mk ((by rw [hg]; exact (below_size (by repeat (first | (with_reducible first | exact HB.out | apply below_alloc | apply pw_below_drewN | apply below_drew1) | exact HB.out))) : w.heap.size ≤ gb141)); have n5_ := Aside0.mk ((by rw [hg]; exact (below_size (by repeat (first | (with_reducible first | exact HB.out | apply below_alloc | apply pw_below_drewN | apply below_drew1) | exact HB.out))) : w.heap.size ≤ gb141)); clear HO0_1; clear HO0_2; clear HB; have HO0_1 := n0_; have HO0_2 := n1_; have HB := n2_; have BK141 := n3_; have GW141 := n4_; have GE141 := n5_; clear n0_ n1_ n2_ n3_ n4_ n5_; clear hb hbox hg) | ((with_reducible refine gate_dst (N := 2) rfl ?_); refine box_event ?hg (N := 2) ?hd (cs := #[.int .i64 0, .slice none 0 0, .slice none 0 0, .int .i64 0, .int .i64 0, .int .i64 0]) (t := 43) ?hr ?_; (case hd => rfl); (case hg => rfl); (case hr => first | (go_simp; done) | (go_simp; rfl)); intro gb142 hg w3 hbox hb; have n0_ := Aside0.mk (Kd.V_below (Kd.V_elderB (by (with_reducible repeat (first | apply Kd.V_alloc | apply Kd.V_drewN | apply Kd.V_drew)); exact HO0_1.out) gb142 (Nat.le_of_eq hg.symm)) hb); have n1_ := Aside0.mk (Kd.V_below (Kd.V_elderB (by (with_reducible repeat (first | apply Kd.V_alloc | apply Kd.V_drewN | apply Kd.V_drew)); exact HO0_2.out) gb142 (Nat.le_of_eq hg.symm)) hb); have n2_ := Aside0.mk (blk_below (g := gb141) (o := .cells #[.int .i64 a0_0, .slice A0_1 l0_1.length c0_1, .slice A0_2 l0_2.length c0_2, .int .i64 a0_3, .int .i64 a0_4, .int .i64 a0_5] 43 (0, 0)) (by (with_reducible repeat (first | refine blk_drewN ?_ _ | refine blk_drew ?_ | refine blk_alloc ?_ _)); exact BK141.out) hb); have n3_ := Aside0.mk (below_step (by repeat (first | (with_reducible first | exact HB.out | apply below_alloc | apply pw_below_drewN | apply below_drew1 | refine below_set ?_ GE141.out) | exact HB.out)) hb); have n4_ := Aside0.mk (hbox); have n5_ := Aside0.mk ((by rw [hg]; exact (below_size (by repeat (first | (with_reducible first | exact HB.out | apply below_alloc | apply pw_below_drewN | apply below_drew1 | refine below_set ?_ GE141.out) | exact HB.out))) : w.heap.size ≤ gb142)); have n6_ := Aside0.mk ((by rw [hg]; exact (below_size (by repeat (first | (with_reducible first | exact HB.out | apply below_alloc | apply pw_below_drewN | apply below_drew1 | refine below_set ?_ GE141.out) | exact HB.out))) : w.heap.size ≤ gb142)); have n7_ := Aside0.mk ((by rw [hg]; exact Nat.ne_of_lt (blk_lt (g := gb141) (o := .cells #[.int .i64 a0_0, .slice A0_1 l0_1.length c0_1, .slice A0_2 l0_2.length c0_2, .int .i64 a0_3, .int .i64 a0_4, .int .i64 a0_5] 43 (0, 0)) (by (with_reducible repeat (first | refine blk_drewN ?_ _ | refine blk_drew ?_ | refine blk_alloc ?_ _)); exact BK141.out)) : gb141 ≠ gb142)); have n8_ := Aside0.mk ((by rw [hg]; exact Nat.ne_of_gt (blk_lt (g := gb141) (o := .cells #[.int .i64 a0_0, .slice A0_1 l0_1.length c0_1, .slice A0_2 l0_2.length c0_2, .int .i64 a0_3, .int .i64 a0_4, .int .i64 a0_5] 43 (0, 0)) (by (with_reducible repeat (first | refine blk_drewN ?_ _ | refine blk_drew ?_ | refine blk_alloc ?_ _)); exact BK141.out)) : gb142 ≠ gb141)); clear HO0_1; clear HO0_2; clear BK141; clear HB; have HO0_1 := n0_; have HO0_2 := n1_; have BK141 := n2_; have HB := n3_; have BK142 := n4_; have GW142 := n5_; have GE142 := n6_; have NB141_142 := n7_; have NB142_141 := n8_; clear n0_ n1_ n2_ n3_ n4_ n5_ n6_ n7_ n8_; clear hb hbox hg))
  go_loopg [3] k (fun kq v3 w' => ∃ (x3_1 : Int) (x142001_1 : List (S106)) (u142001 : Value), v3 = .int .i64 x3_1 ∧ Aside0 (kilnref3_Flush.l0 kq x3_1 a0_0 x142001_1 l0_2 a0_3 a0_4 a0_5 = some (r1, r2, r3, r4, r5, r6)) ∧ Aside0 (kq ≤ k) ∧ Aside0 (Kd.V k106 106 w' w.heap.size (fun k_ => ((P0_1_ k_ ∨ P0_2_ k_) ∨ w.heap.size ≤ k_) ∧ k_ ≠ gb141 ∧ k_ ≠ gb142) u142001 x142001_1) ∧ Aside0 (Kd.V k106 106 w' w.heap.size (fun k_ => ((P0_1_ k_ ∨ P0_2_ k_) ∨ w.heap.size ≤ k_) ∧ k_ ≠ gb141 ∧ k_ ≠ gb142) (.slice A0_2 l0_2.length c0_2) l0_2) ∧ Aside0 (w'.heap[gb141]? = some (.cells #[.int .i64 a0_0, u142001, (.slice A0_2 l0_2.length c0_2), .int .i64 a0_3, .int .i64 a0_4, .int .i64 a0_5] 43 (0, 0))) ∧ Aside0 (w'.heap[gb142]? = some (.cells #[.int .i64 0, (.slice none 0 0), (.slice none 0 0), .int .i64 0, .int .i64 0, .int .i64 0] 43 (0, 0))) ∧ Aside0 (Below w.heap.size w w'))
  case atStart => exact ⟨(0), (l0_1), (.slice A0_1 l0_1.length c0_1), (by first | rfl | (simp; done) | (simp [*]; done)), H', ⟨Nat.le_refl _⟩, ⟨by (with_reducible repeat (first | apply Kd.V_alloc | apply Kd.V_drewN | apply Kd.V_drew)); exact Kd.V_mono HO0_1.out (fun _ hk => ⟨hk.1.1, ⟨hk.1.2, hk.2⟩⟩)⟩, ⟨by (with_reducible repeat (first | apply Kd.V_alloc | apply Kd.V_drewN | apply Kd.V_drew)); exact Kd.V_mono HO0_2.out (fun _ hk => ⟨hk.1.1, ⟨hk.1.2, hk.2⟩⟩)⟩, ⟨by (with_reducible repeat (first | refine blk_drewN ?_ _ | refine blk_drew ?_ | refine blk_alloc ?_ _)); exact BK141.out⟩, ⟨by (with_reducible repeat (first | refine blk_drewN ?_ _ | refine blk_drew ?_ | refine blk_alloc ?_ _)); exact BK142.out⟩, ⟨by repeat (first | (with_reducible first | exact HB.out | apply below_alloc | apply pw_below_drewN | apply below_drew1 | refine below_set ?_ GE141.out | refine below_set ?_ GE142.out) | exact HB.out)⟩⟩
  case round =>
    clear H'
    try clear c2
    try clear p2
    obtain ⟨x3_1, x142001_1, u142001, rfl, HA, HK1, HO_142001, HO_142002, BK141, BK142, HB⟩ := hrel
    cases gk with
    | zero => exact absurd HA.out (by simp [kilnref3_Flush.l0])
    | succ k1 =>
      have H := HA.out
      clear HA
      simp only [kilnref3_Flush.l0] at H
      by_cases c4 : x3_1 < (l0_2.length : Int)
      · rw [if_pos c4] at H
        have c4b0 : decide (x3_1 < (l0_2.length : Int)) = true := decide_eq_true c4
        clear c4
        by_cases c5 : 0 ≤ x3_1
        · rw [if_pos c5] at H
          have c5b0 : decide (0 ≤ x3_1) = true := decide_eq_true c5
          clear c5
          replace H := Option.bind_eq_some_iff.mp H
          obtain ⟨t145, A60, H⟩ := H
          replace H : (kilnref3_Flush.l0 k1 (wrap64 (x3_1 + 1)) a0_0 t145 l0_2 a0_3 a0_4 a0_5) = some (r1, r2, r3, r4, r5, r6) := H
          have A6 := Aside0.mk A60
          clear A60
          have H' := Aside0.mk H
          clear H
          have hnb7 := NB141_142.out
          have hnc7 := NB142_141.out
          have hcz8_0 : wr.cell? ⟨gb141, 0, none⟩ = some (.int .i64 a0_0) := (blk_cell BK141.out 0).trans rfl
          have hcz8_1 : wr.cell? ⟨gb141, 1, none⟩ = some (u142001) := (blk_cell BK141.out 1).trans rfl
          have hcz8_2 : wr.cell? ⟨gb141, 2, none⟩ = some (.slice A0_2 l0_2.length c0_2) := (blk_cell BK141.out 2).trans rfl
          have hcz8_3 : wr.cell? ⟨gb141, 3, none⟩ = some (.int .i64 a0_3) := (blk_cell BK141.out 3).trans rfl
          have hcz8_4 : wr.cell? ⟨gb141, 4, none⟩ = some (.int .i64 a0_4) := (blk_cell BK141.out 4).trans rfl
          have hcz8_5 : wr.cell? ⟨gb141, 5, none⟩ = some (.int .i64 a0_5) := (blk_cell BK141.out 5).trans rfl
          have hfz8_0 := blk_frozen BK141.out 0
          have hfz8_1 := blk_frozen BK141.out 1
          have hfz8_2 := blk_frozen BK141.out 2
          have hfz8_3 := blk_frozen BK141.out 3
          have hfz8_4 := blk_frozen BK141.out 4
          have hfz8_5 := blk_frozen BK141.out 5
          try go_wp2
          have n0_ := Aside0.mk (Kd.V_drew HO_142001.out)
          have n1_ := Aside0.mk (Kd.V_drew HO_142002.out)
          have n2_ := Aside0.mk (blk_drew BK141.out)
          have n3_ := Aside0.mk (blk_drew BK142.out)
          have n4_ := Aside0.mk (below_drew1 HB.out)
          clear HO_142001
          clear HO_142002
          clear BK141
          clear BK142
          clear HB
          have HO_142001 := n0_
          have HO_142002 := n1_
          have BK141 := n2_
          have BK142 := n3_
          have HB := n4_
          clear n0_ n1_ n2_ n3_ n4_
          have p143 : 0 ≤ (x3_1 : Int) := of_decide_eq_true (by first | (with_reducible assumption) | assumption)
          have q143 : x3_1 < (l0_2.length : Int) := of_decide_eq_true (by first | (with_reducible assumption) | assumption)
          obtain ⟨ad143, A143_1, c143_1, e143, hx143_0, hx143_1, hl143_1, hi143_1⟩ := at_T106 (Kd.V_reads' HO_142002.out).2.2 x3_1 p143 q143
          cases e143
          obtain ⟨ce143, hce143, hMe143, hcc143⟩ := Kd.V_get HO_142002.out z106 x3_1 p143 (by first | exact q143 | exact of_decide_eq_true (by first | (with_reducible assumption) | assumption) | (have e_ := (Kd.V_reads' HO_142002.out).1; omega))
          obtain ⟨ua143_1, uc143_1, rfl, ul143_1, ge143_1⟩ := k106_openF hMe143
          have hv143_1 := hcc143 1 _ rfl
          rw [add_field _ _ 1 (by omega)] at hv143_1
          replace hv143_1 := Option.some.inj (hv143_1.symm.trans hx143_1)
          injection hv143_1 with hva_ hvn_ hvc_
          rw [hva_] at ge143_1
          rw [hvc_] at ul143_1
          have HL143_1 := Aside0.mk (show Kd.V (Kd.int .u8) 5 _ w.heap.size _ _ ((rd_T106 l0_2 x3_1).f1) from Kd.V_mk ul143_1 ge143_1)
          clear hva_ hvn_ hvc_ ge143_1 ul143_1
          clear hcc143 hce143
          have HR143_1 := Aside0.mk hi143_1
          have HC143_1 := Aside0.mk hl143_1
          clear hi143_1 hl143_1
          replace p143 := eq_true p143
          replace q143 := eq_true q143
          have p144 : 0 ≤ (x3_1 : Int) := of_decide_eq_true (by first | (with_reducible assumption) | assumption)
          have q144 : x3_1 < (l0_2.length : Int) := of_decide_eq_true (by first | (with_reducible assumption) | assumption)
          obtain ⟨ad144, A144_1, c144_1, e144, hx144_0, hx144_1, hl144_1, hi144_1⟩ := at_T106 (Kd.V_reads' HO_142002.out).2.2 x3_1 p144 q144
          obtain rfl : ad143 = ad144 := (by injection e144)
          obtain ⟨ce144, hce144, hMe144, hcc144⟩ := Kd.V_get HO_142002.out z106 x3_1 p144 (by first | exact q144 | exact of_decide_eq_true (by first | (with_reducible assumption) | assumption) | (have e_ := (Kd.V_reads' HO_142002.out).1; omega))
          obtain ⟨ua144_1, uc144_1, rfl, ul144_1, ge144_1⟩ := k106_openF hMe144
          have hv144_1 := hcc144 1 _ rfl
          rw [add_field _ _ 1 (by omega)] at hv144_1
          replace hv144_1 := Option.some.inj (hv144_1.symm.trans hx144_1)
          injection hv144_1 with hva_ hvn_ hvc_
          rw [hva_] at ge144_1
          rw [hvc_] at ul144_1
          have HL144_1 := Aside0.mk (show Kd.V (Kd.int .u8) 5 _ w.heap.size _ _ ((rd_T106 l0_2 x3_1).f1) from Kd.V_mk ul144_1 ge144_1)
          clear hva_ hvn_ hvc_ ge144_1 ul144_1
          clear hcc144 hce144
          have HR144_1 := Aside0.mk hi144_1
          have HC144_1 := Aside0.mk hl144_1
          clear hi144_1 hl144_1
          replace p144 := eq_true p144
          replace q144 := eq_true q144
          have ea_ := Option.some.inj (hx143_1.symm.trans hx144_1)
          injection ea_ with ea_ en_ ec_
          subst ea_
          subst ec_
          clear en_
          obtain ⟨Ao10, co10, eo10⟩ := Kd.V_slice HO_142001.out
          (first | subst eo10 | (injection eo10 with f1_ f2_ f3_; have f4_ := f1_.symm; have f5_ := f3_.symm; clear f1_ f2_ f3_; subst f4_; subst f5_))
          refine start_ (n := 17) (S := fun w' => w'.cell? ⟨gb141, 0, none⟩ = some (.int .i64 a0_0) ∧ w'.cell? ⟨gb141, 1, none⟩ = some (.slice Ao10 x142001_1.length co10) ∧ w'.cell? ⟨gb141, 2, none⟩ = some (.slice (some ad143) l0_2.length c0_2) ∧ w'.cell? ⟨gb141, 3, none⟩ = some (.int .i64 a0_3) ∧ w'.cell? ⟨gb141, 4, none⟩ = some (.int .i64 a0_4) ∧ w'.cell? ⟨gb141, 5, none⟩ = some (.int .i64 a0_5) ∧ w'.cell? (ad143.add ((x3_1).toNat * 2)) = some (.int .i64 ((rd_T106 l0_2 x3_1).f0)) ∧ w'.cell? ⟨(ad143.add ((x3_1).toNat * 2)).block, (ad143.add ((x3_1).toNat * 2)).off + 1, none⟩ = some (.slice A143_1 ((rd_T106 l0_2 x3_1).f1).length c143_1) ∧ w'.cell? (ad143.add ((x3_1).toNat * 2)) = some (.int .i64 ((rd_T106 l0_2 x3_1).f0)) ∧ w'.cell? ⟨(ad143.add ((x3_1).toNat * 2)).block, (ad143.add ((x3_1).toNat * 2)).off + 1, none⟩ = some (.slice A143_1 ((rd_T106 l0_2 x3_1).f1).length c143_1)) (ds := [16]) (bb 17 0) (by kernel_rfl) rfl rfl ⟨(blk_cell BK141.out 0).trans rfl, (blk_cell BK141.out 1).trans rfl, (blk_cell BK141.out 2).trans rfl, (blk_cell BK141.out 3).trans rfl, (blk_cell BK141.out 4).trans rfl, (blk_cell BK141.out 5).trans rfl, hx143_0, hx143_1, hx144_0, hx144_1⟩ (fun hHeld => ?_); refine with_tabW kilnref3_Flush.tab4 kilnref3_Flush.bits4 (fun HT_ HW_ => ?_)
          generalize wr.drew = w9 at HO_142001 HO_142002 BK141 BK142 HB HL143_1 HL144_1 HR143_1 HR144_1 hx143_0 hx143_1 hx144_0 hx144_1 hHeld ⊢
          refine pure_ (i := 0) (N := some 11) (v := ?_) (a' := ?_) (bb 17 1) rfl rfl (any_of HT_.out (by kernel_rfl)) (fun _ _ _ h => h) (Or.inl ⟨by rfl, ?_⟩) ?_ ?_
          rotate_left
          · intro w'
            go_simp
            with_reducible rfl
          rotate_left
          · simp only [Act.put, List.setIfInBounds_toArray, List.set_cons_zero, List.set_cons_succ, i64_w, i32_w]
            rfl
          refine pure_ (i := 2) (N := some 13) (v := ?_) (a' := ?_) (bb 17 5) rfl rfl (any_of HT_.out (by kernel_rfl)) (fun _ _ _ h => h) (Or.inl ⟨by rfl, ?_⟩) ?_ ?_
          rotate_left
          · intro w'
            go_simp
            with_reducible rfl
          rotate_left
          · simp only [Act.put, List.setIfInBounds_toArray, List.set_cons_zero, List.set_cons_succ, i64_w, i32_w]
            rfl
          refine pure_ (i := 4) (N := some 15) (v := ?_) (a' := ?_) (bb 17 21) rfl rfl (any_of HT_.out (by kernel_rfl)) (fun _ _ _ h => h) (Or.inl ⟨by rfl, ?_⟩) ?_ ?_
          rotate_left
          · intro w'
            go_simp
            with_reducible rfl
          rotate_left
          · simp only [Act.put, List.setIfInBounds_toArray, List.set_cons_zero, List.set_cons_succ, i64_w, i32_w]
            rfl
          refine pure_ (i := 8) (N := some 19) (v := ?_) (a' := ?_) (bb 17 277) rfl rfl (any_of HT_.out (by kernel_rfl)) (fun _ _ _ h => h) (Or.inl ⟨by rfl, ?_⟩) ?_ ?_
          rotate_left
          · intro w'
            go_simp
            with_reducible rfl
          rotate_left
          · simp only [Act.put, List.setIfInBounds_toArray, List.set_cons_zero, List.set_cons_succ, i64_w, i32_w]
            rfl
          refine pure_ (i := 10) (N := some 21) (v := ?_) (a' := ?_) (bb 17 1301) rfl rfl (any_of HT_.out (by kernel_rfl)) (fun _ _ _ h => h) (Or.inl ⟨by rfl, ?_⟩) ?_ ?_
          rotate_left
          · intro w'
            go_simp
            with_reducible rfl
          rotate_left
          · simp only [Act.put, List.setIfInBounds_toArray, List.set_cons_zero, List.set_cons_succ, i64_w, i32_w]
            rfl
          refine take_ (i := 1) (N := some 12) (v := ?_) (a' := ?_) (bb 17 1303) rfl rfl (take_ofW HT_.out HW_.out (by kernel_rfl)) (fun _ _ _ h => h) (Or.inl ⟨by rfl, ?_⟩) hHeld ?_ ?_
          rotate_left
          · rintro w' ⟨s0, s1, s2, s3, s4, s5, s6, s7, s8, s9⟩
            go_simp
            with_reducible rfl
          rotate_left
          · simp only [Act.put, List.setIfInBounds_toArray, List.set_cons_zero, List.set_cons_succ, i64_w, i32_w]
            rfl
          refine take_ (i := 3) (N := some 14) (v := ?_) (a' := ?_) (bb 17 1311) rfl rfl (take_ofW HT_.out HW_.out (by kernel_rfl)) (fun _ _ _ h => h) (Or.inl ⟨by rfl, ?_⟩) hHeld ?_ ?_
          rotate_left
          · rintro w' ⟨s0, s1, s2, s3, s4, s5, s6, s7, s8, s9⟩
            go_simp
            with_reducible rfl
          rotate_left
          · simp only [Act.put, List.setIfInBounds_toArray, List.set_cons_zero, List.set_cons_succ, i64_w, i32_w]
            rfl
          refine pure_ (i := 5) (N := some 16) (v := ?_) (a' := ?_) (bb 17 1343) rfl rfl (any_of HT_.out (by kernel_rfl)) (fun _ _ _ h => h) (Or.inl ⟨by rfl, ?_⟩) ?_ ?_
          rotate_left
          · intro w'
            go_simp
            with_reducible rfl
          rotate_left
          · simp only [Act.put, List.setIfInBounds_toArray, List.set_cons_zero, List.set_cons_succ, i64_w, i32_w]
            rfl
          refine pure_ (i := 6) (N := some 17) (v := ?_) (a' := ?_) (bb 17 1407) rfl rfl (any_of HT_.out (by kernel_rfl)) (fun _ _ _ h => h) (Or.inl ⟨by rfl, ?_⟩) ?_ ?_
          rotate_left
          · intro w'
            go_simp
            with_reducible rfl
          rotate_left
          · simp only [Act.put, List.setIfInBounds_toArray, List.set_cons_zero, List.set_cons_succ, i64_w, i32_w]
            rfl
          refine take_ (i := 7) (N := some 18) (v := ?_) (a' := ?_) (bb 17 1535) rfl rfl (take_ofW HT_.out HW_.out (by kernel_rfl)) (fun _ _ _ h => h) (Or.inl ⟨by rfl, ?_⟩) hHeld ?_ ?_
          rotate_left
          · rintro w' ⟨s0, s1, s2, s3, s4, s5, s6, s7, s8, s9⟩
            go_simp
            with_reducible rfl
          rotate_left
          · simp only [Act.put, List.setIfInBounds_toArray, List.set_cons_zero, List.set_cons_succ, i64_w, i32_w]
            rfl
          refine take_ (i := 9) (N := some 20) (v := ?_) (a' := ?_) (bb 17 2047) rfl rfl (take_ofW HT_.out HW_.out (by kernel_rfl)) (fun _ _ _ h => h) (Or.inl ⟨by rfl, ?_⟩) hHeld ?_ ?_
          rotate_left
          · rintro w' ⟨s0, s1, s2, s3, s4, s5, s6, s7, s8, s9⟩
            go_simp
            with_reducible rfl
          rotate_left
          · simp only [Act.put, List.setIfInBounds_toArray, List.set_cons_zero, List.set_cons_succ, i64_w, i32_w]
            rfl
          refine pure_ (i := 11) (N := some 22) (v := ?_) (a' := ?_) (bb 17 4095) rfl rfl (any_of HT_.out (by kernel_rfl)) (fun _ _ _ h => h) (Or.inl ⟨by rfl, ?_⟩) ?_ ?_
          rotate_left
          · intro w'
            go_simp
            with_reducible rfl
          rotate_left
          · simp only [Act.put, List.setIfInBounds_toArray, List.set_cons_zero, List.set_cons_succ, i64_w, i32_w]
            rfl
          refine pure_ (i := 12) (N := some 23) (v := ?_) (a' := ?_) (bb 17 8191) rfl rfl (any_of HT_.out (by kernel_rfl)) (fun _ _ _ h => h) (Or.inl ⟨by rfl, ?_⟩) ?_ ?_
          rotate_left
          · intro w'
            go_simp
            with_reducible rfl
          rotate_left
          · simp only [Act.put, List.setIfInBounds_toArray, List.set_cons_zero, List.set_cons_succ, i64_w, i32_w]
            rfl
          refine take_ (i := 13) (N := some 24) (v := ?_) (a' := ?_) (bb 17 16383) rfl rfl (take_ofW HT_.out HW_.out (by kernel_rfl)) (fun _ _ _ h => h) (Or.inl ⟨by rfl, ?_⟩) hHeld ?_ ?_
          rotate_left
          · rintro w' ⟨s0, s1, s2, s3, s4, s5, s6, s7, s8, s9⟩
            go_simp
            with_reducible rfl
          rotate_left
          · simp only [Act.put, List.setIfInBounds_toArray, List.set_cons_zero, List.set_cons_succ, i64_w, i32_w]
            rfl
          refine one_ (i := 14) (N := some 25) (bb 17 32767) rfl rfl (one_of HT_.out (by kernel_rfl)) (by decide) (fun K hK => ?_)
          refine goes_ Tryd.func48 (by kernel_rfl) rfl #[.slice Ao10 x142001_1.length co10, .int .i64 ((rd_T106 l0_2 x3_1).f0), .slice A143_1 ((rd_T106 l0_2 x3_1).f1).length c143_1] (by rfl) rfl rfl (by (try simp only [List.map_toArray, List.map_cons, List.map_nil]); first | done | rfl | (simp only [List.length_drop, List.length_take]; rfl)) ?_
          with_reducible refine (kilnref3_put.calls k1 (fun k_ => (((P0_1_ k_ ∨ P0_2_ k_) ∨ w.heap.size ≤ k_) ∧ (k_ ≠ gb141 ∧ k_ ≠ gb142))) _ _ x142001_1 ((rd_T106 l0_2 x3_1).f0) (fun k_ => (((P0_1_ k_ ∨ P0_2_ k_) ∨ w.heap.size ≤ k_) ∧ (k_ ≠ gb141 ∧ k_ ≠ gb142))) _ _ ((rd_T106 l0_2 x3_1).f1) t145 _ ?side1 ?side2 A6.out).mono ?_
          (case side1 => exact HO_142001.out)
          (case side2 => exact HL144_1.out)
          rintro e w11 ⟨v146, rfl, ho0, hb⟩
          have HS6_ := (hb.cell (World.block_lt_of_cell? _ _ (hHeld.2.2.2.2.2.2.1))).trans (hHeld.2.2.2.2.2.2.1)
          have HS7_ := (hb.cell (World.block_lt_of_cell? _ _ (hHeld.2.2.2.2.2.2.2.1))).trans (hHeld.2.2.2.2.2.2.2.1)
          have HS8_ := (hb.cell (World.block_lt_of_cell? _ _ (hHeld.2.2.2.2.2.2.2.2.1))).trans (hHeld.2.2.2.2.2.2.2.2.1)
          have HS9_ := (hb.cell (World.block_lt_of_cell? _ _ (hHeld.2.2.2.2.2.2.2.2.2))).trans (hHeld.2.2.2.2.2.2.2.2.2)
          refine ⟨_, rfl, ?_⟩
          have n0_ := Aside0.mk (Kd.V_elder' (by (with_reducible repeat (first | apply Kd.V_alloc | apply Kd.V_drewN | apply Kd.V_drew)); exact HO_142001.out) (Kd.N_base ho0) hb)
          have n1_ := Aside0.mk (Kd.V_elder' (by (with_reducible repeat (first | apply Kd.V_alloc | apply Kd.V_drewN | apply Kd.V_drew)); exact HO_142002.out) (Kd.N_base ho0) hb)
          have n2_ := Aside0.mk (Kd.V_elder' (by (with_reducible repeat (first | apply Kd.V_alloc | apply Kd.V_drewN | apply Kd.V_drew)); exact HL143_1.out) (Kd.N_base ho0) hb)
          have n3_ := Aside0.mk (Kd.V_elder' (by (with_reducible repeat (first | apply Kd.V_alloc | apply Kd.V_drewN | apply Kd.V_drew)); exact HL144_1.out) (Kd.N_base ho0) hb)
          have n4_ := Aside0.mk (Kd.N_lower (Kd.N_mono (ok' := fun k_ => ((P0_1_ k_ ∨ P0_2_ k_) ∨ w.heap.size ≤ k_) ∧ k_ ≠ gb141 ∧ k_ ≠ gb142) ho0 (fun k_ hk_ => ⟨Or.elim hk_ (fun hs_ => Or.elim hs_ (fun hs_ => hs_.1) (fun hs_ => hs_.1)) (fun hn_ => (.inr (Nat.le_trans (below_size (by repeat (first | (with_reducible first | exact HB.out | apply below_alloc | apply pw_below_drewN | apply below_drew1 | refine below_set ?_ GE141.out | refine below_set ?_ GE142.out) | exact HB.out))) hn_))), Or.elim hk_ (fun hs_ => Or.elim hs_ (fun hs_ => hs_.2.1) (fun hs_ => hs_.2.1)) (fun hn_ => (Kd.freshB (g := gb141) (o := .cells #[.int .i64 a0_0, .slice Ao10 x142001_1.length co10, .slice (some ad143) l0_2.length c0_2, .int .i64 a0_3, .int .i64 a0_4, .int .i64 a0_5] 43 (0, 0)) (by (with_reducible repeat (first | refine blk_drewN ?_ _ | refine blk_drew ?_ | refine blk_alloc ?_ _)); exact BK141.out) k_ hn_)), Or.elim hk_ (fun hs_ => Or.elim hs_ (fun hs_ => hs_.2.2) (fun hs_ => hs_.2.2)) (fun hn_ => (Kd.freshB (g := gb142) (o := .cells #[.int .i64 0, .slice none 0 0, .slice none 0 0, .int .i64 0, .int .i64 0, .int .i64 0] 43 (0, 0)) (by (with_reducible repeat (first | refine blk_drewN ?_ _ | refine blk_drew ?_ | refine blk_alloc ?_ _)); exact BK142.out) k_ hn_))⟩)) (below_size (by repeat (first | (with_reducible first | exact HB.out | apply below_alloc | apply pw_below_drewN | apply below_drew1 | refine below_set ?_ GE141.out | refine below_set ?_ GE142.out) | exact HB.out))))
          have n5_ := Aside0.mk (blk_below (g := gb141) (o := .cells #[.int .i64 a0_0, .slice Ao10 x142001_1.length co10, .slice (some ad143) l0_2.length c0_2, .int .i64 a0_3, .int .i64 a0_4, .int .i64 a0_5] 43 (0, 0)) (by (with_reducible repeat (first | refine blk_drewN ?_ _ | refine blk_drew ?_ | refine blk_alloc ?_ _)); exact BK141.out) hb)
          have n6_ := Aside0.mk (blk_below (g := gb142) (o := .cells #[.int .i64 0, .slice none 0 0, .slice none 0 0, .int .i64 0, .int .i64 0, .int .i64 0] 43 (0, 0)) (by (with_reducible repeat (first | refine blk_drewN ?_ _ | refine blk_drew ?_ | refine blk_alloc ?_ _)); exact BK142.out) hb)
          have n7_ := Aside0.mk (Kd.C_below (by repeat (first | (with_reducible exact HR143_1.out) | (with_reducible refine Kd.C_alloc ?_ _) | (with_reducible refine Kd.C_drewN ?_ _) | (with_reducible refine Kd.C_drew ?_) | exact HR143_1.out)) hb)
          have n8_ := Aside0.mk (Kd.C_below (by repeat (first | (with_reducible exact HR144_1.out) | (with_reducible refine Kd.C_alloc ?_ _) | (with_reducible refine Kd.C_drewN ?_ _) | (with_reducible refine Kd.C_drew ?_) | exact HR144_1.out)) hb)
          have n9_ := Aside0.mk (below_step (by repeat (first | (with_reducible first | exact HB.out | apply below_alloc | apply pw_below_drewN | apply below_drew1 | refine below_set ?_ GE141.out | refine below_set ?_ GE142.out) | exact HB.out)) hb)
          clear HO_142001
          clear HO_142002
          clear HL143_1
          clear HL144_1
          clear BK141
          clear BK142
          clear HR143_1
          clear HR144_1
          clear HB
          have HO_142001 := n0_
          have HO_142002 := n1_
          have HL143_1 := n2_
          have HL144_1 := n3_
          have HO147 := n4_
          have BK141 := n5_
          have BK142 := n6_
          have HR143_1 := n7_
          have HR144_1 := n8_
          have HB := n9_
          clear n0_ n1_ n2_ n3_ n4_ n5_ n6_ n7_ n8_ n9_
          (try clear hb)
          (try clear hb2)
          (try clear hk)
          (try clear hi)
          (try clear ho0)
          obtain ⟨Ao12, co12, eo12⟩ := Kd.N_slice HO147.out
          (first | subst eo12 | (injection eo12 with f1_ f2_ f3_; have f4_ := f1_.symm; have f5_ := f3_.symm; clear f1_ f2_ f3_; subst f4_; subst f5_))
          refine hK.out _ _ ⟨(blk_cell BK141.out 0).trans rfl, (blk_cell BK141.out 1).trans rfl, (blk_cell BK141.out 2).trans rfl, (blk_cell BK141.out 3).trans rfl, (blk_cell BK141.out 4).trans rfl, (blk_cell BK141.out 5).trans rfl, HS6_, HS7_, HS8_, HS9_⟩ (fun hHeld => ?_)
          clear hK K
          refine norm_ (a' := ?_) ?_ ?_
          rotate_left
          · show Act.put _ (some 25) _ = _
            simp only [Act.put, List.setIfInBounds_toArray, List.set_cons_zero, List.set_cons_succ, i64_w, i32_w]
            rfl
          refine pure_ (i := 15) (N := some 26) (v := ?_) (a' := ?_) (bb 17 65535) rfl rfl (any_of HT_.out (by kernel_rfl)) (fun _ _ _ h => h) (Or.inl ⟨by rfl, ?_⟩) ?_ ?_
          rotate_left
          · intro w'
            go_simp
            with_reducible rfl
          rotate_left
          · simp only [Act.put, List.setIfInBounds_toArray, List.set_cons_zero, List.set_cons_succ, i64_w, i32_w]
            rfl
          refine last_ (i := 16) (N := none) (bb 17 131071) rfl rfl (one_of HT_.out (by kernel_rfl)) (by decide) (fun K hK => ?_)
          have hs13 : w11.cell? ⟨gb141, 1, none⟩ = some (.slice Ao10 x142001_1.length co10) := (blk_cell BK141.out 1).trans rfl
          have hfs13 := blk_frozen BK141.out 1
          have hns13_1 := NB142_141.out
          have hms13_1 := NB141_142.out
          refine skip_ (w1 := ?_) (by rfl) rfl ?_ ?_
          rotate_left
          · go_simp
            rfl
          refine hK.out _ _ ?_
          clear hK K
          refine done_ (done_of HT_.out (by kernel_rfl)) ?_
          try go_wp2
          go_roundg k1
          case measure => have := HK1.out; omega
          case rel => exact ⟨(wrap64 (x3_1 + 1)), (t145), (.slice Ao12 t145.length co12), (by first | rfl | (simp; done) | (simp [*]; done)), H', ⟨by have := HK1.out; omega⟩, ⟨Kd.N_V (by (with_reducible repeat (first | apply Kd.N_alloc | apply Kd.N_drewN | apply Kd.N_drew)); exact Kd.N_mono (Kd.N_far (p := ⟨gb141, 1, none⟩) (Kd.N_mono HO147.out (fun k_ hk => (⟨hk, hk.2.1⟩ : _ ∧ k_ ≠ gb141))) (fun _ hk => hk.2) (.slice Ao12 t145.length co12)) (fun _ hk => ⟨hk.1.1, ⟨hk.1.2.1, hk.1.2.2⟩⟩))⟩, ⟨by (with_reducible repeat (first | apply Kd.V_alloc | apply Kd.V_drewN | apply Kd.V_drew)); exact Kd.V_mono (Kd.V_far (p := ⟨gb141, 1, none⟩) (Kd.V_mono HO_142002.out (fun k_ hk => (⟨hk, hk.1.2.1⟩ : _ ∧ k_ ≠ gb141))) (fun _ hk => hk.2) (.slice Ao12 t145.length co12)) (fun _ hk => ⟨hk.1.1.1, ⟨hk.1.1.2.1, hk.1.1.2.2⟩⟩)⟩, ⟨by (with_reducible repeat (first | refine blk_drewN ?_ _ | refine blk_drew ?_ | refine blk_alloc ?_ _)); refine blk_put (cs := #[.int .i64 a0_0, .slice Ao10 x142001_1.length co10, .slice (some ad143) l0_2.length c0_2, .int .i64 a0_3, .int .i64 a0_4, .int .i64 a0_5]) ?_ 1 _ rfl; (with_reducible repeat (first | refine blk_drewN ?_ _ | refine blk_drew ?_ | refine blk_alloc ?_ _)); exact BK141.out⟩, ⟨by (with_reducible repeat (first | refine blk_drewN ?_ _ | refine blk_drew ?_ | refine blk_alloc ?_ _)); refine blk_far ?_ NB142_141.out _; (with_reducible repeat (first | refine blk_drewN ?_ _ | refine blk_drew ?_ | refine blk_alloc ?_ _)); exact BK142.out⟩, ⟨by repeat (first | (with_reducible first | exact HB.out | apply below_alloc | apply pw_below_drewN | apply below_drew1 | refine below_set ?_ GE141.out | refine below_set ?_ GE142.out) | exact HB.out)⟩⟩
        · rw [if_neg c5] at H
          exact absurd H (by simp)
      · rw [if_neg c4] at H
        have c4b0 : decide (x3_1 < (l0_2.length : Int)) = false := decide_eq_false c4
        clear c4
        simp only [Option.some.injEq, Prod.mk.injEq] at H
        obtain ⟨rfl, rfl, rfl, rfl, rfl, rfl⟩ := H
        have hnb14 := NB141_142.out
        have hnc14 := NB142_141.out
        have hcz15_0 : wr.cell? ⟨gb141, 0, none⟩ = some (.int .i64 a0_0) := (blk_cell BK141.out 0).trans rfl
        have hcz15_1 : wr.cell? ⟨gb141, 1, none⟩ = some (u142001) := (blk_cell BK141.out 1).trans rfl
        have hcz15_2 : wr.cell? ⟨gb141, 2, none⟩ = some (.slice A0_2 l0_2.length c0_2) := (blk_cell BK141.out 2).trans rfl
        have hcz15_3 : wr.cell? ⟨gb141, 3, none⟩ = some (.int .i64 a0_3) := (blk_cell BK141.out 3).trans rfl
        have hcz15_4 : wr.cell? ⟨gb141, 4, none⟩ = some (.int .i64 a0_4) := (blk_cell BK141.out 4).trans rfl
        have hcz15_5 : wr.cell? ⟨gb141, 5, none⟩ = some (.int .i64 a0_5) := (blk_cell BK141.out 5).trans rfl
        have hfz15_0 := blk_frozen BK141.out 0
        have hfz15_1 := blk_frozen BK141.out 1
        have hfz15_2 := blk_frozen BK141.out 2
        have hfz15_3 := blk_frozen BK141.out 3
        have hfz15_4 := blk_frozen BK141.out 4
        have hfz15_5 := blk_frozen BK141.out 5
        have hcz16_0 : wr.cell? ⟨gb142, 0, none⟩ = some (.int .i64 0) := (blk_cell BK142.out 0).trans rfl
        have hcz16_1 : wr.cell? ⟨gb142, 1, none⟩ = some (.slice none 0 0) := (blk_cell BK142.out 1).trans rfl
        have hcz16_2 : wr.cell? ⟨gb142, 2, none⟩ = some (.slice none 0 0) := (blk_cell BK142.out 2).trans rfl
        have hcz16_3 : wr.cell? ⟨gb142, 3, none⟩ = some (.int .i64 0) := (blk_cell BK142.out 3).trans rfl
        have hcz16_4 : wr.cell? ⟨gb142, 4, none⟩ = some (.int .i64 0) := (blk_cell BK142.out 4).trans rfl
        have hcz16_5 : wr.cell? ⟨gb142, 5, none⟩ = some (.int .i64 0) := (blk_cell BK142.out 5).trans rfl
        have hfz16_0 := blk_frozen BK142.out 0
        have hfz16_1 := blk_frozen BK142.out 1
        have hfz16_2 := blk_frozen BK142.out 2
        have hfz16_3 := blk_frozen BK142.out 3
        have hfz16_4 := blk_frozen BK142.out 4
        have hfz16_5 := blk_frozen BK142.out 5
        obtain ⟨Ao17, co17, eo17⟩ := Kd.V_slice HO_142001.out
        subst eo17
        go_wp2
        refine bodyPost_ret (results_cell_row rfl _ _ gb142 43 #[.int .i64 a0_0, .slice Ao17 x142001_1.length co17, .slice none 0 0, .int .i64 a0_3, .int .i64 a0_4, .int .i64 (wrap64 (a0_5 + 1))] (0, 0) _ rfl (by (with_reducible repeat (first | refine blk_drewN ?_ _ | refine blk_drew ?_ | refine blk_alloc ?_ _)); refine blk_put (cs := #[.int .i64 a0_0, .slice Ao17 x142001_1.length co17, .slice none 0 0, .int .i64 a0_3, .int .i64 a0_4, .int .i64 0]) ?_ 5 _ rfl; (with_reducible repeat (first | refine blk_drewN ?_ _ | refine blk_drew ?_ | refine blk_alloc ?_ _)); refine blk_put (cs := #[.int .i64 a0_0, .slice Ao17 x142001_1.length co17, .slice none 0 0, .int .i64 a0_3, .int .i64 0, .int .i64 0]) ?_ 4 _ rfl; (with_reducible repeat (first | refine blk_drewN ?_ _ | refine blk_drew ?_ | refine blk_alloc ?_ _)); refine blk_put (cs := #[.int .i64 a0_0, .slice Ao17 x142001_1.length co17, .slice none 0 0, .int .i64 0, .int .i64 0, .int .i64 0]) ?_ 3 _ rfl; (with_reducible repeat (first | refine blk_drewN ?_ _ | refine blk_drew ?_ | refine blk_alloc ?_ _)); refine blk_put (cs := #[.int .i64 a0_0, .slice Ao17 x142001_1.length co17, .slice none 0 0, .int .i64 0, .int .i64 0, .int .i64 0]) ?_ 2 _ rfl; (with_reducible repeat (first | refine blk_drewN ?_ _ | refine blk_drew ?_ | refine blk_alloc ?_ _)); refine blk_put (cs := #[.int .i64 a0_0, .slice none 0 0, .slice none 0 0, .int .i64 0, .int .i64 0, .int .i64 0]) ?_ 1 _ rfl; (with_reducible repeat (first | refine blk_drewN ?_ _ | refine blk_drew ?_ | refine blk_alloc ?_ _)); refine blk_put (cs := #[.int .i64 0, .slice none 0 0, .slice none 0 0, .int .i64 0, .int .i64 0, .int .i64 0]) ?_ 0 _ rfl; (with_reducible repeat (first | refine blk_drewN ?_ _ | refine blk_drew ?_ | refine blk_alloc ?_ _)); refine blk_far ?_ NB142_141.out _; (with_reducible repeat (first | refine blk_drewN ?_ _ | refine blk_drew ?_ | refine blk_alloc ?_ _)); refine blk_far ?_ NB142_141.out _; (with_reducible repeat (first | refine blk_drewN ?_ _ | refine blk_drew ?_ | refine blk_alloc ?_ _)); exact BK142.out) Tryd.underlying43 rfl (by kernel_rfl)) rfl ?_
        exact ⟨_, _, by first | rfl | (simp [errW_none, errW_some] <;> rfl) | (simp [*, errW_none, errW_some] <;> rfl), by (with_reducible repeat (first | apply Kd.V_alloc | apply Kd.V_drewN | apply Kd.V_drew)); exact Kd.V_mono (Kd.V_far (p := ⟨gb142, 5, none⟩) (Kd.V_far (p := ⟨gb142, 4, none⟩) (Kd.V_far (p := ⟨gb142, 3, none⟩) (Kd.V_far (p := ⟨gb142, 2, none⟩) (Kd.V_far (p := ⟨gb142, 1, none⟩) (Kd.V_far (p := ⟨gb142, 0, none⟩) (Kd.V_far (p := ⟨gb141, 5, none⟩) (Kd.V_far (p := ⟨gb141, 2, none⟩) (Kd.V_mono (Kd.V_mono HO_142001.out (fun k_ hk => (⟨hk, hk.2.1⟩ : _ ∧ k_ ≠ gb141))) (fun k_ hk => (⟨hk, hk.1.2.2⟩ : _ ∧ k_ ≠ gb142))) (fun _ hk => hk.1.2) (.slice none 0 0)) (fun _ hk => hk.1.2) (.int .i64 (wrap64 (a0_5 + 1)))) (fun _ hk => hk.2) (.int .i64 a0_0)) (fun _ hk => hk.2) (.slice Ao17 x142001_1.length co17)) (fun _ hk => hk.2) (.slice none 0 0)) (fun _ hk => hk.2) (.int .i64 a0_3)) (fun _ hk => hk.2) (.int .i64 a0_4)) (fun _ hk => hk.2) (.int .i64 (wrap64 (a0_5 + 1)))) (fun _ hk => ⟨hk.1.1.1, (by simp [Value.ownBlock])⟩), by first | exact Kd.S_nil _ _ _ _ _ | exact Kd.N_nil _ _ _ _ _ | exact Kd.V_nil _ _ _ _ _ | exact Kd.Q_nil _ _ _ _ _ | exact Kd.R_nil _ _ _ _ _, by repeat (first | (with_reducible first | exact HB.out | apply below_alloc | apply pw_below_drewN | apply below_drew1 | refine below_set ?_ GE141.out | refine below_set ?_ GE142.out) | exact HB.out)⟩
def kilnref3_Zeros.f  : Option (List Int) := if 512 ≤ 281474976710656 then (some (List.replicate 512 0)) else (none)
set_option maxHeartbeats 8000000 in
set_option maxRecDepth 100000 in
theorem kilnref3_Zeros.calls  (r : List Int) (w : World) (h : kilnref3_Zeros.f  = some r) :
    Calls Tryd.prog 50 #[] w fun e w' => ∃ v0_ : Value, e = .returned (v0_) ∧ Kd.R (Kd.int .u8) 5 w' w.heap.size (fun _ => True) v0_ r ∧ Below w.heap.size w w' := by
  have HB := Aside0.mk (Below.refl w.heap.size w)
  have H : (if 512 ≤ 281474976710656 then (some (List.replicate 512 0)) else (none)) = some r := h
  clear h
  by_cases c1 : 512 ≤ 281474976710656
  · rw [if_pos c1] at H
    have c1b0 := eq_true c1
    have c1b1 : decide (512 ≤ 281474976710656) = true := decide_eq_true c1
    clear c1
    obtain ⟨y150, hy150⟩ : ∃ y_ : List Int, y_ = (List.replicate 512 0) := ⟨_, rfl⟩
    replace H : (some y150) = some r := by first | (rw [hy150]; with_reducible exact H) | (have H2_ := (Option.bind_some _ _).symm.trans H; rw [hy150]; with_reducible exact H2_) | (have H2_ := (Option.bind_some _ _).symm.trans H; with_reducible exact H2_) | with_reducible exact H | (rw [hy150]; exact H) | exact H
    have Ny150 := Aside0.mk hy150
    clear hy150
    obtain rfl := Option.some.inj H
    go_enter Tryd.func50, Tryd.ntmps50
    go_wp2_with (first | ((with_reducible refine gate_dst (N := 1) rfl ?_); refine Kd.R_make (Kd.int .u8) _ 5 rfl (N := 1) rfl 28 _ _ rfl 512 rfl rfl Tryd.underlying28 (.int .u8 0) 1 info5 rfl (by decide) (by omega) 0 (ok := fun _ => True) (okp := fun _ => True) rfl (fun _ hk => hk) trivial (by omega) (by omega) (Below.refl _ _) (Nat.le_refl _) ?_; intro v151 w2 ho3 hb hg_ hnew_; clear hg_ hnew_; (first | rw [← Ny150.out] at ho3 | (simp only [Int.reduceToNat] at ho3; rw [← Ny150.out] at ho3)); have n0_ := Aside0.mk (Kd.R_lower ho3 (below_size (by repeat (first | (with_reducible first | exact HB.out | apply below_alloc | apply pw_below_drewN | apply below_drew1) | exact HB.out)))); have n1_ := Aside0.mk (below_step (by repeat (first | (with_reducible first | exact HB.out | apply below_alloc | apply pw_below_drewN | apply below_drew1) | exact HB.out)) hb); clear HB; have HO152 := n0_; have HB := n1_; clear n0_ n1_; clear hb ho3))
    go_ret
    exact ⟨_, by first | rfl | (simp [errW_none, errW_some] <;> rfl) | (simp [*, errW_none, errW_some] <;> rfl), by (with_reducible repeat (first | apply Kd.R_alloc | apply Kd.R_drewN | apply Kd.R_drew)); exact HO152.out, by repeat (first | (with_reducible first | exact HB.out | apply below_alloc | apply pw_below_drewN | apply below_drew1) | exact HB.out)⟩
  · rw [if_neg c1] at H
    exact absurd H (by simp)
def kilnref3_lasts.l0 : Nat → Int → Int → Int → List (S106) → List (S106) → Int → Int → Int → Option (List Int)
  | 0, _, _, _, _, _, _, _, _ => none
  | k + 1, x1, x5, x173000, x173001, x173002, x173003, x173004, x173005 => if x5 ≥ 0 then (if 0 ≤ x5 then (if x5 < (x173001.length : Int) then (if ((rd_T106 x173001 x5).f0) = x1 then (some ((rd_T106 x173001 x5).f1)) else (kilnref3_lasts.l0 k x1 (wrap64 (x5 - 1)) x173000 x173001 x173002 x173003 x173004 x173005)) else (none)) else (none)) else ((kilnref3_Zeros.f).bind fun t175 => (some t175))
def kilnref3_lasts.f (k : Nat) (a0_0 : Int) (l0_1 : List (S106)) (l0_2 : List (S106)) (a0_3 : Int) (a0_4 : Int) (a0_5 : Int) (a1 : Int) : Option (List Int) := kilnref3_lasts.l0 k a1 (wrap64 ((l0_1.length : Int) - 1)) a0_0 l0_1 l0_2 a0_3 a0_4 a0_5
theorem kilnref3_lasts.mono_l : ∀ k, (∀ y0 y1 y2 y3 y4 y5 y6 y7, LeO (kilnref3_lasts.l0 k y0 y1 y2 y3 y4 y5 y6 y7) (kilnref3_lasts.l0 (k + 1) y0 y1 y2 y3 y4 y5 y6 y7))
  | 0 => fun _ _ _ _ _ _ _ _ r h => by simp [kilnref3_lasts.l0] at h
  | k + 1 => by
    have ih0 := kilnref3_lasts.mono_l k
    · intro y0 y1 y2 y3 y4 y5 y6 y7
      unfold kilnref3_lasts.l0
      repeat' first
      | (with_reducible exact ih0 _ _ _ _ _ _ _ _)
      | (with_reducible exact LeO.refl _)
      | (with_reducible exact LeO.none _)
      | (with_reducible refine LeO.ite ?_ ?_)
      | (with_reducible refine LeO.bind ?_ (fun _ => ?_))
      | exact ih0 _ _ _ _ _ _ _ _
      | exact LeO.none _
      | refine LeO.ite ?_ ?_
      | refine LeO.bind ?_ (fun _ => ?_)
theorem kilnref3_lasts.mono : ∀ a0 a1 a2 a3 a4 a5 a6 k, LeO (kilnref3_lasts.f k a0 a1 a2 a3 a4 a5 a6) (kilnref3_lasts.f (k + 1) a0 a1 a2 a3 a4 a5 a6) := by
  intro a0 a1 a2 a3 a4 a5 a6 k
  have ih0 := kilnref3_lasts.mono_l k
  unfold kilnref3_lasts.f
  repeat' first
      | (with_reducible exact ih0 _ _ _ _ _ _ _ _)
      | (with_reducible exact LeO.refl _)
      | (with_reducible exact LeO.none _)
      | (with_reducible refine LeO.ite ?_ ?_)
      | (with_reducible refine LeO.bind ?_ (fun _ => ?_))
      | exact ih0 _ _ _ _ _ _ _ _
      | exact LeO.none _
      | refine LeO.ite ?_ ?_
      | refine LeO.bind ?_ (fun _ => ?_)
set_option maxHeartbeats 8000000 in
set_option maxRecDepth 100000 in
theorem kilnref3_lasts.calls (k : Nat) (a0_0 : Int) (P0_1_ : Nat → Prop) (A0_1 : Option Addr) (c0_1 : Nat) (l0_1 : List (S106)) (A0_2 : Option Addr) (c0_2 : Nat) (l0_2 : List (S106)) (a0_3 : Int) (a0_4 : Int) (a0_5 : Int) (a1 : Int) (r : List Int) (w : World) (hs0_1 : Kd.V k106 106 w w.heap.size (fun k_ => P0_1_ k_) (.slice A0_1 l0_1.length c0_1) l0_1) (hr0_2 : Kd.C k106 w A0_2 l0_2.length l0_2) (hc0_2 : l0_2.length ≤ c0_2) (h : kilnref3_lasts.f k a0_0 l0_1 l0_2 a0_3 a0_4 a0_5 a1 = some r) :
    Calls Tryd.prog 75 #[.agg #[.int .i64 a0_0, .slice A0_1 l0_1.length c0_1, .slice A0_2 l0_2.length c0_2, .int .i64 a0_3, .int .i64 a0_4, .int .i64 a0_5], .int .i64 a1] w fun e w' => ∃ v0_ : Value, e = .returned (v0_) ∧ Kd.V (Kd.int .u8) 5 w' w.heap.size (fun k_ => (P0_1_ k_ ∨ w.heap.size ≤ k_)) v0_ r ∧ Below w.heap.size w w' := by
  have hu43 := Tryd.underlying43
  have HO0_1 := Aside0.mk (show Kd.V k106 106 w w.heap.size (fun k_ => (P0_1_ k_ ∨ w.heap.size ≤ k_)) (.slice A0_1 l0_1.length c0_1) l0_1 from Kd.V_mono hs0_1 (fun k_ hk => .inl hk))
  have HR0_2 := Aside0.mk hr0_2
  have HC0_2 := Aside0.mk hc0_2
  clear hr0_2 hc0_2
  have HB := Aside0.mk (Below.refl w.heap.size w)
  have H : (kilnref3_lasts.l0 k a1 (wrap64 ((l0_1.length : Int) - 1)) a0_0 l0_1 l0_2 a0_3 a0_4 a0_5) = some r := h
  clear h
  have H' := Aside0.mk H
  clear H
  go_enter Tryd.func75, Tryd.ntmps75
  go_wp2_with (first | ((with_reducible refine gate_dst (N := 2) rfl ?_); refine box_event ?hg (N := 2) ?hd (cs := #[.int .i64 a0_0, .slice A0_1 l0_1.length c0_1, .slice A0_2 l0_2.length c0_2, .int .i64 a0_3, .int .i64 a0_4, .int .i64 a0_5]) (t := 43) ?hr ?_; (case hd => rfl); (case hg => rfl); (case hr => first | (go_simp; done) | (go_simp; rfl)); intro gb172 hg w3 hbox hb; have n0_ := Aside0.mk (Kd.V_below (Kd.V_elderB (by (with_reducible repeat (first | apply Kd.V_alloc | apply Kd.V_drewN | apply Kd.V_drew)); exact HO0_1.out) gb172 (Nat.le_of_eq hg.symm)) hb); have n1_ := Aside0.mk (below_step (by repeat (first | (with_reducible first | exact HB.out | apply below_alloc | apply pw_below_drewN | apply below_drew1) | exact HB.out)) hb); have n2_ := Aside0.mk (hbox); have n3_ := Aside0.mk ((by rw [hg]; exact (below_size (by repeat (first | (with_reducible first | exact HB.out | apply below_alloc | apply pw_below_drewN | apply below_drew1) | exact HB.out))) : w.heap.size ≤ gb172)); have n4_ := Aside0.mk ((by rw [hg]; exact (below_size (by repeat (first | (with_reducible first | exact HB.out | apply below_alloc | apply pw_below_drewN | apply below_drew1) | exact HB.out))) : w.heap.size ≤ gb172)); clear HO0_1; clear HB; have HO0_1 := n0_; have HB := n1_; have BK172 := n2_; have GW172 := n3_; have GE172 := n4_; clear n0_ n1_ n2_ n3_ n4_; clear hb hbox hg; have hcz4_0 : w3.cell? ⟨gb172, 0, none⟩ = some (.int .i64 a0_0) := (blk_cell BK172.out 0).trans rfl; have hcz4_1 : w3.cell? ⟨gb172, 1, none⟩ = some (.slice A0_1 l0_1.length c0_1) := (blk_cell BK172.out 1).trans rfl; have hcz4_2 : w3.cell? ⟨gb172, 2, none⟩ = some (.slice A0_2 l0_2.length c0_2) := (blk_cell BK172.out 2).trans rfl; have hcz4_3 : w3.cell? ⟨gb172, 3, none⟩ = some (.int .i64 a0_3) := (blk_cell BK172.out 3).trans rfl; have hcz4_4 : w3.cell? ⟨gb172, 4, none⟩ = some (.int .i64 a0_4) := (blk_cell BK172.out 4).trans rfl; have hcz4_5 : w3.cell? ⟨gb172, 5, none⟩ = some (.int .i64 a0_5) := (blk_cell BK172.out 5).trans rfl; have hfz4_0 := blk_frozen BK172.out 0; have hfz4_1 := blk_frozen BK172.out 1; have hfz4_2 := blk_frozen BK172.out 2; have hfz4_3 := blk_frozen BK172.out 3; have hfz4_4 := blk_frozen BK172.out 4; have hfz4_5 := blk_frozen BK172.out 5))
  go_loopg [5] k (fun kq v5 w' => ∃ (x5_1 : Int), v5 = .int .i64 x5_1 ∧ Aside0 (kilnref3_lasts.l0 kq a1 x5_1 a0_0 l0_1 l0_2 a0_3 a0_4 a0_5 = some r) ∧ Aside0 (kq ≤ k) ∧ Aside0 (Kd.V k106 106 w' w.heap.size (fun k_ => (P0_1_ k_ ∨ w.heap.size ≤ k_) ∧ k_ ≠ gb172) (.slice A0_1 l0_1.length c0_1) l0_1) ∧ Aside0 (w'.heap[gb172]? = some (.cells #[.int .i64 a0_0, (.slice A0_1 l0_1.length c0_1), (.slice A0_2 l0_2.length c0_2), .int .i64 a0_3, .int .i64 a0_4, .int .i64 a0_5] 43 (0, 0))) ∧ Aside0 (Below w.heap.size w w'))
  case atStart => exact ⟨(wrap64 ((l0_1.length : Int) - 1)), (by first | rfl | (simp; done) | (simp [*]; done)), H', ⟨Nat.le_refl _⟩, ⟨by (with_reducible repeat (first | apply Kd.V_alloc | apply Kd.V_drewN | apply Kd.V_drew)); exact HO0_1.out⟩, ⟨by (with_reducible repeat (first | refine blk_drewN ?_ _ | refine blk_drew ?_ | refine blk_alloc ?_ _)); exact BK172.out⟩, ⟨by repeat (first | (with_reducible first | exact HB.out | apply below_alloc | apply pw_below_drewN | apply below_drew1 | refine below_set ?_ GE172.out) | exact HB.out)⟩⟩
  case round =>
    clear H'
    try clear p2
    try clear hcz4_0
    try clear hcz4_1
    try clear hcz4_2
    try clear hcz4_3
    try clear hcz4_4
    try clear hcz4_5
    try clear hfz4_0
    try clear hfz4_1
    try clear hfz4_2
    try clear hfz4_3
    try clear hfz4_4
    try clear hfz4_5
    obtain ⟨x5_1, rfl, HA, HK1, HO_173001, BK172, HB⟩ := hrel
    cases gk with
    | zero => exact absurd HA.out (by simp [kilnref3_lasts.l0])
    | succ k1 =>
      have H := HA.out
      clear HA
      simp only [kilnref3_lasts.l0] at H
      by_cases c5 : x5_1 ≥ 0
      · rw [if_pos c5] at H
        have c5b0 : decide (0 ≤ x5_1) = true := decide_eq_true c5
        clear c5
        by_cases c6 : 0 ≤ x5_1
        · rw [if_pos c6] at H
          have c6b0 : decide (0 ≤ x5_1) = true := decide_eq_true c6
          clear c6
          by_cases c7 : x5_1 < (l0_1.length : Int)
          · rw [if_pos c7] at H
            have c7b0 : decide (x5_1 < (l0_1.length : Int)) = true := decide_eq_true c7
            clear c7
            by_cases c8 : ((rd_T106 l0_1 x5_1).f0) = a1
            · rw [if_pos c8] at H
              have c8b0 : (((rd_T106 l0_1 x5_1).f0) == a1) = true := beq_iff_eq.mpr c8
              have c8b1 : (((rd_T106 l0_1 x5_1).f0) != a1) = false := bne_eq_false_iff_eq.mpr c8
              clear c8
              obtain rfl := Option.some.inj H
              have hcz9_0 : wr.cell? ⟨gb172, 0, none⟩ = some (.int .i64 a0_0) := (blk_cell BK172.out 0).trans rfl
              have hcz9_1 : wr.cell? ⟨gb172, 1, none⟩ = some (.slice A0_1 l0_1.length c0_1) := (blk_cell BK172.out 1).trans rfl
              have hcz9_2 : wr.cell? ⟨gb172, 2, none⟩ = some (.slice A0_2 l0_2.length c0_2) := (blk_cell BK172.out 2).trans rfl
              have hcz9_3 : wr.cell? ⟨gb172, 3, none⟩ = some (.int .i64 a0_3) := (blk_cell BK172.out 3).trans rfl
              have hcz9_4 : wr.cell? ⟨gb172, 4, none⟩ = some (.int .i64 a0_4) := (blk_cell BK172.out 4).trans rfl
              have hcz9_5 : wr.cell? ⟨gb172, 5, none⟩ = some (.int .i64 a0_5) := (blk_cell BK172.out 5).trans rfl
              have hfz9_0 := blk_frozen BK172.out 0
              have hfz9_1 := blk_frozen BK172.out 1
              have hfz9_2 := blk_frozen BK172.out 2
              have hfz9_3 := blk_frozen BK172.out 3
              have hfz9_4 := blk_frozen BK172.out 4
              have hfz9_5 := blk_frozen BK172.out 5
              have p173 : 0 ≤ (x5_1 : Int) := of_decide_eq_true (by first | (with_reducible assumption) | assumption)
              have q173 : x5_1 < (l0_1.length : Int) := of_decide_eq_true (by first | (with_reducible assumption) | assumption)
              obtain ⟨ad173, A173_1, c173_1, e173, hx173_0, hx173_1, hl173_1, hi173_1⟩ := at_T106 (Kd.V_reads' HO_173001.out).2.2 x5_1 p173 q173
              cases e173
              obtain ⟨ce173, hce173, hMe173, hcc173⟩ := Kd.V_get HO_173001.out z106 x5_1 p173 (by first | exact q173 | exact of_decide_eq_true (by first | (with_reducible assumption) | assumption) | (have e_ := (Kd.V_reads' HO_173001.out).1; omega))
              obtain ⟨ua173_1, uc173_1, rfl, ul173_1, ge173_1⟩ := k106_openF hMe173
              have hv173_1 := hcc173 1 _ rfl
              rw [add_field _ _ 1 (by omega)] at hv173_1
              replace hv173_1 := Option.some.inj (hv173_1.symm.trans hx173_1)
              injection hv173_1 with hva_ hvn_ hvc_
              rw [hva_] at ge173_1
              rw [hvc_] at ul173_1
              have HL173_1 := Aside0.mk (show Kd.V (Kd.int .u8) 5 _ w.heap.size _ _ ((rd_T106 l0_1 x5_1).f1) from Kd.V_mk ul173_1 ge173_1)
              clear hva_ hvn_ hvc_ ge173_1 ul173_1
              clear hcc173 hce173
              have HR173_1 := Aside0.mk hi173_1
              have HC173_1 := Aside0.mk hl173_1
              clear hi173_1 hl173_1
              replace p173 := eq_true p173
              replace q173 := eq_true q173
              have p174 : 0 ≤ (x5_1 : Int) := of_decide_eq_true (by first | (with_reducible assumption) | assumption)
              have q174 : x5_1 < (l0_1.length : Int) := of_decide_eq_true (by first | (with_reducible assumption) | assumption)
              obtain ⟨ad174, A174_1, c174_1, e174, hx174_0, hx174_1, hl174_1, hi174_1⟩ := at_T106 (Kd.V_reads' HO_173001.out).2.2 x5_1 p174 q174
              obtain rfl : ad173 = ad174 := (by injection e174)
              obtain ⟨ce174, hce174, hMe174, hcc174⟩ := Kd.V_get HO_173001.out z106 x5_1 p174 (by first | exact q174 | exact of_decide_eq_true (by first | (with_reducible assumption) | assumption) | (have e_ := (Kd.V_reads' HO_173001.out).1; omega))
              obtain ⟨ua174_1, uc174_1, rfl, ul174_1, ge174_1⟩ := k106_openF hMe174
              have hv174_1 := hcc174 1 _ rfl
              rw [add_field _ _ 1 (by omega)] at hv174_1
              replace hv174_1 := Option.some.inj (hv174_1.symm.trans hx174_1)
              injection hv174_1 with hva_ hvn_ hvc_
              rw [hva_] at ge174_1
              rw [hvc_] at ul174_1
              have HL174_1 := Aside0.mk (show Kd.V (Kd.int .u8) 5 _ w.heap.size _ _ ((rd_T106 l0_1 x5_1).f1) from Kd.V_mk ul174_1 ge174_1)
              clear hva_ hvn_ hvc_ ge174_1 ul174_1
              clear hcc174 hce174
              have HR174_1 := Aside0.mk hi174_1
              have HC174_1 := Aside0.mk hl174_1
              clear hi174_1 hl174_1
              replace p174 := eq_true p174
              replace q174 := eq_true q174
              have ea_ := Option.some.inj (hx173_1.symm.trans hx174_1)
              injection ea_ with ea_ en_ ec_
              subst ea_
              subst ec_
              clear en_
              go_wp2
              go_ret
              exact ⟨_, by first | rfl | (simp [errW_none, errW_some] <;> rfl) | (simp [*, errW_none, errW_some] <;> rfl), by (with_reducible repeat (first | apply Kd.V_alloc | apply Kd.V_drewN | apply Kd.V_drew)); exact Kd.V_mono HL174_1.out (fun _ hk => hk.1), by repeat (first | (with_reducible first | exact HB.out | apply below_alloc | apply pw_below_drewN | apply below_drew1 | refine below_set ?_ GE172.out) | exact HB.out)⟩
            · rw [if_neg c8] at H
              have c8b0 : (((rd_T106 l0_1 x5_1).f0) == a1) = false := beq_eq_false_iff_ne.mpr c8
              have c8b1 : (((rd_T106 l0_1 x5_1).f0) != a1) = true := bne_iff_ne.mpr c8
              have H' := Aside0.mk H
              clear H
              have hcz10_0 : wr.cell? ⟨gb172, 0, none⟩ = some (.int .i64 a0_0) := (blk_cell BK172.out 0).trans rfl
              have hcz10_1 : wr.cell? ⟨gb172, 1, none⟩ = some (.slice A0_1 l0_1.length c0_1) := (blk_cell BK172.out 1).trans rfl
              have hcz10_2 : wr.cell? ⟨gb172, 2, none⟩ = some (.slice A0_2 l0_2.length c0_2) := (blk_cell BK172.out 2).trans rfl
              have hcz10_3 : wr.cell? ⟨gb172, 3, none⟩ = some (.int .i64 a0_3) := (blk_cell BK172.out 3).trans rfl
              have hcz10_4 : wr.cell? ⟨gb172, 4, none⟩ = some (.int .i64 a0_4) := (blk_cell BK172.out 4).trans rfl
              have hcz10_5 : wr.cell? ⟨gb172, 5, none⟩ = some (.int .i64 a0_5) := (blk_cell BK172.out 5).trans rfl
              have hfz10_0 := blk_frozen BK172.out 0
              have hfz10_1 := blk_frozen BK172.out 1
              have hfz10_2 := blk_frozen BK172.out 2
              have hfz10_3 := blk_frozen BK172.out 3
              have hfz10_4 := blk_frozen BK172.out 4
              have hfz10_5 := blk_frozen BK172.out 5
              have p173 : 0 ≤ (x5_1 : Int) := of_decide_eq_true (by first | (with_reducible assumption) | assumption)
              have q173 : x5_1 < (l0_1.length : Int) := of_decide_eq_true (by first | (with_reducible assumption) | assumption)
              obtain ⟨ad173, A173_1, c173_1, e173, hx173_0, hx173_1, hl173_1, hi173_1⟩ := at_T106 (Kd.V_reads' HO_173001.out).2.2 x5_1 p173 q173
              cases e173
              obtain ⟨ce173, hce173, hMe173, hcc173⟩ := Kd.V_get HO_173001.out z106 x5_1 p173 (by first | exact q173 | exact of_decide_eq_true (by first | (with_reducible assumption) | assumption) | (have e_ := (Kd.V_reads' HO_173001.out).1; omega))
              obtain ⟨ua173_1, uc173_1, rfl, ul173_1, ge173_1⟩ := k106_openF hMe173
              have hv173_1 := hcc173 1 _ rfl
              rw [add_field _ _ 1 (by omega)] at hv173_1
              replace hv173_1 := Option.some.inj (hv173_1.symm.trans hx173_1)
              injection hv173_1 with hva_ hvn_ hvc_
              rw [hva_] at ge173_1
              rw [hvc_] at ul173_1
              have HL173_1 := Aside0.mk (show Kd.V (Kd.int .u8) 5 _ w.heap.size _ _ ((rd_T106 l0_1 x5_1).f1) from Kd.V_mk ul173_1 ge173_1)
              clear hva_ hvn_ hvc_ ge173_1 ul173_1
              clear hcc173 hce173
              have HR173_1 := Aside0.mk hi173_1
              have HC173_1 := Aside0.mk hl173_1
              clear hi173_1 hl173_1
              replace p173 := eq_true p173
              replace q173 := eq_true q173
              go_wp2
              go_roundg k1
              case measure => have := HK1.out; omega
              case rel => exact ⟨(wrap64 (x5_1 - 1)), (by first | rfl | (simp; done) | (simp [*]; done)), H', ⟨by have := HK1.out; omega⟩, ⟨by (with_reducible repeat (first | apply Kd.V_alloc | apply Kd.V_drewN | apply Kd.V_drew)); exact HO_173001.out⟩, ⟨by (with_reducible repeat (first | refine blk_drewN ?_ _ | refine blk_drew ?_ | refine blk_alloc ?_ _)); exact BK172.out⟩, ⟨by repeat (first | (with_reducible first | exact HB.out | apply below_alloc | apply pw_below_drewN | apply below_drew1 | refine below_set ?_ GE172.out) | exact HB.out)⟩⟩
          · rw [if_neg c7] at H
            exact absurd H (by simp)
        · rw [if_neg c6] at H
          exact absurd H (by simp)
      · rw [if_neg c5] at H
        have c5b0 : decide (0 ≤ x5_1) = false := decide_eq_false c5
        clear c5
        replace H := Option.bind_eq_some_iff.mp H
        obtain ⟨t175, A110, H⟩ := H
        replace H : (some t175) = some r := H
        have A11 := Aside0.mk A110
        clear A110
        obtain rfl := Option.some.inj H
        go_wp2_with (first | ((with_reducible refine gate_callee (f := 50) rfl ?_); refine goesL_ (some 28) rfl rfl Tryd.func50 (by kernel_rfl) rfl #[] rfl (by (try simp only [List.map_toArray, List.map_cons, List.map_nil]); first | done | rfl | (simp only [List.length_drop, List.length_take]; rfl)) ?_; (with_reducible refine (kilnref3_Zeros.calls  t175 _ A11.out).mono ?_); rintro e w12 ⟨v176, rfl, ho0, hb⟩; refine ⟨_, rfl, ?_⟩; have n0_ := Aside0.mk (Kd.V_elder' (by (with_reducible repeat (first | apply Kd.V_alloc | apply Kd.V_drewN | apply Kd.V_drew)); exact HO_173001.out) (Kd.R_base ho0) hb); have n1_ := Aside0.mk (Kd.R_lower (Kd.R_newM (M := fun k_ => (w.heap.size ≤ k_)) ho0 (below_size (by repeat (first | (with_reducible first | exact HB.out | apply below_alloc | apply pw_below_drewN | apply below_drew1 | refine below_set ?_ GE172.out) | exact HB.out))) (fun k_ h_ => h_)) (below_size (by repeat (first | (with_reducible first | exact HB.out | apply below_alloc | apply pw_below_drewN | apply below_drew1 | refine below_set ?_ GE172.out) | exact HB.out)))); have n2_ := Aside0.mk (blk_below (g := gb172) (o := .cells #[.int .i64 a0_0, .slice A0_1 l0_1.length c0_1, .slice A0_2 l0_2.length c0_2, .int .i64 a0_3, .int .i64 a0_4, .int .i64 a0_5] 43 (0, 0)) (by (with_reducible repeat (first | refine blk_drewN ?_ _ | refine blk_drew ?_ | refine blk_alloc ?_ _)); exact BK172.out) hb); have n3_ := Aside0.mk (below_step (by repeat (first | (with_reducible first | exact HB.out | apply below_alloc | apply pw_below_drewN | apply below_drew1 | refine below_set ?_ GE172.out) | exact HB.out)) hb); clear HO_173001; clear BK172; clear HB; have HO_173001 := n0_; have HO177 := n1_; have BK172 := n2_; have HB := n3_; clear n0_ n1_ n2_ n3_; (try clear hb); (try clear hb2); (try clear hk); (try clear hi); (try clear ho0)))
        go_ret
        exact ⟨_, by first | rfl | (simp [errW_none, errW_some] <;> rfl) | (simp [*, errW_none, errW_some] <;> rfl), Kd.V_mono (Kd.R_V (by (with_reducible repeat (first | apply Kd.R_alloc | apply Kd.R_drewN | apply Kd.R_drew)); exact Kd.R_mono HO177.out (fun _ hk => hk.1))) (fun k_ hk => by first | exact ⟨(.inr (hk.1)), hk.2⟩ | exact (.inr (hk))), by repeat (first | (with_reducible first | exact HB.out | apply below_alloc | apply pw_below_drewN | apply below_drew1 | refine below_set ?_ GE172.out) | exact HB.out)⟩
def kilnref3_Now.l0 : Nat → Int → Int → Int → List (S106) → List (S106) → Int → Int → Int → Option (List Int)
  | 0, _, _, _, _, _, _, _, _ => none
  | k + 1, x1, x5, x179000, x179001, x179002, x179003, x179004, x179005 => if x5 ≥ 0 then (if 0 ≤ x5 then (if x5 < (x179002.length : Int) then (if ((rd_T106 x179002 x5).f0) = x1 then ((kilnref3_Copy.f ((rd_T106 x179002 x5).f1)).bind fun t181 => (some t181)) else (kilnref3_Now.l0 k x1 (wrap64 (x5 - 1)) x179000 x179001 x179002 x179003 x179004 x179005)) else (none)) else (none)) else ((kilnref3_lasts.f k x179000 x179001 x179002 x179003 x179004 x179005 x1).bind fun t184 => ((kilnref3_Copy.f t184).bind fun t187 => (some t187)))
def kilnref3_Now.f (k : Nat) (a0_0 : Int) (l0_1 : List (S106)) (l0_2 : List (S106)) (a0_3 : Int) (a0_4 : Int) (a0_5 : Int) (a1 : Int) : Option (List Int) := kilnref3_Now.l0 k a1 (wrap64 ((l0_2.length : Int) - 1)) a0_0 l0_1 l0_2 a0_3 a0_4 a0_5
theorem kilnref3_Now.mono_l : ∀ k, (∀ y0 y1 y2 y3 y4 y5 y6 y7, LeO (kilnref3_Now.l0 k y0 y1 y2 y3 y4 y5 y6 y7) (kilnref3_Now.l0 (k + 1) y0 y1 y2 y3 y4 y5 y6 y7))
  | 0 => fun _ _ _ _ _ _ _ _ r h => by simp [kilnref3_Now.l0] at h
  | k + 1 => by
    have ih0 := kilnref3_Now.mono_l k
    · intro y0 y1 y2 y3 y4 y5 y6 y7
      unfold kilnref3_Now.l0
      repeat' first
      | (with_reducible exact ih0 _ _ _ _ _ _ _ _)
      | (with_reducible exact kilnref3_lasts.mono _ _ _ _ _ _ _ _)
      | (with_reducible exact LeO.refl _)
      | (with_reducible exact LeO.none _)
      | (with_reducible refine LeO.ite ?_ ?_)
      | (with_reducible refine LeO.bind ?_ (fun _ => ?_))
      | exact ih0 _ _ _ _ _ _ _ _
      | exact kilnref3_lasts.mono _ _ _ _ _ _ _ _
      | exact LeO.none _
      | refine LeO.ite ?_ ?_
      | refine LeO.bind ?_ (fun _ => ?_)
theorem kilnref3_Now.mono : ∀ a0 a1 a2 a3 a4 a5 a6 k, LeO (kilnref3_Now.f k a0 a1 a2 a3 a4 a5 a6) (kilnref3_Now.f (k + 1) a0 a1 a2 a3 a4 a5 a6) := by
  intro a0 a1 a2 a3 a4 a5 a6 k
  have ih0 := kilnref3_Now.mono_l k
  unfold kilnref3_Now.f
  repeat' first
      | (with_reducible exact ih0 _ _ _ _ _ _ _ _)
      | (with_reducible exact kilnref3_lasts.mono _ _ _ _ _ _ _ _)
      | (with_reducible exact LeO.refl _)
      | (with_reducible exact LeO.none _)
      | (with_reducible refine LeO.ite ?_ ?_)
      | (with_reducible refine LeO.bind ?_ (fun _ => ?_))
      | exact ih0 _ _ _ _ _ _ _ _
      | exact kilnref3_lasts.mono _ _ _ _ _ _ _ _
      | exact LeO.none _
      | refine LeO.ite ?_ ?_
      | refine LeO.bind ?_ (fun _ => ?_)
set_option maxHeartbeats 8000000 in
set_option maxRecDepth 100000 in
theorem kilnref3_Now.calls (k : Nat) (a0_0 : Int) (A0_1 : Option Addr) (c0_1 : Nat) (l0_1 : List (S106)) (A0_2 : Option Addr) (c0_2 : Nat) (l0_2 : List (S106)) (a0_3 : Int) (a0_4 : Int) (a0_5 : Int) (a1 : Int) (r : List Int) (w : World) (hr0_1 : Kd.C k106 w A0_1 l0_1.length l0_1) (hc0_1 : l0_1.length ≤ c0_1) (hr0_2 : Kd.C k106 w A0_2 l0_2.length l0_2) (hc0_2 : l0_2.length ≤ c0_2) (h : kilnref3_Now.f k a0_0 l0_1 l0_2 a0_3 a0_4 a0_5 a1 = some r) :
    Calls Tryd.prog 70 #[.agg #[.int .i64 a0_0, .slice A0_1 l0_1.length c0_1, .slice A0_2 l0_2.length c0_2, .int .i64 a0_3, .int .i64 a0_4, .int .i64 a0_5], .int .i64 a1] w fun e w' => ∃ v0_ : Value, e = .returned (v0_) ∧ Kd.R (Kd.int .u8) 5 w' w.heap.size (fun _ => True) v0_ r ∧ Below w.heap.size w w' := by
  have hu43 := Tryd.underlying43
  have HR0_1 := Aside0.mk hr0_1
  have HC0_1 := Aside0.mk hc0_1
  clear hr0_1 hc0_1
  have HR0_2 := Aside0.mk hr0_2
  have HC0_2 := Aside0.mk hc0_2
  clear hr0_2 hc0_2
  have HB := Aside0.mk (Below.refl w.heap.size w)
  have H : (kilnref3_Now.l0 k a1 (wrap64 ((l0_2.length : Int) - 1)) a0_0 l0_1 l0_2 a0_3 a0_4 a0_5) = some r := h
  clear h
  have H' := Aside0.mk H
  clear H
  go_enter Tryd.func70, Tryd.ntmps70
  go_wp2_with (first | ((with_reducible refine gate_dst (N := 2) rfl ?_); refine box_event ?hg (N := 2) ?hd (cs := #[.int .i64 a0_0, .slice A0_1 l0_1.length c0_1, .slice A0_2 l0_2.length c0_2, .int .i64 a0_3, .int .i64 a0_4, .int .i64 a0_5]) (t := 43) ?hr ?_; (case hd => rfl); (case hg => rfl); (case hr => first | (go_simp; done) | (go_simp; rfl)); intro gb178 hg w3 hbox hb; have n0_ := Aside0.mk (below_step (by repeat (first | (with_reducible first | exact HB.out | apply below_alloc | apply pw_below_drewN | apply below_drew1) | exact HB.out)) hb); have n1_ := Aside0.mk (hbox); have n2_ := Aside0.mk ((by rw [hg]; exact (below_size (by repeat (first | (with_reducible first | exact HB.out | apply below_alloc | apply pw_below_drewN | apply below_drew1) | exact HB.out))) : w.heap.size ≤ gb178)); have n3_ := Aside0.mk ((by rw [hg]; exact (below_size (by repeat (first | (with_reducible first | exact HB.out | apply below_alloc | apply pw_below_drewN | apply below_drew1) | exact HB.out))) : w.heap.size ≤ gb178)); clear HB; have HB := n0_; have BK178 := n1_; have GW178 := n2_; have GE178 := n3_; clear n0_ n1_ n2_ n3_; clear hb hbox hg; have hcz4_0 : w3.cell? ⟨gb178, 0, none⟩ = some (.int .i64 a0_0) := (blk_cell BK178.out 0).trans rfl; have hcz4_1 : w3.cell? ⟨gb178, 1, none⟩ = some (.slice A0_1 l0_1.length c0_1) := (blk_cell BK178.out 1).trans rfl; have hcz4_2 : w3.cell? ⟨gb178, 2, none⟩ = some (.slice A0_2 l0_2.length c0_2) := (blk_cell BK178.out 2).trans rfl; have hcz4_3 : w3.cell? ⟨gb178, 3, none⟩ = some (.int .i64 a0_3) := (blk_cell BK178.out 3).trans rfl; have hcz4_4 : w3.cell? ⟨gb178, 4, none⟩ = some (.int .i64 a0_4) := (blk_cell BK178.out 4).trans rfl; have hcz4_5 : w3.cell? ⟨gb178, 5, none⟩ = some (.int .i64 a0_5) := (blk_cell BK178.out 5).trans rfl; have hfz4_0 := blk_frozen BK178.out 0; have hfz4_1 := blk_frozen BK178.out 1; have hfz4_2 := blk_frozen BK178.out 2; have hfz4_3 := blk_frozen BK178.out 3; have hfz4_4 := blk_frozen BK178.out 4; have hfz4_5 := blk_frozen BK178.out 5))
  go_loopg [5] k (fun kq v5 w' => ∃ (x5_1 : Int), v5 = .int .i64 x5_1 ∧ Aside0 (kilnref3_Now.l0 kq a1 x5_1 a0_0 l0_1 l0_2 a0_3 a0_4 a0_5 = some r) ∧ Aside0 (kq ≤ k) ∧ Aside0 (w'.heap[gb178]? = some (.cells #[.int .i64 a0_0, (.slice A0_1 l0_1.length c0_1), (.slice A0_2 l0_2.length c0_2), .int .i64 a0_3, .int .i64 a0_4, .int .i64 a0_5] 43 (0, 0))) ∧ Aside0 (Below w.heap.size w w'))
  case atStart => exact ⟨(wrap64 ((l0_2.length : Int) - 1)), (by first | rfl | (simp; done) | (simp [*]; done)), H', ⟨Nat.le_refl _⟩, ⟨by (with_reducible repeat (first | refine blk_drewN ?_ _ | refine blk_drew ?_ | refine blk_alloc ?_ _)); exact BK178.out⟩, ⟨by repeat (first | (with_reducible first | exact HB.out | apply below_alloc | apply pw_below_drewN | apply below_drew1 | refine below_set ?_ GE178.out) | exact HB.out)⟩⟩
  case round =>
    clear H'
    try clear p2
    try clear hcz4_0
    try clear hcz4_1
    try clear hcz4_2
    try clear hcz4_3
    try clear hcz4_4
    try clear hcz4_5
    try clear hfz4_0
    try clear hfz4_1
    try clear hfz4_2
    try clear hfz4_3
    try clear hfz4_4
    try clear hfz4_5
    obtain ⟨x5_1, rfl, HA, HK1, BK178, HB⟩ := hrel
    cases gk with
    | zero => exact absurd HA.out (by simp [kilnref3_Now.l0])
    | succ k1 =>
      have H := HA.out
      clear HA
      simp only [kilnref3_Now.l0] at H
      by_cases c5 : x5_1 ≥ 0
      · rw [if_pos c5] at H
        have c5b0 : decide (0 ≤ x5_1) = true := decide_eq_true c5
        clear c5
        by_cases c6 : 0 ≤ x5_1
        · rw [if_pos c6] at H
          have c6b0 : decide (0 ≤ x5_1) = true := decide_eq_true c6
          clear c6
          by_cases c7 : x5_1 < (l0_2.length : Int)
          · rw [if_pos c7] at H
            have c7b0 : decide (x5_1 < (l0_2.length : Int)) = true := decide_eq_true c7
            clear c7
            by_cases c8 : ((rd_T106 l0_2 x5_1).f0) = a1
            · rw [if_pos c8] at H
              have c8b0 : (((rd_T106 l0_2 x5_1).f0) == a1) = true := beq_iff_eq.mpr c8
              have c8b1 : (((rd_T106 l0_2 x5_1).f0) != a1) = false := bne_eq_false_iff_eq.mpr c8
              clear c8
              replace H := Option.bind_eq_some_iff.mp H
              obtain ⟨t181, A90, H⟩ := H
              replace H : (some t181) = some r := H
              have A9 := Aside0.mk A90
              clear A90
              obtain rfl := Option.some.inj H
              have hcz10_0 : wr.cell? ⟨gb178, 0, none⟩ = some (.int .i64 a0_0) := (blk_cell BK178.out 0).trans rfl
              have hcz10_1 : wr.cell? ⟨gb178, 1, none⟩ = some (.slice A0_1 l0_1.length c0_1) := (blk_cell BK178.out 1).trans rfl
              have hcz10_2 : wr.cell? ⟨gb178, 2, none⟩ = some (.slice A0_2 l0_2.length c0_2) := (blk_cell BK178.out 2).trans rfl
              have hcz10_3 : wr.cell? ⟨gb178, 3, none⟩ = some (.int .i64 a0_3) := (blk_cell BK178.out 3).trans rfl
              have hcz10_4 : wr.cell? ⟨gb178, 4, none⟩ = some (.int .i64 a0_4) := (blk_cell BK178.out 4).trans rfl
              have hcz10_5 : wr.cell? ⟨gb178, 5, none⟩ = some (.int .i64 a0_5) := (blk_cell BK178.out 5).trans rfl
              have hfz10_0 := blk_frozen BK178.out 0
              have hfz10_1 := blk_frozen BK178.out 1
              have hfz10_2 := blk_frozen BK178.out 2
              have hfz10_3 := blk_frozen BK178.out 3
              have hfz10_4 := blk_frozen BK178.out 4
              have hfz10_5 := blk_frozen BK178.out 5
              have p179 : 0 ≤ (x5_1 : Int) := of_decide_eq_true (by first | (with_reducible assumption) | assumption)
              have q179 : x5_1 < (l0_2.length : Int) := of_decide_eq_true (by first | (with_reducible assumption) | assumption)
              obtain ⟨ad179, A179_1, c179_1, e179, hx179_0, hx179_1, hl179_1, hi179_1⟩ := at_T106 HR0_2.out x5_1 p179 q179
              cases e179
              replace hx179_0 := (HB.out.cell (World.block_lt_of_cell? w _ hx179_0)).trans hx179_0
              replace hx179_1 := (HB.out.cell (World.block_lt_of_cell? w _ hx179_1)).trans hx179_1
              have HR179_1 := Aside0.mk hi179_1
              have HC179_1 := Aside0.mk hl179_1
              clear hi179_1 hl179_1
              replace p179 := eq_true p179
              replace q179 := eq_true q179
              have p180 : 0 ≤ (x5_1 : Int) := of_decide_eq_true (by first | (with_reducible assumption) | assumption)
              have q180 : x5_1 < (l0_2.length : Int) := of_decide_eq_true (by first | (with_reducible assumption) | assumption)
              obtain ⟨ad180, A180_1, c180_1, e180, hx180_0, hx180_1, hl180_1, hi180_1⟩ := at_T106 HR0_2.out x5_1 p180 q180
              obtain rfl : ad179 = ad180 := (by injection e180)
              replace hx180_0 := (HB.out.cell (World.block_lt_of_cell? w _ hx180_0)).trans hx180_0
              replace hx180_1 := (HB.out.cell (World.block_lt_of_cell? w _ hx180_1)).trans hx180_1
              have HR180_1 := Aside0.mk hi180_1
              have HC180_1 := Aside0.mk hl180_1
              clear hi180_1 hl180_1
              replace p180 := eq_true p180
              replace q180 := eq_true q180
              have ea_ := Option.some.inj (hx179_1.symm.trans hx180_1)
              injection ea_ with ea_ en_ ec_
              subst ea_
              subst ec_
              clear en_
              go_wp2_with (first | ((with_reducible refine gate_callee (f := 44) rfl ?_); refine goesL_ (some 28) rfl rfl Tryd.func44 (by kernel_rfl) rfl #[.slice A179_1 ((rd_T106 l0_2 x5_1).f1).length c179_1] rfl (by (try simp only [List.map_toArray, List.map_cons, List.map_nil]); first | done | rfl | (simp only [List.length_drop, List.length_take]; rfl)) ?_; (with_reducible refine (kilnref3_Copy.calls _ _ ((rd_T106 l0_2 x5_1).f1) t181 _ ?side1 ?side2 A9.out).mono ?_); (case side1 => repeat (first | exact (Kd.C_below HR180_1.out HB.out) | (with_reducible refine Kd.C_alloc ?_ _) | (with_reducible refine Kd.C_drewN ?_ _) | (with_reducible refine Kd.C_drew ?_))); (case side2 => exact HC180_1.out); rintro e w11 ⟨v182, rfl, ho0, hb⟩; refine ⟨_, rfl, ?_⟩; have n0_ := Aside0.mk (Kd.R_lower ho0 (below_size (by repeat (first | (with_reducible first | exact HB.out | apply below_alloc | apply pw_below_drewN | apply below_drew1 | refine below_set ?_ GE178.out) | exact HB.out)))); have n1_ := Aside0.mk (blk_below (g := gb178) (o := .cells #[.int .i64 a0_0, .slice A0_1 l0_1.length c0_1, .slice (some ad179) l0_2.length c0_2, .int .i64 a0_3, .int .i64 a0_4, .int .i64 a0_5] 43 (0, 0)) (by (with_reducible repeat (first | refine blk_drewN ?_ _ | refine blk_drew ?_ | refine blk_alloc ?_ _)); exact BK178.out) hb); have n2_ := Aside0.mk (below_step (by repeat (first | (with_reducible first | exact HB.out | apply below_alloc | apply pw_below_drewN | apply below_drew1 | refine below_set ?_ GE178.out) | exact HB.out)) hb); clear BK178; clear HB; have HO183 := n0_; have BK178 := n1_; have HB := n2_; clear n0_ n1_ n2_; (try clear hb); (try clear hb2); (try clear hk); (try clear hi); (try clear ho0)))
              go_ret
              exact ⟨_, by first | rfl | (simp [errW_none, errW_some] <;> rfl) | (simp [*, errW_none, errW_some] <;> rfl), by (with_reducible repeat (first | apply Kd.R_alloc | apply Kd.R_drewN | apply Kd.R_drew)); exact HO183.out, by repeat (first | (with_reducible first | exact HB.out | apply below_alloc | apply pw_below_drewN | apply below_drew1 | refine below_set ?_ GE178.out) | exact HB.out)⟩
            · rw [if_neg c8] at H
              have c8b0 : (((rd_T106 l0_2 x5_1).f0) == a1) = false := beq_eq_false_iff_ne.mpr c8
              have c8b1 : (((rd_T106 l0_2 x5_1).f0) != a1) = true := bne_iff_ne.mpr c8
              have H' := Aside0.mk H
              clear H
              have hcz12_0 : wr.cell? ⟨gb178, 0, none⟩ = some (.int .i64 a0_0) := (blk_cell BK178.out 0).trans rfl
              have hcz12_1 : wr.cell? ⟨gb178, 1, none⟩ = some (.slice A0_1 l0_1.length c0_1) := (blk_cell BK178.out 1).trans rfl
              have hcz12_2 : wr.cell? ⟨gb178, 2, none⟩ = some (.slice A0_2 l0_2.length c0_2) := (blk_cell BK178.out 2).trans rfl
              have hcz12_3 : wr.cell? ⟨gb178, 3, none⟩ = some (.int .i64 a0_3) := (blk_cell BK178.out 3).trans rfl
              have hcz12_4 : wr.cell? ⟨gb178, 4, none⟩ = some (.int .i64 a0_4) := (blk_cell BK178.out 4).trans rfl
              have hcz12_5 : wr.cell? ⟨gb178, 5, none⟩ = some (.int .i64 a0_5) := (blk_cell BK178.out 5).trans rfl
              have hfz12_0 := blk_frozen BK178.out 0
              have hfz12_1 := blk_frozen BK178.out 1
              have hfz12_2 := blk_frozen BK178.out 2
              have hfz12_3 := blk_frozen BK178.out 3
              have hfz12_4 := blk_frozen BK178.out 4
              have hfz12_5 := blk_frozen BK178.out 5
              have p179 : 0 ≤ (x5_1 : Int) := of_decide_eq_true (by first | (with_reducible assumption) | assumption)
              have q179 : x5_1 < (l0_2.length : Int) := of_decide_eq_true (by first | (with_reducible assumption) | assumption)
              obtain ⟨ad179, A179_1, c179_1, e179, hx179_0, hx179_1, hl179_1, hi179_1⟩ := at_T106 HR0_2.out x5_1 p179 q179
              cases e179
              replace hx179_0 := (HB.out.cell (World.block_lt_of_cell? w _ hx179_0)).trans hx179_0
              replace hx179_1 := (HB.out.cell (World.block_lt_of_cell? w _ hx179_1)).trans hx179_1
              have HR179_1 := Aside0.mk hi179_1
              have HC179_1 := Aside0.mk hl179_1
              clear hi179_1 hl179_1
              replace p179 := eq_true p179
              replace q179 := eq_true q179
              go_wp2
              go_roundg k1
              case measure => have := HK1.out; omega
              case rel => exact ⟨(wrap64 (x5_1 - 1)), (by first | rfl | (simp; done) | (simp [*]; done)), H', ⟨by have := HK1.out; omega⟩, ⟨by (with_reducible repeat (first | refine blk_drewN ?_ _ | refine blk_drew ?_ | refine blk_alloc ?_ _)); exact BK178.out⟩, ⟨by repeat (first | (with_reducible first | exact HB.out | apply below_alloc | apply pw_below_drewN | apply below_drew1 | refine below_set ?_ GE178.out) | exact HB.out)⟩⟩
          · rw [if_neg c7] at H
            exact absurd H (by simp)
        · rw [if_neg c6] at H
          exact absurd H (by simp)
      · rw [if_neg c5] at H
        have c5b0 : decide (0 ≤ x5_1) = false := decide_eq_false c5
        clear c5
        replace H := Option.bind_eq_some_iff.mp H
        obtain ⟨t184, A130, H⟩ := H
        replace H : ((kilnref3_Copy.f t184).bind fun t187 => (some t187)) = some r := H
        have A13 := Aside0.mk A130
        clear A130
        replace H := Option.bind_eq_some_iff.mp H
        obtain ⟨t187, A140, H⟩ := H
        replace H : (some t187) = some r := H
        have A14 := Aside0.mk A140
        clear A140
        obtain rfl := Option.some.inj H
        have hcz15_0 : wr.cell? ⟨gb178, 0, none⟩ = some (.int .i64 a0_0) := (blk_cell BK178.out 0).trans rfl
        have hcz15_1 : wr.cell? ⟨gb178, 1, none⟩ = some (.slice A0_1 l0_1.length c0_1) := (blk_cell BK178.out 1).trans rfl
        have hcz15_2 : wr.cell? ⟨gb178, 2, none⟩ = some (.slice A0_2 l0_2.length c0_2) := (blk_cell BK178.out 2).trans rfl
        have hcz15_3 : wr.cell? ⟨gb178, 3, none⟩ = some (.int .i64 a0_3) := (blk_cell BK178.out 3).trans rfl
        have hcz15_4 : wr.cell? ⟨gb178, 4, none⟩ = some (.int .i64 a0_4) := (blk_cell BK178.out 4).trans rfl
        have hcz15_5 : wr.cell? ⟨gb178, 5, none⟩ = some (.int .i64 a0_5) := (blk_cell BK178.out 5).trans rfl
        have hfz15_0 := blk_frozen BK178.out 0
        have hfz15_1 := blk_frozen BK178.out 1
        have hfz15_2 := blk_frozen BK178.out 2
        have hfz15_3 := blk_frozen BK178.out 3
        have hfz15_4 := blk_frozen BK178.out 4
        have hfz15_5 := blk_frozen BK178.out 5
        go_wp2_with (first | ((with_reducible refine gate_callee (f := 75) rfl ?_); refine goesL_ (some 31) rfl rfl Tryd.func75 (by kernel_rfl) rfl #[.agg #[.int .i64 a0_0, .slice A0_1 l0_1.length c0_1, .slice A0_2 l0_2.length c0_2, .int .i64 a0_3, .int .i64 a0_4, .int .i64 a0_5], .int .i64 a1] rfl (by (try simp only [List.map_toArray, List.map_cons, List.map_nil]); first | done | rfl | (simp only [List.length_drop, List.length_take]; rfl)) ?_; (with_reducible refine (kilnref3_lasts.calls k1 a0_0 (fun k_ => k_ < w.heap.size) _ _ l0_1 _ _ l0_2 a0_3 a0_4 a0_5 a1 t184 _ ?side1 ?side2 ?side3 A13.out).mono ?_); (case side1 => exact Kd.V_mk HC0_1.out (Kd.F_below (Kd.C_F k106_heap HR0_1.out) (by repeat (first | (with_reducible first | exact HB.out | apply below_alloc | apply pw_below_drewN | apply below_drew1 | refine below_set ?_ GE178.out) | exact HB.out)))); (case side2 => repeat (first | exact (Kd.C_below HR0_2.out HB.out) | (with_reducible refine Kd.C_alloc ?_ _) | (with_reducible refine Kd.C_drewN ?_ _) | (with_reducible refine Kd.C_drew ?_))); (case side3 => exact HC0_2.out); rintro e w16 ⟨v185, rfl, ho0, hb⟩; refine ⟨_, rfl, ?_⟩; have n0_ := Aside0.mk (Kd.V_lower (Kd.V_mono (ok' := fun k_ => k_ ≠ gb178) ho0 (fun k_ hk_ => Or.elim hk_ (fun hs_ => fun e_ => Nat.not_le.2 hs_ (by rw [e_]; exact GW178.out)) (fun hn_ => (Kd.freshB (g := gb178) (o := .cells #[.int .i64 a0_0, .slice A0_1 l0_1.length c0_1, .slice A0_2 l0_2.length c0_2, .int .i64 a0_3, .int .i64 a0_4, .int .i64 a0_5] 43 (0, 0)) (by (with_reducible repeat (first | refine blk_drewN ?_ _ | refine blk_drew ?_ | refine blk_alloc ?_ _)); exact BK178.out) k_ hn_)))) (below_size (by repeat (first | (with_reducible first | exact HB.out | apply below_alloc | apply pw_below_drewN | apply below_drew1 | refine below_set ?_ GE178.out) | exact HB.out)))); have n1_ := Aside0.mk (blk_below (g := gb178) (o := .cells #[.int .i64 a0_0, .slice A0_1 l0_1.length c0_1, .slice A0_2 l0_2.length c0_2, .int .i64 a0_3, .int .i64 a0_4, .int .i64 a0_5] 43 (0, 0)) (by (with_reducible repeat (first | refine blk_drewN ?_ _ | refine blk_drew ?_ | refine blk_alloc ?_ _)); exact BK178.out) hb); have n2_ := Aside0.mk (below_step (by repeat (first | (with_reducible first | exact HB.out | apply below_alloc | apply pw_below_drewN | apply below_drew1 | refine below_set ?_ GE178.out) | exact HB.out)) hb); clear BK178; clear HB; have HO186 := n0_; have BK178 := n1_; have HB := n2_; clear n0_ n1_ n2_; (try clear hb); (try clear hb2); (try clear hk); (try clear hi); (try clear ho0); obtain ⟨Ao17, co17, eo17⟩ := Kd.V_slice HO186.out; subst eo17) | ((with_reducible refine gate_callee (f := 44) rfl ?_); refine goesL_ (some 32) rfl rfl Tryd.func44 (by kernel_rfl) rfl #[.slice Ao17 t184.length co17] rfl (by (try simp only [List.map_toArray, List.map_cons, List.map_nil]); first | done | rfl | (simp only [List.length_drop, List.length_take]; rfl)) ?_; (with_reducible refine (kilnref3_Copy.calls _ _ t184 t187 _ ?side1 ?side2 A14.out).mono ?_); (case side1 => repeat (first | exact (Kd.V_reads' HO186.out).2.2 | (with_reducible refine Kd.C_alloc ?_ _) | (with_reducible refine Kd.C_drewN ?_ _) | (with_reducible refine Kd.C_drew ?_))); (case side2 => exact (Kd.V_reads' HO186.out).2.1); rintro e w18 ⟨v188, rfl, ho0, hb⟩; refine ⟨_, rfl, ?_⟩; have n0_ := Aside0.mk (Kd.V_elder' (by (with_reducible repeat (first | apply Kd.V_alloc | apply Kd.V_drewN | apply Kd.V_drew)); exact HO186.out) (Kd.R_base ho0) hb); have n1_ := Aside0.mk (Kd.R_lower ho0 (below_size (by repeat (first | (with_reducible first | exact HB.out | apply below_alloc | apply pw_below_drewN | apply below_drew1 | refine below_set ?_ GE178.out) | exact HB.out)))); have n2_ := Aside0.mk (blk_below (g := gb178) (o := .cells #[.int .i64 a0_0, .slice A0_1 l0_1.length c0_1, .slice A0_2 l0_2.length c0_2, .int .i64 a0_3, .int .i64 a0_4, .int .i64 a0_5] 43 (0, 0)) (by (with_reducible repeat (first | refine blk_drewN ?_ _ | refine blk_drew ?_ | refine blk_alloc ?_ _)); exact BK178.out) hb); have n3_ := Aside0.mk (below_step (by repeat (first | (with_reducible first | exact HB.out | apply below_alloc | apply pw_below_drewN | apply below_drew1 | refine below_set ?_ GE178.out) | exact HB.out)) hb); clear HO186; clear BK178; clear HB; have HO186 := n0_; have HO189 := n1_; have BK178 := n2_; have HB := n3_; clear n0_ n1_ n2_ n3_; (try clear hb); (try clear hb2); (try clear hk); (try clear hi); (try clear ho0)))
        go_ret
        exact ⟨_, by first | rfl | (simp [errW_none, errW_some] <;> rfl) | (simp [*, errW_none, errW_some] <;> rfl), by (with_reducible repeat (first | apply Kd.R_alloc | apply Kd.R_drewN | apply Kd.R_drew)); exact HO189.out, by repeat (first | (with_reducible first | exact HB.out | apply below_alloc | apply pw_below_drewN | apply below_drew1 | refine below_set ?_ GE178.out) | exact HB.out)⟩
end Go.Proofs.YtaflofcnjakaaaaDoor.Z

namespace Go.Proofs.YtaflofcnjakaaaaDoor.M
open Go.RowKit Go.Maps Go.Proofs.YtaflofcnjakaaaaDoorW.PrintWords Go.Proofs.YtaflofcnjakaaaaDoorW.PrintLast Go.Proofs.YtaflofcnjakaaaaDoorW.PrintMore Go.Proofs.YtaflofcnjakaaaaDoor.Wr Go.Proofs.YtaflofcnjakaaaaDoor.Pl Go.Proofs.YtaflofcnjakaaaaDoor.P Go.Proofs.YtaflofcnjakaaaaDoor.A
set_option linter.unusedVariables false
set_option linter.unusedSimpArgs false
theorem results_row_tmp {P : Program} {fn : Func} {p u : Tmp} {ty : TypeId} (h : fn.results = #[.cell p ty, .tmp u]) (tmps : Array Value) (w : World) (g : Nat) (t : TypeId) (cs : Array Value) (fr : Nat × Nat) (d : TypeDesc) (v : Value)
    (hp : tmps.getD p undef = .pointer (some ⟨g, 0, none⟩)) (hv : tmps.getD u undef = v) (hg : w.heap[g]? = some (.cells cs t fr))
    (hu : P.underlying ty = some d) (hd : (match d with | .struct _ | .array _ _ => true | _ => false) = true) (hi : (P.info? ty).map (·.size) = some cs.size) :
    (results fn tmps).run P w = .ok (.tuple #[.agg cs, v]) w := by
  rw [results_cell_tmp h, hp, hv]
  simp [asAddr, run_loadVar_row w g t ty cs fr d hg hu hd hi, Sem.run_bind]
theorem str_inj {x y : List Int} (hx : bytes_ x) (hy : bytes_ y) : ((strOfNums x).toList != (strOfNums y).toList) = decide (x ≠ y) := by
  rw [strOfNums_toList, strOfNums_toList]
  have e : (x.map (fun n => UInt8.ofNat n.toNat) = y.map (fun n => UInt8.ofNat n.toNat)) ↔ x = y := by
    constructor
    · intro h
      induction x generalizing y with
      | nil => cases y with
        | nil => rfl
        | cons b y => simp at h
      | cons a x ih => cases y with
        | nil => simp at h
        | cons b y =>
          simp only [List.map_cons, List.cons.injEq] at h
          have ha := hx a (by simp)
          have hb := hy b (by simp)
          have h1 : a.toNat % 256 = b.toNat % 256 := by
            have := congrArg UInt8.toNat h.1
            simpa [UInt8.toNat_ofNat'] using this
          have hab : a = b := by omega
          rw [hab, ih (fun z hz => hx z (by simp [hz])) (fun z hz => hy z (by simp [hz])) h.2]
    · rintro rfl; rfl
  by_cases hxy : x = y
  · subst hxy; simp
  · have : ¬ (x.map (fun n => UInt8.ofNat n.toNat) = y.map (fun n => UInt8.ofNat n.toNat)) := fun h => hxy (e.1 h)
    rw [bne_iff_ne.2 this]
    simp [hxy]
def noSL : SL := ⟨0, 0, 0, 0, 0, z32, z32, 0, 0, z32, 0, 0⟩
theorem z32_ok : z32.length = 32 ∧ bytes_ z32 := ⟨rfl, fun x hx => by rw [List.eq_of_mem_replicate hx]; omega⟩
theorem noSL_ok : noSL.Ok := ⟨z32_ok.1, z32_ok.1, z32_ok.1, z32_ok.2, z32_ok.2, z32_ok.2⟩
def decS (b : List Int) : SL := (decB b).getD noSL
def decE (b : List Int) : Int := if (decB b).isSome then 0 else 180
theorem decS_no {b : List Int} (h : decB b = none) : decS b = noSL ∧ decE b = 180 := by unfold decS decE; rw [h]; exact ⟨rfl, rfl⟩
theorem decS_yes {b : List Int} {s : SL} (h : decB b = some s) : decS b = s ∧ decE b = 0 := by unfold decS decE; rw [h]; exact ⟨rfl, rfl⟩
theorem decS_ok {b : List Int} (hb : bytes_ b) : (decS b).Ok := by
  cases h : decB b with
  | none => rw [(decS_no h).1]; exact noSL_ok
  | some s => rw [(decS_yes h).1]; exact (dec_some hb h).1
theorem Sep.num_ {w0 w : World} {L : List Th} {gc : Nat} {A : Option Addr} {c : Nat} (n p q : Nat) (N P' Q : Int) {b : List Int} (h : Sep w0 w (cellsT gc #[.slice A 512 c, .int .i64 P'] 117 :: L)) (hR : ReadsB w0 L A b) (hb : bytes_ b) (hl : b.length = 512) (hc : 512 ≤ c) (hN : (n : Int) = N) (hP : (p : Int) = P') (hQ : ((p + n : Nat) : Int) = Q) (h1 : 1 ≤ n) (h8 : n ≤ 8) (hp : p + n ≤ 512) :
    Calls Tryd.prog 56 #[.pointer (some ⟨gc, 0, none⟩), .int .i64 N] w fun e w' => e = .returned (.int .i64 (numAt b p n)) ∧ Sep w0 w' (cellsT gc #[.slice A 512 c, .int .i64 Q] 117 :: L) := by
  subst hN hP hQ
  exact Sep.number h hR hb hl hc n h1 h8 hp
theorem Sep.key_ {w0 w : World} {L : List Th} {gc : Nat} {A : Option Addr} {c : Nat} (p : Nat) (P' Q : Int) {b : List Int} (h : Sep w0 w (cellsT gc #[.slice A 512 c, .int .i64 P'] 117 :: L)) (hR : ReadsB w0 L A b) (hb : bytes_ b) (hl : b.length = 512) (hc : 512 ≤ c) (hP : (p : Int) = P') (hQ : ((p + 32 : Nat) : Int) = Q) (hp : p + 32 ≤ 512) :
    Calls Tryd.prog 57 #[.pointer (some ⟨gc, 0, none⟩)] w fun e w' => e = .returned (.agg (nums .u8 (keyAt b p)).toArray) ∧ Sep w0 w' (cellsT gc #[.slice A 512 c, .int .i64 Q] 117 :: L) := by
  subst hP hQ
  exact Sep.key h hR hb hl hc hp
theorem Sep.ref_ {w0 w : World} {L : List Th} {gc : Nat} {A : Option Addr} {c : Nat} (p : Nat) (P' Q : Int) {b : List Int} (h : Sep w0 w (cellsT gc #[.slice A 512 c, .int .i64 P'] 117 :: L)) (hR : ReadsB w0 L A b) (hb : bytes_ b) (hl : b.length = 512) (hc : 512 ≤ c) (hP : (p : Int) = P') (hQ : ((p + 40 : Nat) : Int) = Q) (hp : p + 40 ≤ 512) :
    Calls Tryd.prog 58 #[.pointer (some ⟨gc, 0, none⟩)] w fun e w' => e = .returned (.agg (refV (keyAt b p) (numAt b (p + 32) 4) (numAt b (p + 36) 4)).toArray) ∧ Sep w0 w' (cellsT gc #[.slice A 512 c, .int .i64 Q] 117 :: L) := by
  subst hP hQ
  exact Sep.ref h hR hb hl hc hp
set_option maxHeartbeats 16000000 in
set_option maxRecDepth 100000 in
theorem Sep.decode {w0 w : World} {L : List Th} {A : Option Addr} {c : Nat} {b : List Int} (h : Sep w0 w L) (hH : Wr.Half w0) (hR : ReadsB w0 L A b) (hb : bytes_ b) (hl : b.length = 512) (hc : 512 ≤ c) :
    Calls Tryd.prog 32 #[.slice A 512 c] w fun e w' => e = .returned (.tuple #[.agg (decS b).V.toArray, .int .i64 (decE b)]) ∧ Sep w0 w' L := by
  have HN0 := Aside0.mk (fun W (t : Th) gc (h : Sep w0 W (cellsT gc #[.slice A 512 c, .int .i64 4] 117 :: t :: L)) => Sep.num_ 4 4 8 4 4 8 h (ReadsB.r hR _) hb hl hc rfl rfl rfl (by decide) (by decide) (by decide))
  have HN1 := Aside0.mk (fun W (t : Th) gc (h : Sep w0 W (cellsT gc #[.slice A 512 c, .int .i64 8] 117 :: t :: L)) => Sep.num_ 4 8 12 4 8 12 h (ReadsB.r hR _) hb hl hc rfl rfl rfl (by decide) (by decide) (by decide))
  have HN2 := Aside0.mk (fun W (t : Th) gc (h : Sep w0 W (cellsT gc #[.slice A 512 c, .int .i64 12] 117 :: t :: L)) => Sep.num_ 8 12 20 8 12 20 h (ReadsB.r hR _) hb hl hc rfl rfl rfl (by decide) (by decide) (by decide))
  have HN3 := Aside0.mk (fun W (t : Th) gc (h : Sep w0 W (cellsT gc #[.slice A 512 c, .int .i64 20] 117 :: t :: L)) => Sep.num_ 8 20 28 8 20 28 h (ReadsB.r hR _) hb hl hc rfl rfl rfl (by decide) (by decide) (by decide))
  have HN4 := Aside0.mk (fun W (t : Th) gc (h : Sep w0 W (cellsT gc #[.slice A 512 c, .int .i64 28] 117 :: t :: L)) => Sep.num_ 8 28 36 8 28 36 h (ReadsB.r hR _) hb hl hc rfl rfl rfl (by decide) (by decide) (by decide))
  have HKY := Aside0.mk (fun W (t : Th) gc (h : Sep w0 W (cellsT gc #[.slice A 512 c, .int .i64 36] 117 :: t :: L)) => Sep.key_ 36 36 68 h (ReadsB.r hR _) hb hl hc rfl rfl (by decide))
  have HRR := Aside0.mk (fun W (t u : Th) gc (h : Sep w0 W (cellsT gc #[.slice A 512 c, .int .i64 68] 117 :: t :: u :: L)) => (show Calls Tryd.prog 58 _ W fun e w' => e = .returned (.agg (refV (keyAt b 68) (numAt b 100 4) (numAt b 104 4)).toArray) ∧ Sep w0 w' (cellsT gc #[.slice A 512 c, .int .i64 108] 117 :: t :: u :: L) from Sep.ref_ 68 68 108 h (ReadsB.r (ReadsB.r hR _) _) hb hl hc rfl rfl (by decide)))
  have HRM := Aside0.mk (fun W (t u : Th) gc (h : Sep w0 W (cellsT gc #[.slice A 512 c, .int .i64 108] 117 :: t :: u :: L)) => (show Calls Tryd.prog 58 _ W fun e w' => e = .returned (.agg (refV (keyAt b 108) (numAt b 140 4) (numAt b 144 4)).toArray) ∧ Sep w0 w' (cellsT gc #[.slice A 512 c, .int .i64 148] 117 :: t :: u :: L) from Sep.ref_ 108 108 148 h (ReadsB.r (ReadsB.r hR _) _) hb hl hc rfl rfl (by decide)))
  have HR0 := Aside0.mk (read_ok hl hb)
  have HDS := Aside0.mk (show mayM (readL b) = true → encB (readL b) = b → decS b = readL b ∧ decE b = 0 from fun h1 h2 => decS_yes (by unfold decB; rw [if_pos ⟨hl, h1, h2⟩]))
  have HDN := Aside0.mk (show (mayM (readL b) = true → encB (readL b) ≠ b) → decS b = noSL ∧ decE b = 180 from fun h1 => decS_no (by unfold decB; rw [if_neg (fun h2 => h1 h2.2.1 h2.2.2)]))
  have HRD := Aside0.mk (show readL b = ⟨numAt b 4 4, numAt b 8 4, numAt b 12 8, numAt b 20 8, numAt b 28 8, keyAt b 36, keyAt b 68, numAt b 100 4, numAt b 104 4, keyAt b 108, numAt b 140 4, numAt b 144 4⟩ from rfl)
  have HKL := Aside0.mk (show (keyAt b 36).length = 32 ∧ (keyAt b 68).length = 32 ∧ (keyAt b 108).length = 32 from ⟨keyAt_len hl (by decide), keyAt_len hl (by decide), keyAt_len hl (by decide)⟩)
  have HKB := Aside0.mk (show bytes_ (keyAt b 36) ∧ bytes_ (keyAt b 68) ∧ bytes_ (keyAt b 108) from ⟨bytes_take (bytes_drop hb _) _, bytes_take (bytes_drop hb _) _, bytes_take (bytes_drop hb _) _⟩)
  have HS0 := Aside0.mk h
  have HCV := Aside0.mk (fun W (M : List Th) (hs : Sub L M) (h : Sep w0 W M) => (show (convert 28 9 (.slice A 512 c)).run Tryd.prog W = .ok (.string (strOfNums b)) W from Kd.C_string (P := Tryd.prog) Tryd.underlying28 Tryd.underlying5 Tryd.underlying9 (hR W M hs h)))
  generalize numAt b 4 4 = n0 at HN0 HRD
  generalize numAt b 8 4 = n1 at HN1 HRD
  generalize numAt b 12 8 = n2 at HN2 HRD
  generalize numAt b 20 8 = n3 at HN3 HRD
  generalize numAt b 28 8 = n4 at HN4 HRD
  generalize keyAt b 36 = k at HKY HRD HKL HKB
  generalize keyAt b 68 = rh at HRR HRD HKL HKB
  generalize numAt b 100 4 = rf at HRR HRD
  generalize numAt b 104 4 = rl at HRR HRD
  generalize keyAt b 108 = mh at HRM HRD HKL HKB
  generalize numAt b 140 4 = mf at HRM HRD
  generalize numAt b 144 4 = ml at HRM HRD
  have HEN := Aside0.mk (fun W (M : List Th) (hm : mayM (readL b) = true) (h : Sep w0 W M) => Sep.encode h hH (readL b) HR0.out hm)
  have HEX := Aside0.mk (fun W (hm : mayM (readL b) = false) => encode_no (readL b) HR0.out hm W)
  have HSI := Aside0.mk (str_inj (bytes_encB HR0.out) hb)
  have HEL := Aside0.mk (encB_len HR0.out)
  have HCE := Aside0.mk (fun W g (M : List Th) (h : Sep w0 W (cellsT g (nums .u8 (encB (readL b))).toArray 89 :: M)) => (show (convert 28 9 (.slice (some ⟨g, 0, none⟩) 512 512)).run Tryd.prog W = .ok (.string (strOfNums (encB (readL b)))) W from Kd.C_string (P := Tryd.prog) Tryd.underlying28 Tryd.underlying5 Tryd.underlying9 (C_segn h.cells.1 0 (encB (readL b)) 512 HEL.out (by rw [List.drop_zero]; exact List.take_of_length_le (by rw [nums_length, HEL.out]; exact Nat.le_refl _)) (by decide))))
  generalize readL b = sr at *
  generalize encB sr = eb at *
  generalize strOfNums b = sb at HCV HSI
  generalize strOfNums eb = se at HCE HSI
  have HB1 := Aside0.mk (built27 k HKL.out.1 n0 n1 n2 n3 n4)
  have HO1 := Aside0.mk (show SL.Ok ⟨n0, n1, n2, n3, n4, k, z32, 0, 0, z32, 0, 0⟩ from ⟨HKL.out.1, z32_ok.1, z32_ok.1, HKB.out.1, z32_ok.2, z32_ok.2⟩)
  have HO2 := Aside0.mk (show SL.Ok ⟨n0, n1, n2, n3, n4, k, rh, rf, rl, z32, 0, 0⟩ from ⟨HKL.out.1, HKL.out.2.1, z32_ok.1, HKB.out.1, HKB.out.2.1, z32_ok.2⟩)
  have HV2 := Aside0.mk (V_set_root HO1.out rh rf rl HKL.out.2.1)
  have HV3 := Aside0.mk (V_set_memo HO2.out mh mf ml HKL.out.2.2)
  have HL1 := Aside0.mk (SL.V_len HO1.out)
  have HL2 := Aside0.mk (SL.V_len HO2.out)
  have HA1 := Aside0.mk (SL.V_all ⟨n0, n1, n2, n3, n4, k, z32, 0, 0, z32, 0, 0⟩)
  have HVR := Aside0.mk (show SL.V ⟨n0, n1, n2, n3, n4, k, rh, rf, rl, mh, mf, ml⟩ = sr.V from by rw [HRD.out])
  have HOK := Aside0.mk (SL.V_len HR0.out)
  have HAV := Aside0.mk (SL.V_all sr)
  have HV3b := HV3.out
  dsimp only at HV3b
  rw [HVR.out] at HV3b
  have HV2b := HV2.out
  dsimp only at HV2b
  clear HV2 HV3 HVR HRD HO1 HO2 HKB
  have HV2 := Aside0.mk HV2b
  have HV3 := Aside0.mk HV3b
  clear HV2b HV3b
  generalize SL.V ⟨n0, n1, n2, n3, n4, k, z32, 0, 0, z32, 0, 0⟩ = V1 at HB1 HV2 HL1 HA1
  generalize SL.V ⟨n0, n1, n2, n3, n4, k, rh, rf, rl, z32, 0, 0⟩ = V2 at HV2 HV3 HL2
  have HSR := Aside0.mk (refV_len HKL.out.2.1 rf rl)
  have HSM := Aside0.mk (refV_len HKL.out.2.2 mf ml)
  have HAR := Aside0.mk (refV_all rh rf rl)
  have HAM := Aside0.mk (refV_all mh mf ml)
  generalize refV rh rf rl = VR at HV2 HSR HAR HRR
  generalize refV mh mf ml = VM at HV3 HSM HAM HRM
  have HSR2 := Aside0.mk (show (Tryd.prog.info? 25).map (·.size) = some VR.toArray.size from size25 (by simpa using HSR.out))
  have HSM2 := Aside0.mk (show (Tryd.prog.info? 25).map (·.size) = some VM.toArray.size from size25 (by simpa using HSM.out))
  have HS1_ := Aside0.mk (show (Tryd.prog.info? 27).map (·.size) = some V1.toArray.size from size27 (by simpa using HL1.out))
  have hz := (zero_of_info (P := Tryd.prog) (t := 27) (v := .agg noSL.V.toArray) (n := 105) (by kernel_rfl)).1
  have HBZ := Aside0.mk (show Tryd.prog.built 27 [] = some noSL.V.toArray from built27z)
  have HSZ := Aside0.mk (show (Tryd.prog.info? 27).map (·.size) = some noSL.V.toArray.size from size27 (by simpa using SL.V_len noSL_ok))
  have HSV := Aside0.mk (show (Tryd.prog.info? 27).map (·.size) = some sr.V.toArray.size from size27 (by simpa using HOK.out))
  have HZA := Aside0.mk (SL.V_all noSL)
  have HZN := Aside0.mk (show noSL.V.toArray.size = 105 from by simpa using SL.V_len noSL_ok)
  have HVN := Aside0.mk (show sr.V.toArray.size = 105 from by simpa using HOK.out)
  generalize hV : sr.V = V at HEN HEX HSV HAV HVN HV3 HOK
  have HV := Aside0.mk hV
  clear hV
  generalize hZ : noSL.V.toArray = Z at hz HBZ HSZ HZA HZN
  have HZ := Aside0.mk hZ
  clear hZ
  clear h hH hR hb hl hc HKL
  generalize decS b = ds at *
  generalize decE b = de at *
  have HZ1 := Aside0.mk (show Z.size = V1.toArray.size from by rw [HZN.out]; simpa using HL1.out.symm)
  have HZV := Aside0.mk (show Z.size = V.toArray.size from by rw [HZN.out, HVN.out])
  go_enter Tryd.func32, Tryd.ntmps32
  go_upto_region 1 with (fail)
  have HS1 := Aside0.mk (HS0.out.push_alloc Z 27)
  generalize w.alloc (.cells Z 27) = w1 at HS1 ⊢
  generalize w.heap.size = gr at HS1 ⊢
  clear HS0
  go_upto_region 4 with (fail)
  have HS2 := Aside0.mk (HS1.out.push_alloc #[.slice A 512 c, .int .i64 4] 117)
  generalize w1.alloc (.cells #[.slice A 512 c, .int .i64 4] 117) = w2 at HS2 ⊢
  generalize w1.heap.size = gc at HS2 ⊢
  clear HS1
  go_upto_region 5 with (first
    | (go_at_call 56; (with_reducible refine (HN0.out _ _ _ HS2.out).mono ?_); rintro e w3 ⟨rfl, h3⟩; have HS3 := Aside0.mk h3; clear h3 HS2)
    | (go_at_call 56; (with_reducible refine (HN1.out _ _ _ HS3.out).mono ?_); rintro e w4 ⟨rfl, h4⟩; have HS4 := Aside0.mk h4; clear h4 HS3)
    | (go_at_call 56; (with_reducible refine (HN2.out _ _ _ HS4.out).mono ?_); rintro e w5 ⟨rfl, h5⟩; have HS5 := Aside0.mk h5; clear h5 HS4)
    | (go_at_call 56; (with_reducible refine (HN3.out _ _ _ HS5.out).mono ?_); rintro e w6 ⟨rfl, h6⟩; have HS6 := Aside0.mk h6; clear h6 HS5)
    | (go_at_call 56; (with_reducible refine (HN4.out _ _ _ HS6.out).mono ?_); rintro e w7 ⟨rfl, h7⟩; have HS7 := Aside0.mk h7; clear h7 HS6)
    | (go_at_call 57; (with_reducible refine (HKY.out _ _ _ HS7.out).mono ?_); rintro e w8 ⟨rfl, h8⟩; have HS8 := Aside0.mk h8; clear h8 HS7)
    | ((with_reducible refine gate_build (ty := 27) rfl ?_); refine wpList_buildTo rfl 27 _ rfl (some 27) rfl V1.toArray ?aB ?_; (case aB => (simp only [List.map_toArray, List.map_cons, List.map_nil]; exact HB1.out)))
    | ((with_reducible refine gate_store (ty := 27) rfl ?_); refine Sep.store_own rfl 27 _ _ rfl rfl rfl (HS8.out.push_alloc Z 27) HS1_.out HZ1.out HA1.out ?_; intro w9 h9; have HS9 := Aside0.mk h9.up1; clear h9))
  generalize w8.heap.size = gs at HS9 ⊢
  clear HS8 HN0 HN1 HN2 HN3 HN4 HKY
  go_upto_region 6 with (first
    | (go_at_call 58; (with_reducible refine (HRR.out _ _ _ _ HS9.out).mono ?_); rintro e w10 ⟨rfl, h10⟩; have HS10 := Aside0.mk h10.up1; clear h10 HS9)
    | ((with_reducible refine gate_store (ty := 25) rfl ?_); refine Sep.store_part (p := 37) rfl 25 _ _ rfl rfl rfl HS10.out HSR2.out ?aP HAR.out ?_; (case aP => (rw [HSR.out, HL1.out]; decide)); intro w11 h11; have HS11 := Aside0.mk (show Sep w0 w11 _ from (by rw [HV2.out] at h11; exact h11.up1)); clear h11 HS10))
  go_upto_region 7 with (first
    | (go_at_call 58; (with_reducible refine (HRM.out _ _ _ _ HS11.out).mono ?_); rintro e w12 ⟨rfl, h12⟩; have HS12 := Aside0.mk h12.up1; clear h12 HS11)
    | ((with_reducible refine gate_store (ty := 25) rfl ?_); refine Sep.store_part (p := 71) rfl 25 _ _ rfl rfl rfl HS12.out HSM2.out ?aP HAM.out ?_; (case aP => (rw [HSM.out, HL2.out]; decide)); intro w13 h13; have HS13 := Aside0.mk (show Sep w0 w13 _ from (by rw [HV3.out] at h13; exact h13)); clear h13 HS12))
  have HLD := Aside0.mk (fun W (M : List Th) (h : Sep w0 W (cellsT gs V.toArray 27 :: M)) => (show ∀ j v, V.toArray.toList[j]? = some v → W.cell? ((⟨gs, 0, none⟩ : Addr).add j) = some v from fun j v hv => seg_at h.cells.1 0 V (by rw [List.drop_zero]; exact List.take_of_length_le (Nat.le_refl _)) j v (by simpa using hv)))
  cases hm : mayM sr with
  | false =>
    go_upto_region 8 with (first
      | ((with_reducible refine gate_load (ty := 27) rfl ?_); refine wpList_ldw ?_ 27 _ rfl ⟨gs, 0, none⟩ ?_ V.toArray _ (HLD.out _ _ HS13.out) Tryd.underlying27 rfl HSV.out ?_; exact rfl; exact rfl; skip)
      | (go_at_call 12; (with_reducible refine (HEX.out _ hm).mono ?_); rintro e w14 ⟨rfl, hb⟩; have HS14 := Aside0.mk (HS13.out.step hb); clear hb))
    go_wp2_with (first
      | ((with_reducible refine gate_build (ty := 27) rfl ?_); refine wpList_buildTo rfl 27 _ rfl (some 48) rfl Z ?aB ?_; (case aB => (simp only [List.map_toArray, List.map_nil]; exact HBZ.out)))
      | ((with_reducible refine gate_store (ty := 27) rfl ?_); refine Sep.store_own rfl 27 _ _ rfl rfl rfl HS14.out.up2 HSZ.out rfl HZA.out ?_; intro w15 h15; have HS15 := Aside0.mk h15; clear h15))
    obtain ⟨rfl, rfl⟩ := HDN.out (fun h => by rw [hm] at h; cases h)
    rw [HZ.out]
    refine bodyPost_ret (results_row_tmp (p := 2) (u := 3) (ty := 27) rfl _ _ gr 27 Z (0, 0) _ _ rfl rfl HS15.out.cells.1 Tryd.underlying27 rfl HSZ.out) rfl ⟨rfl, ?_⟩
    exact HS15.out.drop.drop.drop
  | true =>
    go_upto_region 8 with (first
      | ((with_reducible refine gate_load (ty := 27) rfl ?_); refine wpList_ldw ?_ 27 _ rfl ⟨gs, 0, none⟩ ?_ V.toArray _ (HLD.out _ _ HS13.out) Tryd.underlying27 rfl HSV.out ?_; exact rfl; exact rfl; skip)
      | (go_at_call 12; (with_reducible refine (HEN.out _ _ hm HS13.out).mono ?_); rintro e w14 ⟨ge, rfl, h14⟩; have HS14 := Aside0.mk h14; clear h14))
    have hc1 := HCE.out _ _ _ HS14.out
    have hc2 := HCV.out _ _ (Sub.c (Sub.c (Sub.c (Sub.c (Sub.r _))))) HS14.out
    have hsi := HSI.out
    by_cases hq : eb = b
    · have hsi2 : (se.toList != sb.toList) = false := by rw [hsi, hq]; simp
      have hsi3 : (se.toList == sb.toList) = true := by cases h : (se.toList == sb.toList) with
        | true => rfl
        | false => rw [bne, h] at hsi2; cases hsi2
      clear hsi
      go_upto_region 10 with (fail)
      clear hc1 hc2 HCV
      go_wp2_with (first
        | ((with_reducible refine gate_load (ty := 27) rfl ?_); refine wpList_ldw ?_ 27 _ rfl ⟨gs, 0, none⟩ ?_ V.toArray _ (HLD.out _ _ HS14.out.up1) Tryd.underlying27 rfl HSV.out ?_; exact rfl; exact rfl; skip)
        | ((with_reducible refine gate_store (ty := 27) rfl ?_); refine Sep.store_own rfl 27 _ _ rfl rfl rfl HS14.out.up3 HSV.out HZV.out HAV.out ?_; intro w15 h15; have HS15 := Aside0.mk h15; clear h15))
      obtain ⟨rfl, rfl⟩ := HDS.out hm hq
      rw [HV.out]
      refine bodyPost_ret (results_row_tmp (p := 2) (u := 3) (ty := 27) rfl _ _ gr 27 V.toArray (0, 0) _ _ rfl rfl HS15.out.cells.1 Tryd.underlying27 rfl HSV.out) rfl ⟨rfl, ?_⟩
      exact HS15.out.drop.drop.drop.drop
    · have hsi2 : (se.toList != sb.toList) = true := by rw [hsi]; simp [hq]
      have hsi3 : (se.toList == sb.toList) = false := by cases h : (se.toList == sb.toList) with
        | false => rfl
        | true => rw [bne, h] at hsi2; cases hsi2
      clear hsi
      go_upto_region 9 with (fail)
      clear hc1 hc2 HCV
      go_wp2_with (first
        | ((with_reducible refine gate_build (ty := 27) rfl ?_); refine wpList_buildTo rfl 27 _ rfl (some 48) rfl Z ?aB ?_; (case aB => (simp only [List.map_toArray, List.map_nil]; exact HBZ.out)))
        | ((with_reducible refine gate_store (ty := 27) rfl ?_); refine Sep.store_own rfl 27 _ _ rfl rfl rfl HS14.out.up3 HSZ.out rfl HZA.out ?_; intro w15 h15; have HS15 := Aside0.mk h15; clear h15))
      obtain ⟨rfl, rfl⟩ := HDN.out (fun _ => hq)
      rw [HZ.out]
      refine bodyPost_ret (results_row_tmp (p := 2) (u := 3) (ty := 27) rfl _ _ gr 27 Z (0, 0) _ _ rfl rfl HS15.out.cells.1 Tryd.underlying27 rfl HSZ.out) rfl ⟨rfl, ?_⟩
      exact HS15.out.drop.drop.drop.drop
end Go.Proofs.YtaflofcnjakaaaaDoor.M
