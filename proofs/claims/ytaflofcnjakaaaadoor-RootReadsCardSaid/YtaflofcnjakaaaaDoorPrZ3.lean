-- written by programs of this session; what nothing here names is left out
import Derived.Test.YtaflofcnjakaaaaDoorPrZ2
import Derived.Lib.SlBytesConst
import Derived.OpenShut
import Derived.WideShapes
import Derived.ChangeArms
import Derived.Laws.ResultCell
import Derived.ChangeKeysEq
namespace Go.Proofs.YtaflofcnjakaaaaDoor.M
open Go.RowKit Go.Maps Go.Proofs.YtaflofcnjakaaaaDoorW.PrintWords Go.Proofs.YtaflofcnjakaaaaDoorW.PrintLast Go.Proofs.YtaflofcnjakaaaaDoorW.PrintMore Go.Proofs.YtaflofcnjakaaaaDoor.Wr Go.Proofs.YtaflofcnjakaaaaDoor.Pl Go.Proofs.YtaflofcnjakaaaaDoor.P Go.Proofs.YtaflofcnjakaaaaDoor.A
set_option linter.unusedVariables false
set_option linter.unusedSimpArgs false
theorem fixed_f (v n : Nat) (h1 : 1 ≤ n) (h8 : n ≤ 8) (hv : v < 256 ^ n) (h63 : v < 18446744073709551616) : ∃ k, root_fixed.f k (v : Int) (n : Int) = some (fixL v n) := by
  obtain ⟨K, hK⟩ := fixed_ev h63 (n : Int)
  have h2 : wire_Fixed.f K (v : Int) (n : Int) = some (fixR v (n : Int)) := hK K (Nat.le_refl _)
  refine ⟨K, ?_⟩
  unfold root_fixed.f
  rw [u64w (by omega) (by omega), h2]
  unfold fixR
  rw [if_neg (by omega), Int.toNat_natCast, if_pos (Nat.div_eq_of_lt hv)]
  rfl
section
variable {w0 w : World} {L : List Th}
theorem Sep.fixed (h : Sep w0 w L) (x : Int) (n : Nat) (h1 : 1 ≤ n) (h8 : n ≤ 8) (h0 : 0 ≤ x) (hv : x.toNat < 256 ^ n) (h63 : x < 18446744073709551616) :
    Calls Tryd.prog 37 #[.int .i64 x, .int .i64 (n : Int)] w fun e w' => ∃ v, e = .returned v ∧ Sep w0 w' (ownT (Kd.int .u8) 5 v (fixL x.toNat n) :: L) := by
  obtain ⟨v, rfl⟩ : ∃ v : Nat, x = (v : Int) := ⟨x.toNat, by omega⟩
  rw [Int.toNat_natCast] at hv ⊢
  obtain ⟨k, hk⟩ := fixed_f v n h1 h8 hv (by omega)
  refine (root_fixed.calls k (v : Int) (n : Int) _ w hk).mono ?_
  rintro e w' ⟨v1, he, hr, hb⟩
  exact ⟨v1, he, h.push_own hr hb⟩
theorem Sep.fixed4 (h : Sep w0 w L) (x : Int) (h0 : 0 ≤ x) (hv : x < 4294967296) :
    Calls Tryd.prog 37 #[.int .i64 x, .int .i64 4] w fun e w' => ∃ v, e = .returned v ∧ Sep w0 w' (ownT (Kd.int .u8) 5 v (fixL x.toNat 4) :: L) := h.fixed x 4 (by decide) (by decide) h0 (by omega) (by omega)
theorem Sep.fixed8 (h : Sep w0 w L) (x : Int) (h0 : 0 ≤ x) (hv : x < 18446744073709551616) :
    Calls Tryd.prog 37 #[.int .i64 x, .int .i64 8] w fun e w' => ∃ v, e = .returned v ∧ Sep w0 w' (ownT (Kd.int .u8) 5 v (fixL x.toNat 8) :: L) := h.fixed x 8 (by decide) (by decide) h0 (by omega) (by omega)
end
set_option maxHeartbeats 8000000 in
set_option maxRecDepth 100000 in
theorem fields_calls (s : SL) (hs : s.Ok) (w : World) : Calls Tryd.prog 36 #[.agg s.V.toArray] w fun e w' => e = .returned (.agg #[.int .i64 s.a, .int .i64 4, .int .i64 s.b, .int .i64 4, .int .i64 s.c, .int .i64 8, .int .i64 s.d, .int .i64 8, .int .i64 s.e, .int .i64 8]) ∧ Below w.heap.size w w' := by
  have HB := Aside0.mk (below_alloc (Below.refl w.heap.size w) (.cells s.V.toArray 27))
  have HS := Aside0.mk (SlAt.mk (heap_alloc_new w (.cells s.V.toArray 27)) hs)
  clear hs
  generalize hV : s.V.toArray = V at HB ⊢
  rw [hV] at HS
  clear hV
  go_enter Tryd.func36, Tryd.ntmps36
  go_upto_region 1 with (fail)
  have HB2 := Aside0.mk (below_alloc HB.out (.cells #[.int .i64 0, .int .i64 0, .int .i64 0, .int .i64 0, .int .i64 0, .int .i64 0, .int .i64 0, .int .i64 0, .int .i64 0, .int .i64 0] 84))
  have HS2 := Aside0.mk (HS.out.below (below_alloc (Below.refl (w.alloc (.cells V 27)).heap.size (w.alloc (.cells V 27))) (.cells #[.int .i64 0, .int .i64 0, .int .i64 0, .int .i64 0, .int .i64 0, .int .i64 0, .int .i64 0, .int .i64 0, .int .i64 0, .int .i64 0] 84)))
  have x0 := HS2.out.c0
  have x1 := HS2.out.c1
  have x2 := HS2.out.c2
  have x3 := HS2.out.c3
  have x4 := HS2.out.c4
  have HBf := Aside0.mk (below_alloc HB.out (.cells #[.int .i64 s.a, .int .i64 4, .int .i64 s.b, .int .i64 4, .int .i64 s.c, .int .i64 8, .int .i64 s.d, .int .i64 8, .int .i64 s.e, .int .i64 8] 84))
  go_wp2
  exact bodyPost_ret (v := .agg #[.int .i64 s.a, .int .i64 4, .int .i64 s.b, .int .i64 4, .int .i64 s.c, .int .i64 8, .int .i64 s.d, .int .i64 8, .int .i64 s.e, .int .i64 8]) (by simp [results, Tryd.results36, go_sem]) rfl ⟨rfl, HBf.out⟩
set_option maxHeartbeats 8000000 in
set_option maxRecDepth 100000 in
theorem Sep.laid {w0 w : World} {L : List Th} {v : Value} {xs : List Int} (hsep : Sep w0 w (ownT (Kd.int .u8) 5 v xs :: L)) (h : List Int) (f l : Int) (hh : h.length = 32) (hf : 0 ≤ f ∧ f < 4294967296) (hl : 0 ≤ l ∧ l < 4294967296) (hx : xs.length ≤ 1000000) :
    Calls Tryd.prog 38 #[v, .agg (refV h f l).toArray] w fun e w' => ∃ v', e = .returned v' ∧ Sep w0 w' (ownT (Kd.int .u8) 5 v' (xs ++ refB h f l) :: L) := by
  have HS0 := Aside0.mk (hsep.push_alloc (refV h f l).toArray 25)
  have HH := Aside0.mk hh
  have HF := Aside0.mk (And.intro hf hl)
  have HX := Aside0.mk hx
  have HRf := Aside0.mk (show (refV h f l)[32]? = some (.int .i64 f) from by have := refV_f hh f l []; rwa [List.append_nil] at this)
  have HRl := Aside0.mk (show (refV h f l)[33]? = some (.int .i64 l) from by have := refV_l hh f l []; rwa [List.append_nil] at this)
  have HRh := Aside0.mk (show ((refV h f l).drop 0).take 32 = nums .u8 h from by unfold refV; rw [List.drop_zero, take_app (by rw [nums_length, hh])])
  clear hsep hh hf hl hx
  generalize hcr : refV h f l = cr at HS0 HRf HRl HRh ⊢
  clear hcr
  go_enter Tryd.func38, Tryd.ntmps38
  go_upto_region 1 with (fail)
  generalize w.alloc (.cells cr.toArray 25) = w1 at HS0 ⊢
  generalize w.heap.size = gr at HS0 ⊢
  go_upto_region 2 with ((with_reducible refine gate_builtin (b := .append) (xs := #[.tmp 5, .tmp 7]) rfl ?_); refine Sep.app_row rfl _ _ rfl h rfl rfl HS0.out.up1 (C_segn HS0.out.cells.1 0 h 32 HH.out HRh.out (by decide)) ?aL1 ?_; (case aL1 => have := HX.out; omega); intro v1 w2 h1; have HS1 := Aside0.mk h1; clear h1)
  have x1 : w2.cell? ⟨gr, 32, none⟩ = some (.int .i64 f) := cell_at HS1.out.up1.cells.1 32 HRf.out
  clear HS0
  go_upto_region 3 with (first
    | (go_at_call 37; (with_reducible refine (Sep.fixed4 HS1.out f HF.out.1.1 HF.out.1.2).mono ?_); rintro e w3 ⟨v2, rfl, h2⟩; have HS2 := Aside0.mk h2; clear h2 x1)
    | ((with_reducible refine gate_builtin (b := .append) (xs := #[.tmp 9, .tmp 12]) rfl ?_); refine Sep.app_own rfl _ _ rfl rfl rfl HS2.out.up1 ?aL2 ?_; (case aL2 => have := HX.out; have := HH.out; rw [fixL_len, List.length_append]; omega); intro v3 w4 h3; have HS3 := Aside0.mk h3; clear h3))
  have x2 : w4.cell? ⟨gr, 33, none⟩ = some (.int .i64 l) := cell_at HS3.out.up2.cells.1 33 HRl.out
  clear HS1 HS2
  go_wp2_with (first
    | (go_at_call 37; (with_reducible refine (Sep.fixed4 HS3.out l HF.out.2.1 HF.out.2.2).mono ?_); rintro e w5 ⟨v4, rfl, h4⟩; have HS4 := Aside0.mk h4; clear h4 x2)
    | ((with_reducible refine gate_builtin (b := .append) (xs := #[.tmp 14, .tmp 17]) rfl ?_); refine Sep.app_own rfl _ _ rfl rfl rfl HS4.out.up1 ?aL3 ?_; (case aL3 => have := HX.out; have := HH.out; simp only [fixL_len, List.length_append]; omega); intro v5 w6 h5; have HS5 := Aside0.mk h5; clear h5))
  go_ret
  exact ⟨v5, rfl, by have h9 := HS5.out.up1.drop.up1.drop.up1.drop; unfold refB; rwa [List.append_assoc, List.append_assoc] at h9⟩
end Go.Proofs.YtaflofcnjakaaaaDoor.M

namespace Go.Proofs.YtaflofcnjakaaaaDoor.M
open Go.RowKit Go.Maps Go.Proofs.YtaflofcnjakaaaaDoorW.PrintWords Go.Proofs.YtaflofcnjakaaaaDoorW.PrintLast Go.Proofs.YtaflofcnjakaaaaDoorW.PrintMore Go.Proofs.YtaflofcnjakaaaaDoor.Wr Go.Proofs.YtaflofcnjakaaaaDoor.Pl Go.Proofs.YtaflofcnjakaaaaDoor.P Go.Proofs.YtaflofcnjakaaaaDoor.A
set_option linter.unusedVariables false
set_option linter.unusedSimpArgs false
def preB (s : SL) (j : Nat) : List Int := match j with
  | 0 => [107, 105, 108, 110]
  | 1 => [107, 105, 108, 110] ++ fixL s.a.toNat 4
  | 2 => [107, 105, 108, 110] ++ fixL s.a.toNat 4 ++ fixL s.b.toNat 4
  | 3 => [107, 105, 108, 110] ++ fixL s.a.toNat 4 ++ fixL s.b.toNat 4 ++ fixL s.c.toNat 8
  | 4 => [107, 105, 108, 110] ++ fixL s.a.toNat 4 ++ fixL s.b.toNat 4 ++ fixL s.c.toNat 8 ++ fixL s.d.toNat 8
  | _ => [107, 105, 108, 110] ++ fixL s.a.toNat 4 ++ fixL s.b.toNat 4 ++ fixL s.c.toNat 8 ++ fixL s.d.toNat 8 ++ fixL s.e.toNat 8
theorem preB_len (s : SL) : (preB s 0).length = 4 ∧ (preB s 1).length = 8 ∧ (preB s 2).length = 12 ∧ (preB s 3).length = 20 ∧ (preB s 4).length = 28 ∧ (preB s 5).length = 36 := by
  simp only [preB, List.length_append, fixL_len]
  exact ⟨rfl, rfl, rfl, rfl, rfl, rfl⟩
theorem preB_body (s : SL) : preB s 5 ++ s.key ++ refB s.rh s.rf s.rl ++ refB s.mh s.mf s.ml = bodyB s := by
  unfold bodyB numB
  simp only [preB, List.append_assoc]
theorem splice_pad {x : List Int} {n : Nat} (h : x.length = n) (m : Nat) : splice (List.replicate (n + m) (0 : Int)) 0 x = x ++ List.replicate m 0 := by
  unfold splice
  rw [List.take_zero, List.nil_append, Nat.zero_add, h, List.drop_replicate, Nat.add_sub_cancel_left]
theorem splice_end {x y z : List Int} {n : Nat} (h : x.length = n) (hz : z.length = y.length) : splice (x ++ y) n z = x ++ z := by
  unfold splice
  rw [take_app h, drop_add, drop_app h, hz, List.drop_length, List.append_nil]
theorem enc_splice {s : SL} (h : s.Ok) : splice (splice (List.replicate 512 0) 0 (bodyB s)) 508 (fixL (crc (padB s)) 4) = encB s := by
  rw [show (512 : Nat) = 148 + 364 from rfl, splice_pad (bodyB_len h), show (364 : Nat) = 360 + 4 from rfl, ← List.replicate_append_replicate, ← List.append_assoc]
  exact splice_end (padB_len h) (by rw [fixL_len, List.length_replicate])
theorem splice_take {s : SL} (h : s.Ok) : (splice (List.replicate 512 0) 0 (bodyB s)).take 508 = padB s := by
  rw [show (512 : Nat) = 148 + 364 from rfl, splice_pad (bodyB_len h), show (364 : Nat) = 360 + 4 from rfl, ← List.replicate_append_replicate, ← List.append_assoc]
  exact take_app (padB_len h)
theorem sum_one {b : List Int} (hb : bytes_ b) (hl : b.length ≤ 4611686018427387904) : wire_Sum.f [b] = some ((crc b : Nat) : Int) := by
  rw [sum_some [b] (by simp) (fun x hx => by rw [List.mem_singleton.1 hx]; exact ⟨hl, hb⟩)]
  rfl
section
variable {w0 w : World} {L : List Th}
theorem Sep.sum_blk {gq g ty e m c : Nat} {ys : List Int} {b : List Int} (h : Sep w0 w (cellsT gq #[.slice (some ⟨g, 0, none⟩) m c] e :: cellsT g (nums .u8 ys).toArray ty :: L)) (hH : Wr.Half w) (hb : bytes_ b) (hm : b.length = m) (hy : ys.take m = b) (hc : m ≤ c) (hl : m ≤ 1000000) :
    Calls Tryd.prog 39 #[.slice (some ⟨gq, 0, none⟩) 1 1] w fun e' w' => e' = .returned (.int .u32 ((crc b : Nat) : Int)) ∧ Sep w0 w' (cellsT gq #[.slice (some ⟨g, 0, none⟩) m c] e :: cellsT g (nums .u8 ys).toArray ty :: L) := by
  have hC : (Kd.int .u8).C w (some ⟨g, 0, none⟩) b.length b := C_segn h.up1.cells.1 0 b b.length rfl (by rw [List.drop_zero, hm]; unfold nums; rw [← List.map_take, hy]) (by omega)
  have hC2 : Kd.C (Kd.slice 5 (Kd.int .u8)) w (some ⟨gq, 0, none⟩) [b].length [b] := ⟨rfl, by show 1 ≤ 9223372036854775807; decide, fun _ => ⟨_, rfl, fun j p hp => by
    obtain rfl : j = 0 := by
      have := (List.getElem?_eq_some_iff.1 hp).1
      simp at this
      exact this
    cases hp
    refine ⟨[.slice (some ⟨g, 0, none⟩) m c], rfl, ⟨some ⟨g, 0, none⟩, c, by rw [hm], by omega, hC⟩, fun i u hu => ?_⟩
    obtain rfl : i = 0 := by
      have := (List.getElem?_eq_some_iff.1 hu).1
      simp at this
      exact this
    cases hu
    exact blk_cell h.cells.1 0⟩⟩
  refine (wire_Sum.calls (some ⟨gq, 0, none⟩) 1 [b] _ w hC2 (by show 1 ≤ 1; decide) hH (sum_one hb (by omega))).mono ?_
  rintro e' w' ⟨rfl, n, rfl⟩
  exact ⟨rfl, h.step (pw_below_drewN (Below.refl _ _) n)⟩
end
def enc11_T : Bool × List (List Nat × List Nat) := (true, [([], []), ([], []), ([1], [1]), ([0, 2], [0, 2]), ([], []), ([4], [4]), ([3, 5, 3], [3, 5]), ([6, 6, 0, 1, 2, 3, 4, 5, 6], [0, 6])])
def enc11_B : List Nat := [0, 0, 2, 7, 0, 16, 63, 127]
theorem enc11_tab : rtab .any (opsOf Tryd.f12 11) = enc11_T := by kernel_rfl
theorem enc11_bits : waitsOk enc11_T.2 enc11_B = true := by kernel_rfl
def enc14_T : Bool × List (List Nat × List Nat) := (true, [([], []), ([], []), ([1], [1]), ([2], [2]), ([3], [3]), ([4, 3], [4]), ([0, 5, 5], [0, 5])])
def enc14_B : List Nat := [0, 0, 2, 6, 14, 30, 63]
theorem enc14_tab : rtab .any (opsOf Tryd.f12 14) = enc14_T := by kernel_rfl
theorem enc14_bits : waitsOk enc14_T.2 enc14_B = true := by kernel_rfl
set_option maxHeartbeats 16000000 in
set_option maxRecDepth 100000 in
theorem Sep.encode {w0 w : World} {L : List Th} (hsep : Sep w0 w L) (hH : Wr.Half w0) (s : SL) (hs : s.Ok) (hm : mayM s = true) :
    Calls Tryd.prog 12 #[.agg s.V.toArray] w fun e w' => ∃ g, e = .returned (.tuple #[.slice (some ⟨g, 0, none⟩) 512 512, .int .i64 0]) ∧ Sep w0 w' (cellsT g (nums .u8 (encB s)).toArray 89 :: L) := by
  have HS0 := Aside0.mk (hsep.push_alloc s.V.toArray 27)
  have HHf := Aside0.mk hH
  have HOK := Aside0.mk hs
  have hmay := (may_iff s).1 hm
  have HMY := Aside0.mk hmay
  have HMR := Aside0.mk (show ((0 ≤ s.rf ∧ s.rf < 4294967296) ∧ (0 ≤ s.rl ∧ s.rl < 4294967296) ∧ (0 ≤ s.mf ∧ s.mf < 4294967296) ∧ (0 ≤ s.ml ∧ s.ml < 4294967296)) from by
    obtain ⟨a1, a2, b1, b2, ab, c, d, e, r, m⟩ := hmay
    omega)
  have HMAY := Aside0.mk (fun W => (show Calls Tryd.prog 35 #[.agg s.V.toArray] W (fun e w' => e = .returned (.bool true) ∧ Below W.heap.size W w') from by have h := may_calls s hs W; rw [hm] at h; exact h))
  have HFLD := Aside0.mk (fun W => fields_calls s hs W)
  have HSA := Aside0.mk (SlAt.sa hs)
  clear hsep hH hs hm hmay
  generalize hV : s.V.toArray = V at HS0 HMAY HFLD HSA ⊢
  have HV := Aside0.mk hV
  clear hV
  have HNB := Aside0.mk (show ((0 ≤ s.a ∧ s.a < 4294967296) ∧ (0 ≤ s.b ∧ s.b < 4294967296) ∧ (0 ≤ s.c ∧ s.c < 1099511627777) ∧ (0 ≤ s.d ∧ s.d < 1099511627777) ∧ (0 ≤ s.e ∧ s.e < 1099511627777)) from by
    obtain ⟨a1, a2, b1, b2, ab, c, d, e, r, m⟩ := HMY.out
    omega)
  have HLN := Aside0.mk (show (preB s 5 ++ s.key).length ≤ 1000000 ∧ (preB s 5 ++ s.key ++ refB s.rh s.rf s.rl).length ≤ 1000000 from by
    simp only [List.length_append, (preB_len s).2.2.2.2.2, HOK.out.k, refB_len HOK.out.r]
    omega)
  have hkc := fun (w : World) (C : Array Value) (n c : Nat) => Lib.run_convert_bytes_const (P := Tryd.prog) w 28 5 C n c Tryd.underlying28 Tryd.underlying5
  have hz := (zero_of_info (P := Tryd.prog) (t := 89) (v := .agg (nums .u8 (List.replicate 512 0)).toArray) (n := 512) (by kernel_rfl)).1
  generalize hZ : (nums .u8 (List.replicate 512 0)).toArray = Z at hz
  have HZ := Aside0.mk hZ
  clear hZ
  go_enter Tryd.func12, Tryd.ntmps12
  go_upto_region 1 with (fail)
  generalize w.alloc (.cells V 27) = w1 at HS0 ⊢
  generalize w.heap.size = g0 at HS0 ⊢
  have HLD := Aside0.mk (fun W (M : List Th) (h : Sep w0 W (cellsT g0 V 27 :: M)) => (show ∀ j v, V.toList[j]? = some v → W.cell? ((⟨g0, 0, none⟩ : Addr).add j) = some v from fun j v hv => seg_at (cs := V.toList) (by rw [Array.toArray_toList]; exact h.cells.1) 0 V.toList (by rw [List.drop_zero]; exact List.take_of_length_le (Nat.le_refl _)) j v hv))
  go_upto_region 4 with (first
    | ((with_reducible refine gate_load (ty := 27) rfl ?_); refine wpList_ldw ?_ 27 _ rfl ⟨g0, 0, none⟩ ?_ V _ (HLD.out _ _ HS0.out) Tryd.underlying27 rfl HSA.out ?_; exact rfl; exact rfl; skip)
    | (go_at_call 35; (with_reducible refine (HMAY.out _).mono ?_); rintro e w2 ⟨rfl, hb⟩; have HS1 := Aside0.mk (HS0.out.step hb); clear hb))
  clear hkc HMAY
  have HS2 := Aside0.mk (HS1.out.push_obj (.cells #[.int .u8 107, .int .u8 105, .int .u8 108, .int .u8 110] 5 (4, 5)))
  generalize w2.alloc (.cells #[.int .u8 107, .int .u8 105, .int .u8 108, .int .u8 110] 5 (4, 5)) = w3 at HS2 ⊢
  generalize w2.heap.size = gk at HS2 ⊢
  clear HS0 HS1
  go_upto_region 5 with (first
    | ((with_reducible refine gate_load (ty := 27) rfl ?_); refine wpList_ldw ?_ 27 _ rfl ⟨g0, 0, none⟩ ?_ V _ (HLD.out _ _ HS2.out.up1) Tryd.underlying27 rfl HSA.out ?_; exact rfl; exact rfl; skip)
    | (go_at_call 36; (with_reducible refine (HFLD.out _).mono ?_); rintro e w4 ⟨rfl, hb⟩; have HS3 := Aside0.mk (HS2.out.step hb); clear hb))
  have HS4 := Aside0.mk (HS3.out.push_alloc #[.int .i64 s.a, .int .i64 4, .int .i64 s.b, .int .i64 4, .int .i64 s.c, .int .i64 8, .int .i64 s.d, .int .i64 8, .int .i64 s.e, .int .i64 8] 84)
  generalize w4.alloc (.cells #[.int .i64 s.a, .int .i64 4, .int .i64 s.b, .int .i64 4, .int .i64 s.c, .int .i64 8, .int .i64 s.d, .int .i64 8, .int .i64 s.e, .int .i64 8] 84) = w5_ at HS4 ⊢
  generalize w4.heap.size = gf at HS4 ⊢
  clear HS2 HS3 HFLD
  go_wp2
  go_loopg [4, 18] 5 (fun kq v4 v18 wr => ∃ j : Nat, v18 = .int .i64 j ∧ Aside0 (j + kq = 5) ∧ ((j = 0 ∧ v4 = .slice (some ⟨gk, 0, none⟩) 4 4 ∧ Aside0 (Sep w0 wr (cellsT gf #[.int .i64 s.a, .int .i64 4, .int .i64 s.b, .int .i64 4, .int .i64 s.c, .int .i64 8, .int .i64 s.d, .int .i64 8, .int .i64 s.e, .int .i64 8] 84 :: blkT gk (.cells #[.int .u8 107, .int .u8 105, .int .u8 108, .int .u8 110] 5 (4, 5)) :: cellsT g0 V 27 :: L))) ∨
    (0 < j ∧ Aside0 (Sep w0 wr (ownT (Kd.int .u8) 5 v4 (preB s j) :: cellsT gf #[.int .i64 s.a, .int .i64 4, .int .i64 s.b, .int .i64 4, .int .i64 s.c, .int .i64 8, .int .i64 s.d, .int .i64 8, .int .i64 s.e, .int .i64 8] 84 :: blkT gk (.cells #[.int .u8 107, .int .u8 105, .int .u8 108, .int .u8 110] 5 (4, 5)) :: cellsT g0 V 27 :: L)))))
  case atStart => exact ⟨0, rfl, ⟨rfl⟩, .inl ⟨rfl, rfl, HS4⟩⟩
  case round =>
    obtain ⟨j, rfl, HJ, hst⟩ := hrel
    by_cases hj : j < 5
    · have hjj : j = 0 ∨ j = 1 ∨ j = 2 ∨ j = 3 ∨ j = 4 := by omega
      clear hj HS4
      rcases hst with ⟨rfl, rfl, hS⟩ | ⟨h0, hS⟩
      · have hf := blk_cell hS.out.cells.1
        clear hjj
        have y0 : wr.cell? ⟨gf, 0, none⟩ = some (.int .i64 s.a) := hf 0
        have y1 : wr.cell? ⟨gf, 1, none⟩ = some (.int .i64 4) := hf 1
        clear hf
        go_upto_region 8 with (fail)
        have HSr := Aside0.mk (hS.out.push_alloc #[.int .i64 s.a, .int .i64 4] 83)
        clear y0 y1
        generalize wr.alloc (.cells #[.int .i64 s.a, .int .i64 4] 83) = w5 at HSr ⊢
        generalize wr.heap.size = gt at HSr ⊢
        have z0 : w5.cell? ⟨gt, 0, none⟩ = some (.int .i64 s.a) := blk_cell HSr.out.cells.1 0
        have z1 : w5.cell? ⟨gt, 1, none⟩ = some (.int .i64 4) := blk_cell HSr.out.cells.1 1
        go_wp2_with (first
          | (go_at_call 37; (with_reducible refine (Sep.fixed4 HSr.out s.a (by have := HNB.out; omega) (by have := HNB.out; omega)).mono ?_); rintro e w6 ⟨v6, rfl, h6⟩; have HS6 := Aside0.mk h6; clear h6 z0 z1)
          | ((with_reducible refine gate_builtin (b := .append) (xs := #[.tmp 22, .tmp 27]) rfl ?_); refine Sep.app_grow rfl _ _ rfl rfl rfl (C_const (n := 4) (ys := [107, 105, 108, 110]) HS6.out.up3.blk rfl (by decide)) HS6.out ?aP0 ?aL0 ?_; (case aP0 => rw [fixL_len]; decide); (case aL0 => rw [fixL_len]; decide); intro v7 w7 h7; have HS7 := Aside0.mk h7; clear h7))
        go_roundg (gk - 1)
        case measure => have := HJ.out; omega
        case rel => exact ⟨1, rfl, ⟨by have := HJ.out; omega⟩, .inr ⟨by decide, ⟨HS7.out.up1.drop.up1.drop⟩⟩⟩
      · have hf := blk_cell hS.out.up1.cells.1
        rcases hjj with rfl | rfl | rfl | rfl | rfl
        · omega
        · have y0 : wr.cell? ⟨gf, 2, none⟩ = some (.int .i64 s.b) := hf 2
          have y1 : wr.cell? ⟨gf, 3, none⟩ = some (.int .i64 4) := hf 3
          clear hf
          go_upto_region 8 with (fail)
          have HSr := Aside0.mk (hS.out.push_alloc #[.int .i64 s.b, .int .i64 4] 83)
          clear y0 y1
          generalize wr.alloc (.cells #[.int .i64 s.b, .int .i64 4] 83) = w5 at HSr ⊢
          generalize wr.heap.size = gt at HSr ⊢
          have z0 : w5.cell? ⟨gt, 0, none⟩ = some (.int .i64 s.b) := blk_cell HSr.out.cells.1 0
          have z1 : w5.cell? ⟨gt, 1, none⟩ = some (.int .i64 4) := blk_cell HSr.out.cells.1 1
          go_wp2_with (first
            | (go_at_call 37; (with_reducible refine (Sep.fixed4 HSr.out s.b (by have := HNB.out; omega) (by have := HNB.out; omega)).mono ?_); rintro e w6 ⟨v6, rfl, h6⟩; have HS6 := Aside0.mk h6; clear h6 z0 z1)
            | ((with_reducible refine gate_builtin (b := .append) (xs := #[.tmp 22, .tmp 27]) rfl ?_); refine Sep.app_own rfl _ _ rfl rfl rfl HS6.out.up2 ?aL1 ?_; (case aL1 => have := preB_len s; rw [fixL_len]; omega); intro v7 w7 h7; have HS7 := Aside0.mk h7; clear h7))
          go_roundg (gk - 1)
          case measure => have := HJ.out; omega
          case rel => exact ⟨2, rfl, ⟨by have := HJ.out; omega⟩, .inr ⟨by decide, ⟨HS7.out.up1.drop.up1.drop⟩⟩⟩
        · have y0 : wr.cell? ⟨gf, 4, none⟩ = some (.int .i64 s.c) := hf 4
          have y1 : wr.cell? ⟨gf, 5, none⟩ = some (.int .i64 8) := hf 5
          clear hf
          go_upto_region 8 with (fail)
          have HSr := Aside0.mk (hS.out.push_alloc #[.int .i64 s.c, .int .i64 8] 83)
          clear y0 y1
          generalize wr.alloc (.cells #[.int .i64 s.c, .int .i64 8] 83) = w5 at HSr ⊢
          generalize wr.heap.size = gt at HSr ⊢
          have z0 : w5.cell? ⟨gt, 0, none⟩ = some (.int .i64 s.c) := blk_cell HSr.out.cells.1 0
          have z1 : w5.cell? ⟨gt, 1, none⟩ = some (.int .i64 8) := blk_cell HSr.out.cells.1 1
          go_wp2_with (first
            | (go_at_call 37; (with_reducible refine (Sep.fixed8 HSr.out s.c (by have := HNB.out; omega) (by have := HNB.out; omega)).mono ?_); rintro e w6 ⟨v6, rfl, h6⟩; have HS6 := Aside0.mk h6; clear h6 z0 z1)
            | ((with_reducible refine gate_builtin (b := .append) (xs := #[.tmp 22, .tmp 27]) rfl ?_); refine Sep.app_own rfl _ _ rfl rfl rfl HS6.out.up2 ?aL2 ?_; (case aL2 => have := preB_len s; rw [fixL_len]; omega); intro v7 w7 h7; have HS7 := Aside0.mk h7; clear h7))
          go_roundg (gk - 1)
          case measure => have := HJ.out; omega
          case rel => exact ⟨3, rfl, ⟨by have := HJ.out; omega⟩, .inr ⟨by decide, ⟨HS7.out.up1.drop.up1.drop⟩⟩⟩
        · have y0 : wr.cell? ⟨gf, 6, none⟩ = some (.int .i64 s.d) := hf 6
          have y1 : wr.cell? ⟨gf, 7, none⟩ = some (.int .i64 8) := hf 7
          clear hf
          go_upto_region 8 with (fail)
          have HSr := Aside0.mk (hS.out.push_alloc #[.int .i64 s.d, .int .i64 8] 83)
          clear y0 y1
          generalize wr.alloc (.cells #[.int .i64 s.d, .int .i64 8] 83) = w5 at HSr ⊢
          generalize wr.heap.size = gt at HSr ⊢
          have z0 : w5.cell? ⟨gt, 0, none⟩ = some (.int .i64 s.d) := blk_cell HSr.out.cells.1 0
          have z1 : w5.cell? ⟨gt, 1, none⟩ = some (.int .i64 8) := blk_cell HSr.out.cells.1 1
          go_wp2_with (first
            | (go_at_call 37; (with_reducible refine (Sep.fixed8 HSr.out s.d (by have := HNB.out; omega) (by have := HNB.out; omega)).mono ?_); rintro e w6 ⟨v6, rfl, h6⟩; have HS6 := Aside0.mk h6; clear h6 z0 z1)
            | ((with_reducible refine gate_builtin (b := .append) (xs := #[.tmp 22, .tmp 27]) rfl ?_); refine Sep.app_own rfl _ _ rfl rfl rfl HS6.out.up2 ?aL3 ?_; (case aL3 => have := preB_len s; rw [fixL_len]; omega); intro v7 w7 h7; have HS7 := Aside0.mk h7; clear h7))
          go_roundg (gk - 1)
          case measure => have := HJ.out; omega
          case rel => exact ⟨4, rfl, ⟨by have := HJ.out; omega⟩, .inr ⟨by decide, ⟨HS7.out.up1.drop.up1.drop⟩⟩⟩
        · have y0 : wr.cell? ⟨gf, 8, none⟩ = some (.int .i64 s.e) := hf 8
          have y1 : wr.cell? ⟨gf, 9, none⟩ = some (.int .i64 8) := hf 9
          clear hf
          go_upto_region 8 with (fail)
          have HSr := Aside0.mk (hS.out.push_alloc #[.int .i64 s.e, .int .i64 8] 83)
          clear y0 y1
          generalize wr.alloc (.cells #[.int .i64 s.e, .int .i64 8] 83) = w5 at HSr ⊢
          generalize wr.heap.size = gt at HSr ⊢
          have z0 : w5.cell? ⟨gt, 0, none⟩ = some (.int .i64 s.e) := blk_cell HSr.out.cells.1 0
          have z1 : w5.cell? ⟨gt, 1, none⟩ = some (.int .i64 8) := blk_cell HSr.out.cells.1 1
          go_wp2_with (first
            | (go_at_call 37; (with_reducible refine (Sep.fixed8 HSr.out s.e (by have := HNB.out; omega) (by have := HNB.out; omega)).mono ?_); rintro e w6 ⟨v6, rfl, h6⟩; have HS6 := Aside0.mk h6; clear h6 z0 z1)
            | ((with_reducible refine gate_builtin (b := .append) (xs := #[.tmp 22, .tmp 27]) rfl ?_); refine Sep.app_own rfl _ _ rfl rfl rfl HS6.out.up2 ?aL4 ?_; (case aL4 => have := preB_len s; rw [fixL_len]; omega); intro v7 w7 h7; have HS7 := Aside0.mk h7; clear h7))
          go_roundg (gk - 1)
          case measure => have := HJ.out; omega
          case rel => exact ⟨5, rfl, ⟨by have := HJ.out; omega⟩, .inr ⟨by decide, ⟨HS7.out.up1.drop.up1.drop⟩⟩⟩
    · have hj5 : j = 5 := by have := HJ.out; omega
      rcases hst with ⟨hz, _, _⟩ | ⟨h0, hS⟩
      · omega
      · subst hj5
        have HS5 := Aside0.mk (hS.out.up1.drop.up1.drop)
        clear hj h0 hS HS4 HJ
        have HSLf := Aside0.mk (fun W (t : Th) (M : List Th) (h : Sep w0 W (t :: cellsT g0 V 27 :: M)) => (show SlAt W g0 s from ⟨by rw [HV.out]; exact h.up1.cells.1, HOK.out⟩))
        have HC5 := Aside0.mk (show (Kd.int .u8).C wr (some ⟨g0, 5, none⟩) 32 s.key from C_segn (HSLf.out _ _ _ HS5.out).b 5 s.key 32 HOK.out.k (by have := SL.V_key HOK.out; rwa [HOK.out.k] at this) (by decide))
        go_upto_region 11 with ((with_reducible refine gate_builtin (b := .append) (xs := #[.tmp 30, .tmp 32]) rfl ?_); refine Sep.app_row rfl _ _ rfl s.key rfl rfl HS5.out HC5.out ?aK ?_; (case aK => have := preB_len s; omega); intro v6 w6 h6; have HS6 := Aside0.mk h6; clear h6)
        have HS7 := Aside0.mk (HS6.out.step (below_drew1 (Below.refl w6.heap.size w6)))
        have HSL := Aside0.mk (HSLf.out _ _ _ HS7.out)
        clear HS5 HC5 HS6
        refine start_ (n := 8) (S := fun W => SlAt W g0 s) (ds := [7]) (bb 8 0) (by kernel_rfl) rfl rfl (HSL.out) (fun hHeld => ?_); refine with_tabW enc11_tab enc11_bits (fun HT_ HW_ => ?_)
        generalize w6.drew = wd at hHeld HS7 ⊢
        refine pure_ (i := 0) (N := (some 34)) (v := ?_) (a' := ?_) (bb 8 1) rfl rfl (any_of HT_.out (by kernel_rfl)) (fun _ _ _ h => h) (Or.inl ⟨by rfl, ?_⟩) ?_ ?_
        rotate_left
        · intro w'
          go_simp
          with_reducible rfl
        rotate_left
        · simp only [Act.put, List.setIfInBounds_toArray, List.set_cons_zero, List.set_cons_succ, i64_w, i32_w]
          rfl
        refine pure_ (i := 1) (N := (some 35)) (v := ?_) (a' := ?_) (bb 8 3) rfl rfl (any_of HT_.out (by kernel_rfl)) (fun _ _ _ h => h) (Or.inl ⟨by rfl, ?_⟩) ?_ ?_
        rotate_left
        · intro w'
          go_simp
          with_reducible rfl
        rotate_left
        · simp only [Act.put, List.setIfInBounds_toArray, List.set_cons_zero, List.set_cons_succ, i64_w, i32_w]
          rfl
        refine take_ (i := 2) (N := (some 36)) (v := .agg (refV s.rh s.rf s.rl).toArray) (a' := ?_) (bb 8 7) rfl rfl (take_ofW HT_.out HW_.out (by kernel_rfl)) (fun _ _ _ h => h) (Or.inl ⟨by rfl, fun w' s0 => yields_ld 25 _ rfl ⟨g0, 37, none⟩ rfl (refV s.rh s.rf s.rl).toArray _ s0.root Tryd.underlying25 rfl (SlAt.sr HOK.out)⟩) hHeld ?_ ?_
        rotate_left
        · simp only [Act.put, List.setIfInBounds_toArray, List.set_cons_zero, List.set_cons_succ, i64_w, i32_w]
          rfl
        refine pure_ (i := 4) (N := (some 38)) (v := ?_) (a' := ?_) (bb 8 23) rfl rfl (any_of HT_.out (by kernel_rfl)) (fun _ _ _ h => h) (Or.inl ⟨by rfl, ?_⟩) ?_ ?_
        rotate_left
        · intro w'
          go_simp
          with_reducible rfl
        rotate_left
        · simp only [Act.put, List.setIfInBounds_toArray, List.set_cons_zero, List.set_cons_succ, i64_w, i32_w]
          rfl
        refine take_ (i := 5) (N := (some 39)) (v := .agg (refV s.mh s.mf s.ml).toArray) (a' := ?_) (bb 8 55) rfl rfl (take_ofW HT_.out HW_.out (by kernel_rfl)) (fun _ _ _ h => h) (Or.inl ⟨by rfl, fun w' s0 => yields_ld 25 _ rfl ⟨g0, 71, none⟩ rfl (refV s.mh s.mf s.ml).toArray _ s0.memo Tryd.underlying25 rfl (SlAt.sm HOK.out)⟩) hHeld ?_ ?_
        rotate_left
        · simp only [Act.put, List.setIfInBounds_toArray, List.set_cons_zero, List.set_cons_succ, i64_w, i32_w]
          rfl
        refine one_ (i := 3) (N := (some 37)) (bb 8 63) rfl rfl (one_of HT_.out (by kernel_rfl)) (by decide) (fun K hK => ?_)
        refine goes_ Tryd.func38 (by kernel_rfl) rfl #[v6, .agg (refV s.rh s.rf s.rl).toArray] (by rfl) rfl rfl (by (try simp only [List.map_toArray, List.map_cons, List.map_nil]); first | done | rfl) ?_
        with_reducible refine (Sep.laid HS7.out s.rh s.rf s.rl HOK.out.r HMR.out.1 HMR.out.2.1 HLN.out.1).mono ?_
        rintro e w8 ⟨v8, rfl, h8⟩
        have HS8 := Aside0.mk h8
        clear h8
        refine ⟨_, rfl, ?_⟩
        refine hK.out _ _ (HSLf.out _ _ _ HS8.out) (fun hHeld => ?_)
        clear hK K
        refine norm_ (a' := ?_) ?_ ?_
        rotate_left
        · show Act.put _ (some 37) _ = _
          simp only [Act.put, List.setIfInBounds_toArray, List.set_cons_zero, List.set_cons_succ, i64_w, i32_w]
          rfl
        refine one_ (i := 6) (N := (some 40)) (bb 8 127) rfl rfl (one_of HT_.out (by kernel_rfl)) (by decide) (fun K hK => ?_)
        refine goes_ Tryd.func38 (by kernel_rfl) rfl #[v8, .agg (refV s.mh s.mf s.ml).toArray] (by rfl) rfl rfl (by (try simp only [List.map_toArray, List.map_cons, List.map_nil]); first | done | rfl) ?_
        with_reducible refine (Sep.laid HS8.out s.mh s.mf s.ml HOK.out.m HMR.out.2.2.1 HMR.out.2.2.2 HLN.out.2).mono ?_
        rintro e w9 ⟨v9, rfl, h9⟩
        have HS9 := Aside0.mk h9
        clear h9
        refine ⟨_, rfl, ?_⟩
        refine hK.out _ _ (HSLf.out _ _ _ HS9.out) (fun hHeld => ?_)
        clear hK K
        refine norm_ (a' := ?_) ?_ ?_
        rotate_left
        · show Act.put _ (some 40) _ = _
          simp only [Act.put, List.setIfInBounds_toArray, List.set_cons_zero, List.set_cons_succ, i64_w, i32_w]
          rfl
        refine pure_ (i := 7) (N := (some 4)) (v := ?_) (a' := ?_) (bb 8 255) rfl rfl (any_of HT_.out (by kernel_rfl)) (fun _ _ _ h => h) (Or.inl ⟨by rfl, ?_⟩) ?_ ?_
        rotate_left
        · intro w'
          go_simp
          with_reducible rfl
        rotate_left
        · simp only [Act.put, List.setIfInBounds_toArray, List.set_cons_zero, List.set_cons_succ, i64_w, i32_w]
          rfl
        refine done_ (done_of HT_.out (by kernel_rfl)) ?_
        have HS9b := Aside0.mk (show Sep w0 w9 (ownT (Kd.int .u8) 5 v9 (bodyB s) :: cellsT g0 V 27 :: L) from by have h := HS9.out; rwa [preB_body] at h)
        clear HS7 HS8 HS9 HSL hHeld HT_ HW_
        go_upto_region 13 with (fail)
        have HS10 := Aside0.mk (show Sep w0 (w9.alloc (.cells Z 89)) (cellsT w9.heap.size (nums .u8 (List.replicate 512 0)).toArray 89 :: ownT (Kd.int .u8) 5 v9 (bodyB s) :: cellsT g0 V 27 :: L) from by rw [HZ.out]; exact HS9b.out.push_alloc Z 89)
        generalize w9.alloc (.cells Z 89) = w10 at HS10 ⊢
        generalize w9.heap.size = g8 at HS10 ⊢
        clear HS9b hz
        go_upto_region 14 with ((with_reducible refine gate_builtin (b := .copy) (xs := #[.tmp 41, .tmp 42]) rfl ?_); refine Sep.copy_own (off := 0) rfl _ _ rfl rfl rfl HS10.out ?aP ?aQ ?aR ?_; (case aP => rw [bodyB_len HOK.out]; decide); (case aQ => rw [bodyB_len HOK.out]; decide); (case aR => rw [bodyB_len HOK.out, List.length_replicate]; decide); intro w11 h11; have HS11_ := Aside0.mk h11; clear h11)
        have HS11 := Aside0.mk (HS11_.out.step (below_drew1 (Below.refl w11.heap.size w11)))
        have HZL := Aside0.mk (show 508 + 4 ≤ (splice (List.replicate 512 (0 : Int)) 0 (bodyB s)).length from by rw [length_splice _ _ _ (by rw [bodyB_len HOK.out, List.length_replicate]; decide), List.length_replicate]; decide)
        have HSUM := Aside0.mk (fun W gq (M : List Th) (h : Sep w0 W (cellsT gq #[.slice (some ⟨g8, 0, none⟩) 508 512] 28 :: cellsT g8 (nums .u8 (splice (List.replicate 512 0) 0 (bodyB s))).toArray 89 :: M)) => Sep.sum_blk (b := padB s) h (HHf.out.below h.below) (bytes_padB HOK.out) (padB_len HOK.out) (splice_take HOK.out) (by decide) (by decide))
        have hnn : crc (padB s) < 4294967296 := crc_lt _
        have HES := Aside0.mk (enc_splice HOK.out)
        generalize crc (padB s) = n at HSUM hnn HES
        have HNL := Aside0.mk (show (n : Int) < 4294967296 by omega)
        have hwn : IntKind.i64.wrap (n : Int) = (n : Int) := by unfold IntKind.wrap; simp [IntKind.signed, IntKind.bits]; omega
        have hwn0 : (0 : Int) ≤ (n : Int) := by omega
        have hwn1 : (n : Int) ≤ 4294967295 := by omega
        clear HS10 HS11_ hnn
        refine start_ (n := 7) (S := fun W => True) (ds := [6]) (bb 7 0) (by kernel_rfl) rfl rfl (trivial) (fun hHeld => ?_); refine with_tabW enc14_tab enc14_bits (fun HT_ HW_ => ?_)
        generalize w11.drew = wd at hHeld HS11 ⊢
        refine pure_ (i := 0) (N := (some 44)) (v := ?_) (a' := ?_) (bb 7 1) rfl rfl (any_of HT_.out (by kernel_rfl)) (fun _ _ _ h => h) (Or.inl ⟨by rfl, ?_⟩) ?_ ?_
        rotate_left
        · intro w'
          go_simp
          with_reducible rfl
        rotate_left
        · simp only [Act.put, List.setIfInBounds_toArray, List.set_cons_zero, List.set_cons_succ, i64_w, i32_w]
          rfl
        refine pure_ (i := 1) (N := (some 45)) (v := ?_) (a' := ?_) (bb 7 3) rfl rfl (any_of HT_.out (by kernel_rfl)) (fun _ _ _ h => h) (Or.inl ⟨by rfl, ?_⟩) ?_ ?_
        rotate_left
        · intro w'
          go_simp
          with_reducible rfl
        rotate_left
        · simp only [Act.put, List.setIfInBounds_toArray, List.set_cons_zero, List.set_cons_succ, i64_w, i32_w]
          rfl
        refine one_ (i := 2) (N := (some 46)) (bb 7 7) rfl rfl (one_of HT_.out (by kernel_rfl)) (by decide) (fun K hK => ?_)
        refine value_ (w1 := ?_) (v := ?_) (by rfl) rfl ?_ ?_
        rotate_left 2
        · go_simp
          constructor
          · rfl
          · rfl
        have HSB := Aside0.mk (HS11.out.push_alloc #[.slice (some ⟨g8, 0, none⟩) 508 512] 28)
        generalize wd.alloc (.cells #[.slice (some ⟨g8, 0, none⟩) 508 512] 28) = w12 at HSB ⊢
        generalize wd.heap.size = gq at HSB ⊢
        refine hK.out _ _ (trivial) (fun hHeld => ?_)
        clear hK K
        refine norm_ (a' := ?_) ?_ ?_
        rotate_left
        · show Act.put _ (some 46) _ = _
          simp only [Act.put, List.setIfInBounds_toArray, List.set_cons_zero, List.set_cons_succ, i64_w, i32_w]
          rfl
        refine one_ (i := 3) (N := (some 47)) (bb 7 15) rfl rfl (one_of HT_.out (by kernel_rfl)) (by decide) (fun K hK => ?_)
        refine goes_ Tryd.func39 (by kernel_rfl) rfl #[.slice (some ⟨gq, 0, none⟩) 1 1] (by rfl) rfl rfl (by (try simp only [List.map_toArray, List.map_cons, List.map_nil]); first | done | rfl) ?_
        refine (HSUM.out w12 gq _ HSB.out).mono ?_
        rintro e w13 ⟨rfl, h13⟩
        have HS13 := Aside0.mk h13
        clear h13
        refine ⟨_, rfl, ?_⟩
        refine hK.out _ _ (trivial) (fun hHeld => ?_)
        clear hK K
        refine norm_ (a' := ?_) ?_ ?_
        rotate_left
        · show Act.put _ (some 47) _ = _
          simp only [Act.put, List.setIfInBounds_toArray, List.set_cons_zero, List.set_cons_succ, i64_w, i32_w]
          rfl
        refine pure_ (i := 4) (N := (some 48)) (v := ?_) (a' := ?_) (bb 7 31) rfl rfl (any_of HT_.out (by kernel_rfl)) (fun _ _ _ h => h) (Or.inl ⟨by rfl, ?_⟩) ?_ ?_
        rotate_left
        · intro w'
          go_simp
          with_reducible rfl
        rotate_left
        · simp only [Act.put, List.setIfInBounds_toArray, List.set_cons_zero, List.set_cons_succ, i64_w, i32_w]
          rfl
        refine one_ (i := 5) (N := (some 49)) (bb 7 63) rfl rfl (one_of HT_.out (by kernel_rfl)) (by decide) (fun K hK => ?_)
        refine goes_ Tryd.func37 (by kernel_rfl) rfl #[.int .i64 (n : Int), .int .i64 4] (by rfl) rfl rfl (by (try simp only [List.map_toArray, List.map_cons, List.map_nil]); first | done | rfl) ?_
        with_reducible refine (Sep.fixed4 HS13.out (n : Int) (Int.natCast_nonneg n) HNL.out).mono ?_
        rintro e w14 ⟨v14, rfl, h14⟩
        have HS14 := Aside0.mk h14
        clear h14
        refine ⟨_, rfl, ?_⟩
        refine hK.out _ _ (trivial) (fun hHeld => ?_)
        clear hK K
        refine norm_ (a' := ?_) ?_ ?_
        rotate_left
        · show Act.put _ (some 49) _ = _
          simp only [Act.put, List.setIfInBounds_toArray, List.set_cons_zero, List.set_cons_succ, i64_w, i32_w]
          rfl
        refine last_ (i := 6) (N := (some 50)) (bb 7 127) rfl rfl (one_of HT_.out (by kernel_rfl)) (by decide) (fun K hK => ?_)
        rw [if_pos (by rfl)]
        refine Sep.copy_wp (off := 508) _ _ rfl rfl rfl HS14.out.up2 (by rw [fixL_len]; decide) (by rw [fixL_len]; decide) (by rw [fixL_len]; exact HZL.out) (fun w15 h15 => ?_)
        have HS15 := Aside0.mk h15
        clear h15
        refine hK.out _ _ ?_
        clear hK K
        refine norm_ (a' := ?_) ?_ ?_
        rotate_left
        · show Act.put _ (some 50) _ = _
          simp only [Act.put, List.setIfInBounds_toArray, List.set_cons_zero, List.set_cons_succ, i64_w, i32_w]
          rfl
        refine done_ (done_of HT_.out (by kernel_rfl)) ?_
        clear HS11 HSB HS13 HS14 HSUM HZL HNL hHeld hwn hwn0 hwn1
        go_wp2
        go_ret2
        exact ⟨g8, rfl, by have h := HS15.out.up1.drop.up1.drop.up1.drop.up1.drop; rw [Int.toNat_natCast, HES.out] at h; exact h⟩
end Go.Proofs.YtaflofcnjakaaaaDoor.M

namespace Go.Proofs.YtaflofcnjakaaaaDoor.M
open Go.RowKit Go.Maps Go.Proofs.YtaflofcnjakaaaaDoorW.PrintWords Go.Proofs.YtaflofcnjakaaaaDoorW.PrintLast Go.Proofs.YtaflofcnjakaaaaDoorW.PrintMore Go.Proofs.YtaflofcnjakaaaaDoor.Wr Go.Proofs.YtaflofcnjakaaaaDoor.Pl Go.Proofs.YtaflofcnjakaaaaDoor.P Go.Proofs.YtaflofcnjakaaaaDoor.A
set_option linter.unusedVariables false
set_option linter.unusedSimpArgs false
set_option maxHeartbeats 8000000 in
set_option maxRecDepth 100000 in
theorem encode_no (s : SL) (hs : s.Ok) (hm : mayM s = false) (w : World) : Calls Tryd.prog 12 #[.agg s.V.toArray] w fun e w' => e = .returned (.tuple #[.slice none 0 0, .int .i64 180]) ∧ Below w.heap.size w w' := by
  have HB0 := Aside0.mk (below_alloc (Below.refl w.heap.size w) (.cells s.V.toArray 27))
  have HLD := Aside0.mk (SlAt.all (SlAt.mk (heap_alloc_new w (.cells s.V.toArray 27)) hs))
  have HMAY := Aside0.mk (fun W => (show Calls Tryd.prog 35 #[.agg s.V.toArray] W (fun e w' => e = .returned (.bool false) ∧ Below W.heap.size W w') from by have h := may_calls s hs W; rw [hm] at h; exact h))
  have HSA := Aside0.mk (SlAt.sa hs)
  clear hs hm
  generalize s.V.toArray = V at HB0 HLD HMAY HSA ⊢
  go_enter Tryd.func12, Tryd.ntmps12
  go_upto_region 1 with (fail)
  generalize w.alloc (.cells V 27) = w1 at HB0 HLD ⊢
  generalize w.heap.size = g0 at HLD ⊢
  go_wp2_with (first
    | ((with_reducible refine gate_load (ty := 27) rfl ?_); refine wpList_ldw ?_ 27 _ rfl ⟨g0, 0, none⟩ ?_ V _ HLD.out Tryd.underlying27 rfl HSA.out ?_; exact rfl; exact rfl; skip)
    | (go_at_call 35; (with_reducible refine (HMAY.out _).mono ?_); rintro e w2 ⟨rfl, hb⟩; have HB1 := Aside0.mk (below_step HB0.out hb); clear hb))
  go_ret2
  exact ⟨rfl, HB1.out⟩
theorem readF_at {b : List Int} (hb : bytes_ b) (hl : b.length = 512) (p n : Nat) (h1 : 1 ≤ n) (h8 : n ≤ 8) (hp : p + n ≤ 512) : ∃ k, wire_ReadFixed.f k b (p : Int) (n : Int) = some (((leV ((b.drop p).take n) : Nat) : Int), ((p + n : Nat) : Int), 0) := by
  obtain ⟨K, hK⟩ := readF_ev hb (by omega) (p : Int) (n : Int)
  have h2 : wire_ReadFixed.f K b (p : Int) (n : Int) = some (readFR b (p : Int) (n : Int)) := hK K (Nat.le_refl _)
  refine ⟨K, ?_⟩
  rw [h2]
  unfold readFR
  rw [if_neg (by omega), if_neg (by omega), Int.toNat_natCast, Int.toNat_natCast]
  rfl
def ReadsB (w0 : World) (L : List Th) (A : Option Addr) (b : List Int) : Prop := ∀ (W : World) (M : List Th), Sub L M → Sep w0 W M → (Kd.int .u8).C W A 512 b
def num1_T : Bool × List (List Nat × List Nat) := (true, [([], []), ([0], [0]), ([1], [1]), ([2], [2]), ([], []), ([4], [4]), ([5], [5]), ([6], [6]), ([], []), ([3, 7, 8], [3, 7, 8]), ([9], [9]), ([10], [10]), ([10], [10]), ([10], [10]), ([11, 9, 0, 1, 2, 3, 4, 5, 6, 7, 8, 9, 10, 11], [11]), ([12, 14, 0, 1, 2, 3, 4, 5, 6, 7, 8, 9, 10, 11, 12, 14], [12]), ([13, 15, 0, 1, 2, 3, 4, 5, 6, 7, 8, 9, 10, 11, 12, 13, 14, 15], [13])])
def num1_B : List Nat := [0, 1, 3, 7, 0, 16, 48, 112, 0, 511, 1023, 2047, 2047, 2047, 4095, 24575, 65535]
theorem num1_tab : rtab .any (opsOf Tryd.f56 1) = num1_T := by kernel_rfl
theorem num1_bits : waitsOk num1_T.2 num1_B = true := by kernel_rfl
set_option maxHeartbeats 8000000 in
set_option maxRecDepth 100000 in
theorem Sep.number {w0 w : World} {L : List Th} {gc : Nat} {A : Option Addr} {c p : Nat} {b : List Int} (h : Sep w0 w (cellsT gc #[.slice A 512 c, .int .i64 (p : Int)] 117 :: L)) (hR : ReadsB w0 L A b) (hb : bytes_ b) (hl : b.length = 512) (hc : 512 ≤ c) (n : Nat) (h1 : 1 ≤ n) (h8 : n ≤ 8) (hp : p + n ≤ 512) :
    Calls Tryd.prog 56 #[.pointer (some ⟨gc, 0, none⟩), .int .i64 (n : Int)] w fun e w' => e = .returned (.int .i64 (numAt b p n)) ∧ Sep w0 w' (cellsT gc #[.slice A 512 c, .int .i64 ((p + n : Nat) : Int)] 117 :: L) := by
  have HS0 := Aside0.mk h
  have HC0 := Aside0.mk (hR w _ (Sub.c (Sub.r _)) h)
  obtain ⟨k, hk⟩ := readF_at hb hl p n h1 h8 hp
  have HRF := Aside0.mk (fun W (hC : (Kd.int .u8).C W A 512 b) => (show Calls Tryd.prog 71 #[.slice A 512 c, .int .i64 (p : Int), .int .i64 (n : Int)] W _ from by
    have h := wire_ReadFixed.calls k A c b (p : Int) (n : Int) _ _ _ W (by rw [hl]; exact hC) (by omega) hk
    rw [hl] at h
    exact h))
  have HNA := Aside0.mk (show numAt b p n = wrap64 ((leV ((b.drop p).take n) : Nat) : Int) from rfl)
  have hv : leV ((b.drop p).take n) < 18446744073709551616 := by
    have h2 := leV_lt ((b.drop p).take n) (bytes_take (bytes_drop hb _) _)
    have h3 : ((b.drop p).take n).length = n := by rw [List.length_take, List.length_drop]; omega
    rw [h3] at h2
    have h4 : 256 ^ n ≤ 256 ^ 8 := Nat.pow_le_pow_right (by decide) h8
    have h5 : (256 : Nat) ^ 8 = 18446744073709551616 := by decide
    omega
  generalize leV ((b.drop p).take n) = v at HRF HNA hv
  generalize hnv : numAt b p n = nv at HNA ⊢
  have HNP := Aside0.mk (show ((p + n : Nat) : Int) = ((p + n : Nat) : Int) from rfl)
  generalize ((p + n : Nat) : Int) = pn at HRF HNP ⊢
  clear h hR hb hl hc h1 h8 hp hk hnv
  go_enter Tryd.func56, Tryd.ntmps56
  go_upto_region 1 with (fail)
  have HS1 := Aside0.mk (HS0.out.step (below_drew1 (Below.refl w.heap.size w)))
  have HC1 := Aside0.mk (Kd.C_below HC0.out (below_drew1 (Below.refl w.heap.size w)))
  refine start_ (n := 17) (S := fun W => W.cell? ⟨gc, 0, none⟩ = some (.slice A 512 c) ∧ W.cell? ⟨gc, 1, none⟩ = some (.int .i64 (p : Int))) (ds := [16]) (bb 17 0) (by kernel_rfl) rfl rfl (⟨blk_cell HS1.out.cells.1 0, blk_cell HS1.out.cells.1 1⟩) (fun hHeld => ?_); refine with_tabW num1_tab num1_bits (fun HT_ HW_ => ?_)
  generalize w.drew = wd at hHeld HS1 HC1 ⊢
  refine pure_ (i := 0) (N := (some 9)) (v := ?_) (a' := ?_) (bb 17 1) rfl rfl (any_of HT_.out (by kernel_rfl)) (fun _ _ _ h => h) (Or.inl ⟨by rfl, ?_⟩) ?_ ?_
  rotate_left
  · intro w'
    go_simp
    with_reducible rfl
  rotate_left
  · simp only [Act.put, List.setIfInBounds_toArray, List.set_cons_zero, List.set_cons_succ, i64_w, i32_w]
    rfl
  refine pure_ (i := 1) (N := (some 10)) (v := ?_) (a' := ?_) (bb 17 3) rfl rfl (any_of HT_.out (by kernel_rfl)) (fun _ _ _ h => h) (Or.inl ⟨by rfl, ?_⟩) ?_ ?_
  rotate_left
  · intro w'
    go_simp
    with_reducible rfl
  rotate_left
  · simp only [Act.put, List.setIfInBounds_toArray, List.set_cons_zero, List.set_cons_succ, i64_w, i32_w]
    rfl
  refine pure_ (i := 2) (N := (some 11)) (v := ?_) (a' := ?_) (bb 17 7) rfl rfl (any_of HT_.out (by kernel_rfl)) (fun _ _ _ h => h) (Or.inl ⟨by rfl, ?_⟩) ?_ ?_
  rotate_left
  · intro w'
    go_simp
    with_reducible rfl
  rotate_left
  · simp only [Act.put, List.setIfInBounds_toArray, List.set_cons_zero, List.set_cons_succ, i64_w, i32_w]
    rfl
  refine take_ (i := 3) (N := (some 12)) (v := ?_) (a' := ?_) (bb 17 15) rfl rfl (take_ofW HT_.out HW_.out (by kernel_rfl)) (fun _ _ _ h => h) (Or.inl ⟨by rfl, ?_⟩) hHeld ?_ ?_
  rotate_left
  · intro w' s0
    (try dsimp only at s0)
    go_simp
    with_reducible rfl
  rotate_left
  · simp only [Act.put, List.setIfInBounds_toArray, List.set_cons_zero, List.set_cons_succ, i64_w, i32_w]
    rfl
  refine pure_ (i := 4) (N := (some 13)) (v := ?_) (a' := ?_) (bb 17 31) rfl rfl (any_of HT_.out (by kernel_rfl)) (fun _ _ _ h => h) (Or.inl ⟨by rfl, ?_⟩) ?_ ?_
  rotate_left
  · intro w'
    go_simp
    with_reducible rfl
  rotate_left
  · simp only [Act.put, List.setIfInBounds_toArray, List.set_cons_zero, List.set_cons_succ, i64_w, i32_w]
    rfl
  refine pure_ (i := 5) (N := (some 14)) (v := ?_) (a' := ?_) (bb 17 63) rfl rfl (any_of HT_.out (by kernel_rfl)) (fun _ _ _ h => h) (Or.inl ⟨by rfl, ?_⟩) ?_ ?_
  rotate_left
  · intro w'
    go_simp
    with_reducible rfl
  rotate_left
  · simp only [Act.put, List.setIfInBounds_toArray, List.set_cons_zero, List.set_cons_succ, i64_w, i32_w]
    rfl
  refine pure_ (i := 6) (N := (some 15)) (v := ?_) (a' := ?_) (bb 17 127) rfl rfl (any_of HT_.out (by kernel_rfl)) (fun _ _ _ h => h) (Or.inl ⟨by rfl, ?_⟩) ?_ ?_
  rotate_left
  · intro w'
    go_simp
    with_reducible rfl
  rotate_left
  · simp only [Act.put, List.setIfInBounds_toArray, List.set_cons_zero, List.set_cons_succ, i64_w, i32_w]
    rfl
  refine take_ (i := 7) (N := (some 16)) (v := ?_) (a' := ?_) (bb 17 255) rfl rfl (take_ofW HT_.out HW_.out (by kernel_rfl)) (fun _ _ _ h => h) (Or.inl ⟨by rfl, ?_⟩) hHeld ?_ ?_
  rotate_left
  · intro w' s0
    (try dsimp only at s0)
    go_simp
    with_reducible rfl
  rotate_left
  · simp only [Act.put, List.setIfInBounds_toArray, List.set_cons_zero, List.set_cons_succ, i64_w, i32_w]
    rfl
  refine pure_ (i := 8) (N := (some 17)) (v := ?_) (a' := ?_) (bb 17 511) rfl rfl (any_of HT_.out (by kernel_rfl)) (fun _ _ _ h => h) (Or.inl ⟨by rfl, ?_⟩) ?_ ?_
  rotate_left
  · intro w'
    go_simp
    with_reducible rfl
  rotate_left
  · simp only [Act.put, List.setIfInBounds_toArray, List.set_cons_zero, List.set_cons_succ, i64_w, i32_w]
    rfl
  refine one_ (i := 9) (N := (some 18)) (bb 17 1023) rfl rfl (one_of HT_.out (by kernel_rfl)) (by decide) (fun K hK => ?_)
  refine goes_ Tryd.func71 (by kernel_rfl) rfl #[.slice A 512 c, .int .i64 (p : Int), .int .i64 (n : Int)] (by rfl) rfl rfl (by (try simp only [List.map_toArray, List.map_cons, List.map_nil]); first | done | rfl) ?_
  refine (HRF.out _ HC1.out).mono ?_
  rintro e w3 ⟨rfl, hd⟩
  have HB3 := Aside0.mk hd
  clear hd
  refine ⟨_, rfl, ?_⟩
  refine hK.out _ _ ((by obtain ⟨nd, rfl⟩ := HB3.out; exact hHeld)) (fun hHeld => ?_)
  clear hK K
  refine norm_ (a' := ?_) ?_ ?_
  rotate_left
  · show Act.put _ (some 18) _ = _
    simp only [Act.put, List.setIfInBounds_toArray, List.set_cons_zero, List.set_cons_succ, i64_w, i32_w]
    rfl
  refine pure_ (i := 10) (N := (some 8)) (v := ?_) (a' := ?_) (bb 17 2047) rfl rfl (any_of HT_.out (by kernel_rfl)) (fun _ _ _ h => h) (Or.inl ⟨by rfl, ?_⟩) ?_ ?_
  rotate_left
  · intro w'
    go_simp
    with_reducible rfl
  rotate_left
  · simp only [Act.put, List.setIfInBounds_toArray, List.set_cons_zero, List.set_cons_succ, i64_w, i32_w]
    rfl
  refine pure_ (i := 11) (N := (some 19)) (v := ?_) (a' := ?_) (bb 17 4095) rfl rfl (any_of HT_.out (by kernel_rfl)) (fun _ _ _ h => h) (Or.inl ⟨by rfl, ?_⟩) ?_ ?_
  rotate_left
  · intro w'
    go_simp
    with_reducible rfl
  rotate_left
  · simp only [Act.put, List.setIfInBounds_toArray, List.set_cons_zero, List.set_cons_succ, i64_w, i32_w]
    rfl
  refine pure_ (i := 12) (N := (some 20)) (v := ?_) (a' := ?_) (bb 17 8191) rfl rfl (any_of HT_.out (by kernel_rfl)) (fun _ _ _ h => h) (Or.inl ⟨by rfl, ?_⟩) ?_ ?_
  rotate_left
  · intro w'
    go_simp
    with_reducible rfl
  rotate_left
  · simp only [Act.put, List.setIfInBounds_toArray, List.set_cons_zero, List.set_cons_succ, i64_w, i32_w]
    rfl
  refine pure_ (i := 13) (N := (some 21)) (v := ?_) (a' := ?_) (bb 17 16383) rfl rfl (any_of HT_.out (by kernel_rfl)) (fun _ _ _ h => h) (Or.inl ⟨by rfl, ?_⟩) ?_ ?_
  rotate_left
  · intro w'
    go_simp
    with_reducible rfl
  rotate_left
  · simp only [Act.put, List.setIfInBounds_toArray, List.set_cons_zero, List.set_cons_succ, i64_w, i32_w]
    rfl
  refine pure_ (i := 14) (N := (some 5)) (v := ?_) (a' := ?_) (bb 17 32767) rfl rfl (any_of HT_.out (by kernel_rfl)) (fun _ _ _ h => h) (Or.inl ⟨by rfl, ?_⟩) ?_ ?_
  rotate_left
  · intro w'
    go_simp
    with_reducible rfl
  rotate_left
  · simp only [Act.put, List.setIfInBounds_toArray, List.set_cons_zero, List.set_cons_succ, i64_w, i32_w]
    rfl
  refine pure_ (i := 15) (N := (some 6)) (v := ?_) (a' := ?_) (bb 17 65535) rfl rfl (any_of HT_.out (by kernel_rfl)) (fun _ _ _ h => h) (Or.inl ⟨by rfl, ?_⟩) ?_ ?_
  rotate_left
  · intro w'
    go_simp
    with_reducible rfl
  rotate_left
  · simp only [Act.put, List.setIfInBounds_toArray, List.set_cons_zero, List.set_cons_succ, i64_w, i32_w]
    rfl
  refine pure_ (i := 16) (N := (some 7)) (v := ?_) (a' := ?_) (bb 17 131071) rfl rfl (any_of HT_.out (by kernel_rfl)) (fun _ _ _ h => h) (Or.inl ⟨by rfl, ?_⟩) ?_ ?_
  rotate_left
  · intro w'
    go_simp
    with_reducible rfl
  rotate_left
  · simp only [Act.put, List.setIfInBounds_toArray, List.set_cons_zero, List.set_cons_succ, i64_w, i32_w]
    rfl
  refine done_ (done_of HT_.out (by kernel_rfl)) ?_
  have HS3 := Aside0.mk (HS1.out.step (show Below wd.heap.size wd w3 from by obtain ⟨nd, rfl⟩ := HB3.out; exact pw_below_drewN (Below.refl _ _) nd))
  clear HS0 HS1 HC0 HC1 HRF hHeld HB3 HT_ HW_
  have x1 : w3.cell? ⟨gc, 1, none⟩ = some (.int .i64 (p : Int)) := blk_cell HS3.out.cells.1 1
  have f1 : w3.frozen? ⟨gc, 1, none⟩ = false := blk_frozen HS3.out.cells.1 1
  have hv0 : (0 : Int) ≤ (v : Int) := by omega
  go_wp2
  go_ret
  exact ⟨by rw [HNA.out]; rfl, HS3.out.cset 1 (.int .i64 pn)⟩
end Go.Proofs.YtaflofcnjakaaaaDoor.M

namespace Go.Proofs.YtaflofcnjakaaaaDoor.M
open Go.RowKit Go.Maps Go.Proofs.YtaflofcnjakaaaaDoorW.PrintWords Go.Proofs.YtaflofcnjakaaaaDoorW.PrintLast Go.Proofs.YtaflofcnjakaaaaDoorW.PrintMore Go.Proofs.YtaflofcnjakaaaaDoor.Wr Go.Proofs.YtaflofcnjakaaaaDoor.Pl Go.Proofs.YtaflofcnjakaaaaDoor.P Go.Proofs.YtaflofcnjakaaaaDoor.A
set_option linter.unusedVariables false
set_option linter.unusedSimpArgs false
theorem arr23 (ad : Addr) (c : Nat) (W : World) : (Instr.arrayAt 23 (.slice (some ad) 32 c)).run Tryd.prog W = .ok (.pointer (some ad)) W := by
  simp [Instr.arrayAt, Sem.run_bind, run_underlying Tryd.underlying23]
def key1_T : Bool × List (List Nat × List Nat) := (true, [([], []), ([0], [0]), ([1], [1]), ([2], [2]), ([], []), ([4], [4]), ([5], [5]), ([6], [6]), ([], []), ([8], [8]), ([9], [9]), ([10], [10]), ([11], [11]), ([3, 7, 12], [3, 7, 12]), ([13], [13]), ([14], [14]), ([], []), ([16, 15, 0, 1, 2, 3, 4, 5, 6, 7, 8, 9, 10, 11, 12, 13, 14, 15, 16], [15, 16])])
def key1_B : List Nat := [0, 1, 3, 7, 0, 16, 48, 112, 0, 256, 768, 1792, 3840, 8191, 16383, 32767, 0, 131071]
theorem key1_tab : rtab .any (opsOf Tryd.f57 1) = key1_T := by kernel_rfl
theorem key1_bits : waitsOk key1_T.2 key1_B = true := by kernel_rfl
set_option maxHeartbeats 8000000 in
set_option maxRecDepth 100000 in
theorem Sep.key {w0 w : World} {L : List Th} {gc : Nat} {A : Option Addr} {c p : Nat} {b : List Int} (h : Sep w0 w (cellsT gc #[.slice A 512 c, .int .i64 (p : Int)] 117 :: L)) (hR : ReadsB w0 L A b) (hb : bytes_ b) (hl : b.length = 512) (hc : 512 ≤ c) (hp : p + 32 ≤ 512) :
    Calls Tryd.prog 57 #[.pointer (some ⟨gc, 0, none⟩)] w fun e w' => e = .returned (.agg (nums .u8 (keyAt b p)).toArray) ∧ Sep w0 w' (cellsT gc #[.slice A 512 c, .int .i64 ((p + 32 : Nat) : Int)] 117 :: L) := by
  obtain ⟨ad, rfl, _⟩ := (hR w _ (Sub.c (Sub.r _)) h).2.2 (by decide)
  have HCK := Aside0.mk (fun W (M : List Th) (hs : Sub L M) (h : Sep w0 W M) => (show ∀ j v, (nums .u8 (keyAt b p))[j]? = some v → W.cell? ((ad.add p).add j) = some v from by
    intro j v hv
    have hj : j < 32 := by have := (List.getElem?_eq_some_iff.1 hv).1; rwa [nums_length, keyAt_len hl hp] at this
    have h1 := C_cells (hR W M hs h) (p + j) v (by
      unfold keyAt nums at hv
      unfold nums
      rw [List.getElem?_map, List.getElem?_take, if_pos hj, List.getElem?_drop] at hv
      rw [List.getElem?_map]
      exact hv)
    rwa [Addr.add_add]))
  have HKL := Aside0.mk (keyAt_len hl hp)
  generalize keyAt b p = ky at HCK HKL ⊢
  have HSZ := Aside0.mk (show (Tryd.prog.info? 23).map (·.size) = some (nums .u8 ky).toArray.size from size23 (by simpa [nums_length] using HKL.out))
  have HS0 := Aside0.mk h
  clear h hR hb hl
  have hz := (zero_of_info (P := Tryd.prog) (t := 23) (v := .agg (nums .u8 (List.replicate 32 0)).toArray) (n := 32) (by kernel_rfl)).1
  generalize hZ : (nums .u8 (List.replicate 32 0)).toArray = Z at hz
  have HZ := Aside0.mk hZ
  clear hZ
  go_enter Tryd.func57, Tryd.ntmps57
  go_upto_region 1 with (fail)
  have HSa := Aside0.mk (HS0.out.push_alloc Z 23)
  generalize w.alloc (.cells Z 23) = w2 at HSa ⊢
  generalize w.heap.size = gr at HSa ⊢
  have HS1 := Aside0.mk (HSa.out.step (below_drew1 (Below.refl w2.heap.size w2)))
  clear HS0
  have hp0 : (0 : Int) ≤ (p : Int) := by omega
  have hp1 : (p : Int) + 32 ≤ (c : Int) := by omega
  have hp2 : IntKind.i64.wrap ((p : Int) + 32) = (p : Int) + 32 := by unfold IntKind.wrap; simp [IntKind.signed, IntKind.bits]; omega
  have hcp : ¬ c = p := by omega
  have harr := arr23 (ad.add p) (c - p)
  have hq1 : (0 : Int) ≤ (p : Int) + 32 := by omega
  have hq2 : ((p : Int) + 32).toNat = p + 32 := by omega
  have hq3 : p + 32 - p = 32 := by omega
  have hq4 : p ≤ p + 32 := by omega
  refine start_ (n := 18) (S := fun W => W.cell? ⟨gc, 0, none⟩ = some (.slice (some ad) 512 c) ∧ W.cell? ⟨gc, 1, none⟩ = some (.int .i64 (p : Int)) ∧ (∀ j v, (nums .u8 ky)[j]? = some v → W.cell? ((ad.add p).add j) = some v)) (ds := [17]) (bb 18 0) (by kernel_rfl) rfl rfl (⟨blk_cell HS1.out.up1.cells.1 0, blk_cell HS1.out.up1.cells.1 1, HCK.out _ _ (Sub.c (Sub.c (Sub.r _))) HS1.out⟩) (fun hHeld => ?_); refine with_tabW key1_tab key1_bits (fun HT_ HW_ => ?_)
  generalize w2.drew = wd at hHeld HS1 ⊢
  refine pure_ (i := 0) (N := (some 4)) (v := ?_) (a' := ?_) (bb 18 1) rfl rfl (any_of HT_.out (by kernel_rfl)) (fun _ _ _ h => h) (Or.inl ⟨by rfl, ?_⟩) ?_ ?_
  rotate_left
  · intro w'
    go_simp
    with_reducible rfl
  rotate_left
  · simp only [Act.put, List.setIfInBounds_toArray, List.set_cons_zero, List.set_cons_succ, i64_w, i32_w]
    rfl
  refine pure_ (i := 1) (N := (some 5)) (v := ?_) (a' := ?_) (bb 18 3) rfl rfl (any_of HT_.out (by kernel_rfl)) (fun _ _ _ h => h) (Or.inl ⟨by rfl, ?_⟩) ?_ ?_
  rotate_left
  · intro w'
    go_simp
    with_reducible rfl
  rotate_left
  · simp only [Act.put, List.setIfInBounds_toArray, List.set_cons_zero, List.set_cons_succ, i64_w, i32_w]
    rfl
  refine pure_ (i := 2) (N := (some 6)) (v := ?_) (a' := ?_) (bb 18 7) rfl rfl (any_of HT_.out (by kernel_rfl)) (fun _ _ _ h => h) (Or.inl ⟨by rfl, ?_⟩) ?_ ?_
  rotate_left
  · intro w'
    go_simp
    with_reducible rfl
  rotate_left
  · simp only [Act.put, List.setIfInBounds_toArray, List.set_cons_zero, List.set_cons_succ, i64_w, i32_w]
    rfl
  refine take_ (i := 3) (N := (some 7)) (v := ?_) (a' := ?_) (bb 18 15) rfl rfl (take_ofW HT_.out HW_.out (by kernel_rfl)) (fun _ _ _ h => h) (Or.inl ⟨by rfl, ?_⟩) hHeld ?_ ?_
  rotate_left
  · intro w' s0
    (try dsimp only at s0)
    go_simp
    with_reducible rfl
  rotate_left
  · simp only [Act.put, List.setIfInBounds_toArray, List.set_cons_zero, List.set_cons_succ, i64_w, i32_w]
    rfl
  refine pure_ (i := 4) (N := (some 8)) (v := ?_) (a' := ?_) (bb 18 31) rfl rfl (any_of HT_.out (by kernel_rfl)) (fun _ _ _ h => h) (Or.inl ⟨by rfl, ?_⟩) ?_ ?_
  rotate_left
  · intro w'
    go_simp
    with_reducible rfl
  rotate_left
  · simp only [Act.put, List.setIfInBounds_toArray, List.set_cons_zero, List.set_cons_succ, i64_w, i32_w]
    rfl
  refine pure_ (i := 5) (N := (some 9)) (v := ?_) (a' := ?_) (bb 18 63) rfl rfl (any_of HT_.out (by kernel_rfl)) (fun _ _ _ h => h) (Or.inl ⟨by rfl, ?_⟩) ?_ ?_
  rotate_left
  · intro w'
    go_simp
    with_reducible rfl
  rotate_left
  · simp only [Act.put, List.setIfInBounds_toArray, List.set_cons_zero, List.set_cons_succ, i64_w, i32_w]
    rfl
  refine pure_ (i := 6) (N := (some 10)) (v := ?_) (a' := ?_) (bb 18 127) rfl rfl (any_of HT_.out (by kernel_rfl)) (fun _ _ _ h => h) (Or.inl ⟨by rfl, ?_⟩) ?_ ?_
  rotate_left
  · intro w'
    go_simp
    with_reducible rfl
  rotate_left
  · simp only [Act.put, List.setIfInBounds_toArray, List.set_cons_zero, List.set_cons_succ, i64_w, i32_w]
    rfl
  refine take_ (i := 7) (N := (some 11)) (v := ?_) (a' := ?_) (bb 18 255) rfl rfl (take_ofW HT_.out HW_.out (by kernel_rfl)) (fun _ _ _ h => h) (Or.inl ⟨by rfl, ?_⟩) hHeld ?_ ?_
  rotate_left
  · intro w' s0
    (try dsimp only at s0)
    go_simp
    with_reducible rfl
  rotate_left
  · simp only [Act.put, List.setIfInBounds_toArray, List.set_cons_zero, List.set_cons_succ, i64_w, i32_w]
    rfl
  refine pure_ (i := 8) (N := (some 12)) (v := ?_) (a' := ?_) (bb 18 511) rfl rfl (any_of HT_.out (by kernel_rfl)) (fun _ _ _ h => h) (Or.inl ⟨by rfl, ?_⟩) ?_ ?_
  rotate_left
  · intro w'
    go_simp
    with_reducible rfl
  rotate_left
  · simp only [Act.put, List.setIfInBounds_toArray, List.set_cons_zero, List.set_cons_succ, i64_w, i32_w]
    rfl
  refine pure_ (i := 9) (N := (some 13)) (v := ?_) (a' := ?_) (bb 18 1023) rfl rfl (any_of HT_.out (by kernel_rfl)) (fun _ _ _ h => h) (Or.inl ⟨by rfl, ?_⟩) ?_ ?_
  rotate_left
  · intro w'
    go_simp
    with_reducible rfl
  rotate_left
  · simp only [Act.put, List.setIfInBounds_toArray, List.set_cons_zero, List.set_cons_succ, i64_w, i32_w]
    rfl
  refine pure_ (i := 10) (N := (some 14)) (v := ?_) (a' := ?_) (bb 18 2047) rfl rfl (any_of HT_.out (by kernel_rfl)) (fun _ _ _ h => h) (Or.inl ⟨by rfl, ?_⟩) ?_ ?_
  rotate_left
  · intro w'
    go_simp
    with_reducible rfl
  rotate_left
  · simp only [Act.put, List.setIfInBounds_toArray, List.set_cons_zero, List.set_cons_succ, i64_w, i32_w]
    rfl
  refine take_ (i := 11) (N := (some 15)) (v := ?_) (a' := ?_) (bb 18 4095) rfl rfl (take_ofW HT_.out HW_.out (by kernel_rfl)) (fun _ _ _ h => h) (Or.inl ⟨by rfl, ?_⟩) hHeld ?_ ?_
  rotate_left
  · intro w' s0
    (try dsimp only at s0)
    go_simp
    with_reducible rfl
  rotate_left
  · simp only [Act.put, List.setIfInBounds_toArray, List.set_cons_zero, List.set_cons_succ, i64_w, i32_w]
    rfl
  refine pure_ (i := 12) (N := (some 16)) (v := ?_) (a' := ?_) (bb 18 8191) rfl rfl (any_of HT_.out (by kernel_rfl)) (fun _ _ _ h => h) (Or.inl ⟨by rfl, ?_⟩) ?_ ?_
  rotate_left
  · intro w'
    go_simp
    with_reducible rfl
  rotate_left
  · simp only [Act.put, List.setIfInBounds_toArray, List.set_cons_zero, List.set_cons_succ, i64_w, i32_w]
    rfl
  refine pure_ (i := 13) (N := (some 17)) (v := ?_) (a' := ?_) (bb 18 16383) rfl rfl (any_of HT_.out (by kernel_rfl)) (fun _ _ _ h => h) (Or.inl ⟨by rfl, ?_⟩) ?_ ?_
  rotate_left
  · intro w'
    go_simp
    with_reducible rfl
  rotate_left
  · simp only [Act.put, List.setIfInBounds_toArray, List.set_cons_zero, List.set_cons_succ, i64_w, i32_w]
    rfl
  refine pure_ (i := 14) (N := (some 18)) (v := ?_) (a' := ?_) (bb 18 32767) rfl rfl (any_of HT_.out (by kernel_rfl)) (fun _ _ _ h => h) (Or.inl ⟨by rfl, ?_⟩) ?_ ?_
  rotate_left
  · intro w'
    go_simp
    with_reducible rfl
  rotate_left
  · simp only [Act.put, List.setIfInBounds_toArray, List.set_cons_zero, List.set_cons_succ, i64_w, i32_w]
    rfl
  refine take_ (i := 15) (N := (some 19)) (v := .agg (nums .u8 ky).toArray) (a' := ?_) (bb 18 65535) rfl rfl (take_ofW HT_.out HW_.out (by kernel_rfl)) (fun _ _ _ h => h) (Or.inl ⟨by rfl, fun w' s0 => yields_ld 23 _ rfl (ad.add p) rfl (nums .u8 ky).toArray _ s0.2.2 Tryd.underlying23 rfl HSZ.out⟩) hHeld ?_ ?_
  rotate_left
  · simp only [Act.put, List.setIfInBounds_toArray, List.set_cons_zero, List.set_cons_succ, i64_w, i32_w]
    rfl
  refine one_ (i := 16) (N := (some 3)) (bb 18 131071) rfl rfl (one_of HT_.out (by kernel_rfl)) (by decide) (fun K hK => ?_)
  refine value_ (w1 := ?_) (v := ?_) (by rfl) rfl ?_ ?_
  rotate_left 2
  · go_simp
    constructor
    · rfl
    · rfl
  have HSb := Aside0.mk (HS1.out.push_alloc Z 23)
  generalize wd.alloc (.cells Z 23) = w3 at HSb ⊢
  generalize wd.heap.size = gk at HSb ⊢
  refine hK.out _ _ (⟨blk_cell HSb.out.up2.cells.1 0, blk_cell HSb.out.up2.cells.1 1, HCK.out _ _ (Sub.c (Sub.c (Sub.c (Sub.r _)))) HSb.out⟩) (fun hHeld => ?_)
  clear hK K
  refine norm_ (a' := ?_) ?_ ?_
  rotate_left
  · show Act.put _ (some 3) _ = _
    simp only [Act.put, List.setIfInBounds_toArray, List.set_cons_zero, List.set_cons_succ, i64_w, i32_w]
    rfl
  refine last_ (i := 17) (N := none) (bb 18 262143) rfl rfl (one_of HT_.out (by kernel_rfl)) (by decide) (fun K hK => ?_)
  rw [if_pos (by rfl)]
  refine Sep.store_wp 23 _ _ rfl rfl rfl HSb.out HSZ.out (show Z.size = (nums .u8 ky).toArray.size from by rw [← HZ.out]; simp [nums_length, HKL.out]) (nums_all ky) (fun w4 h4 => ?_)
  have HS4 := Aside0.mk h4
  clear h4
  refine hK.out _ _ ?_
  clear hK K
  refine norm_ (a' := ?_) ?_ ?_
  rotate_left
  · show Act.put _ none _ = _
    simp only [Act.put, List.setIfInBounds_toArray, List.set_cons_zero, List.set_cons_succ, i64_w, i32_w]
    rfl
  refine done_ (done_of HT_.out (by kernel_rfl)) ?_
  have HS2 := Aside0.mk (show Sep w0 w4 (cellsT gc #[.slice (some ad) 512 c, .int .i64 (p : Int)] 117 :: cellsT gk (nums .u8 ky).toArray 23 :: cellsT gr Z 23 :: L) from HS4.out.up2)
  clear HSa HS1 HSb HS4 hHeld harr hq1 hq2 hq3 hq4 hp2 hp1 hcp HT_ HW_ hz
  have x1 : w4.cell? ⟨gc, 1, none⟩ = some (.int .i64 (p : Int)) := blk_cell HS2.out.cells.1 1
  have f1 : w4.frozen? ⟨gc, 1, none⟩ = false := blk_frozen HS2.out.cells.1 1
  have hp32 : (p : Int) + 32 ≤ 600 := by omega
  go_upto_region 3 with (fail)
  have HS5 := Aside0.mk (show Sep w0 (w4.setCell ⟨gc, 1, none⟩ (.int .i64 ((p : Int) + 32))) (cellsT gc #[.slice (some ad) 512 c, .int .i64 ((p : Int) + 32)] 117 :: cellsT gk (nums .u8 ky).toArray 23 :: cellsT gr Z 23 :: L) from HS2.out.cset 1 (.int .i64 ((p : Int) + 32)))
  clear HS2 x1 f1
  generalize w4.setCell ⟨gc, 1, none⟩ (.int .i64 ((p : Int) + 32)) = w5 at HS5 ⊢
  have HK5 := Aside0.mk (show ∀ j v, (nums .u8 ky).toArray.toList[j]? = some v → w5.cell? ((⟨gk, 0, none⟩ : Addr).add j) = some v from fun j v hv => seg_at HS5.out.up1.cells.1 0 (nums .u8 ky) (by rw [List.drop_zero]; exact List.take_of_length_le (Nat.le_refl _)) j v (by simpa using hv))
  have HZs := Aside0.mk (show Z.size = (nums .u8 ky).toArray.size from by rw [← HZ.out]; simp [nums_length, HKL.out])
  go_wp2_with (first
    | ((with_reducible refine gate_load (ty := 23) rfl ?_); refine wpList_ldw ?_ 23 _ rfl ⟨gk, 0, none⟩ ?_ (nums .u8 ky).toArray _ HK5.out Tryd.underlying23 rfl HSZ.out ?_; exact rfl; exact rfl; skip)
    | ((with_reducible refine gate_store (ty := 23) rfl ?_); refine Sep.store_own rfl 23 _ _ rfl rfl rfl HS5.out.up2 HSZ.out HZs.out (nums_all ky) ?_; intro w6 h6; have HS6 := Aside0.mk h6; clear h6))
  refine bodyPost_ret (results_cell_row (p := 2) (ty := 23) rfl _ _ gr 23 (nums .u8 ky).toArray (0, 0) _ rfl HS6.out.cells.1 Tryd.underlying23 rfl HSZ.out) rfl ⟨rfl, ?_⟩
  exact HS6.out.drop.up1.drop
end Go.Proofs.YtaflofcnjakaaaaDoor.M

namespace Go.Proofs.YtaflofcnjakaaaaDoor.M
open Go.RowKit Go.Maps Go.Proofs.YtaflofcnjakaaaaDoorW.PrintWords Go.Proofs.YtaflofcnjakaaaaDoorW.PrintLast Go.Proofs.YtaflofcnjakaaaaDoorW.PrintMore Go.Proofs.YtaflofcnjakaaaaDoor.Wr Go.Proofs.YtaflofcnjakaaaaDoor.Pl Go.Proofs.YtaflofcnjakaaaaDoor.P Go.Proofs.YtaflofcnjakaaaaDoor.A
set_option linter.unusedVariables false
set_option linter.unusedSimpArgs false
theorem list32 (l : List Int) (h : l.length = 32) : ∃ x0 x1 x2 x3 x4 x5 x6 x7 x8 x9 x10 x11 x12 x13 x14 x15 x16 x17 x18 x19 x20 x21 x22 x23 x24 x25 x26 x27 x28 x29 x30 x31 : Int, l = [x0, x1, x2, x3, x4, x5, x6, x7, x8, x9, x10, x11, x12, x13, x14, x15, x16, x17, x18, x19, x20, x21, x22, x23, x24, x25, x26, x27, x28, x29, x30, x31] := by
  rcases l with _ | ⟨x0, l⟩
  · simp at h
  rcases l with _ | ⟨x1, l⟩
  · simp at h
  rcases l with _ | ⟨x2, l⟩
  · simp at h
  rcases l with _ | ⟨x3, l⟩
  · simp at h
  rcases l with _ | ⟨x4, l⟩
  · simp at h
  rcases l with _ | ⟨x5, l⟩
  · simp at h
  rcases l with _ | ⟨x6, l⟩
  · simp at h
  rcases l with _ | ⟨x7, l⟩
  · simp at h
  rcases l with _ | ⟨x8, l⟩
  · simp at h
  rcases l with _ | ⟨x9, l⟩
  · simp at h
  rcases l with _ | ⟨x10, l⟩
  · simp at h
  rcases l with _ | ⟨x11, l⟩
  · simp at h
  rcases l with _ | ⟨x12, l⟩
  · simp at h
  rcases l with _ | ⟨x13, l⟩
  · simp at h
  rcases l with _ | ⟨x14, l⟩
  · simp at h
  rcases l with _ | ⟨x15, l⟩
  · simp at h
  rcases l with _ | ⟨x16, l⟩
  · simp at h
  rcases l with _ | ⟨x17, l⟩
  · simp at h
  rcases l with _ | ⟨x18, l⟩
  · simp at h
  rcases l with _ | ⟨x19, l⟩
  · simp at h
  rcases l with _ | ⟨x20, l⟩
  · simp at h
  rcases l with _ | ⟨x21, l⟩
  · simp at h
  rcases l with _ | ⟨x22, l⟩
  · simp at h
  rcases l with _ | ⟨x23, l⟩
  · simp at h
  rcases l with _ | ⟨x24, l⟩
  · simp at h
  rcases l with _ | ⟨x25, l⟩
  · simp at h
  rcases l with _ | ⟨x26, l⟩
  · simp at h
  rcases l with _ | ⟨x27, l⟩
  · simp at h
  rcases l with _ | ⟨x28, l⟩
  · simp at h
  rcases l with _ | ⟨x29, l⟩
  · simp at h
  rcases l with _ | ⟨x30, l⟩
  · simp at h
  rcases l with _ | ⟨x31, l⟩
  · simp at h
  rcases l with _ | ⟨y, l⟩
  · exact ⟨x0, x1, x2, x3, x4, x5, x6, x7, x8, x9, x10, x11, x12, x13, x14, x15, x16, x17, x18, x19, x20, x21, x22, x23, x24, x25, x26, x27, x28, x29, x30, x31, rfl⟩
  · simp at h
set_option maxRecDepth 100000 in
theorem built25 (ky : List Int) (h : ky.length = 32) (f l : Int) : Tryd.prog.built 25 [(0, .agg (nums .u8 ky).toArray), (1, .int .i64 f), (2, .int .i64 l)] = some (refV ky f l).toArray := by
  obtain ⟨x0, x1, x2, x3, x4, x5, x6, x7, x8, x9, x10, x11, x12, x13, x14, x15, x16, x17, x18, x19, x20, x21, x22, x23, x24, x25, x26, x27, x28, x29, x30, x31, rfl⟩ := list32 ky h
  kernel_rfl
theorem gate_build {P : Program} {ops : Array Oper} {rest : List Oper} {o : Oper} {a : Act} {w : World} {Q : Exit → Act → World → Prop} {ty : TypeId} {ps : Array (Nat × Operand)} (_ho : o.op = .build ty ps) (h : wpList P ops Q (o :: rest) a w) : wpList P ops Q (o :: rest) a w := h
def z32 : List Int := List.replicate 32 0
set_option maxRecDepth 100000 in
theorem built27 (ky : List Int) (h : ky.length = 32) (a b c d e : Int) : Tryd.prog.built 27 [(0, .int .i64 a), (1, .int .i64 b), (2, .int .i64 c), (3, .int .i64 d), (4, .int .i64 e), (5, .agg (nums .u8 ky).toArray)] = some (SL.V ⟨a, b, c, d, e, ky, z32, 0, 0, z32, 0, 0⟩).toArray := by
  obtain ⟨x0, x1, x2, x3, x4, x5, x6, x7, x8, x9, x10, x11, x12, x13, x14, x15, x16, x17, x18, x19, x20, x21, x22, x23, x24, x25, x26, x27, x28, x29, x30, x31, rfl⟩ := list32 ky h
  kernel_rfl
set_option maxRecDepth 100000 in
theorem built27z : Tryd.prog.built 27 [] = some (SL.V ⟨0, 0, 0, 0, 0, z32, z32, 0, 0, z32, 0, 0⟩).toArray := by kernel_rfl
theorem refV_all (h : List Int) (f l : Int) : (refV h f l).toArray.all (·.oneCell') = true := by
  rw [Array.all_eq_true']
  intro v hv
  unfold refV at hv
  simp only [List.mem_toArray, List.mem_append, List.mem_cons, List.not_mem_nil, or_false] at hv
  rcases hv with hv | rfl | rfl
  · exact nums_ones h v hv
  · rfl
  · rfl
theorem SL.V_all (s : SL) : s.V.toArray.all (·.oneCell') = true := by
  rw [Array.all_eq_true']
  intro v hv
  unfold SL.V at hv
  simp only [List.mem_toArray, List.mem_append, List.mem_cons, List.not_mem_nil, or_false] at hv
  rcases hv with hv | hv | hv | hv
  · rcases hv with rfl | rfl | rfl | rfl | rfl <;> rfl
  · exact nums_ones _ v hv
  · exact Array.all_eq_true'.1 (refV_all s.rh s.rf s.rl) v (by simpa using hv)
  · exact Array.all_eq_true'.1 (refV_all s.mh s.mf s.ml) v (by simpa using hv)
theorem Sep.store_part {w0 w : World} {L : List Th} {ops : Array Oper} {rest : List Oper} {o : Oper} {a : Act} {Q : Exit → Act → World → Prop} (hgd : o.guard = none) (ty : TypeId) (x y : Operand) (ho : o.op = .store ty x y) {g e p : Nat} {old cs : List Value} (hx : a.eval x = .pointer (some ⟨g, p, none⟩)) (hy : a.eval y = .agg cs.toArray) (h : Sep w0 w (cellsT g old.toArray e :: L)) (hi : (Tryd.prog.info? ty).map (·.size) = some cs.toArray.size) (hp : p + cs.length ≤ old.length) (h1 : cs.toArray.all (·.oneCell') = true)
    (hk : ∀ w1, Sep w0 w1 (cellsT g (old.take p ++ cs ++ old.drop (p + cs.length)).toArray e :: L) → wpList Tryd.prog ops Q rest (a.put o.dst undef) w1) : wpList Tryd.prog ops Q (o :: rest) a w :=
  wpList_plain hgd fun K hK => by
    have hr := run_storeCells_at (P := Tryd.prog) g p e cs 0 old.toArray w h.cells.1 (by simpa using hp) (fun v hv => Array.all_eq_true'.1 h1 v (by simpa using hv))
    have hst : (storeVar ty ⟨g, p, none⟩ (.agg cs.toArray)).run Tryd.prog w = .ok () (w.setRow g (old.take p ++ cs ++ old.drop (p + cs.length)).toArray) := by
      cases hq : Tryd.prog.info? ty with
      | none => simp [hq] at hi
      | some i =>
        have hs : cs.length = i.size := by simp [hq] at hi; omega
        simp only [Nat.add_zero] at hr
        simp [storeVar, sizeOf, typeInfo, hq, Value.cells, hs]
        simpa [hs] using hr
    unfold Oper.wp execOp
    simp only [ho, hx, hy, Instr.storeAt, Instr.sureAddr, Sem.run_bind, Sem.run_pure, Result.andThen_ok, hst]
    exact hK _ _ (hk _ (h.setRow _))
theorem V_set_root {s : SL} (h : s.Ok) (rh : List Int) (rf rl : Int) (hl : rh.length = 32) : s.V.take 37 ++ refV rh rf rl ++ s.V.drop (37 + (refV rh rf rl).length) = SL.V { s with rh := rh, rf := rf, rl := rl } := by
  rw [refV_len hl, show 37 + 34 = 71 from rfl, s.V_d71 h]
  have e : s.V.take 37 = [.int .i64 s.a, .int .i64 s.b, .int .i64 s.c, .int .i64 s.d, .int .i64 s.e] ++ nums .u8 s.key := by
    unfold SL.V
    rw [← List.append_assoc]
    exact take_app (by rw [List.length_append, nums_length, h.k]; rfl)
  rw [e]
  unfold SL.V
  simp only [List.append_assoc]
theorem V_set_memo {s : SL} (h : s.Ok) (mh : List Int) (mf ml : Int) (hl : mh.length = 32) : s.V.take 71 ++ refV mh mf ml ++ s.V.drop (71 + (refV mh mf ml).length) = SL.V { s with mh := mh, mf := mf, ml := ml } := by
  rw [refV_len hl, List.drop_eq_nil_of_le (by rw [s.V_len h]; decide), List.append_nil]
  have e : s.V.take 71 = [.int .i64 s.a, .int .i64 s.b, .int .i64 s.c, .int .i64 s.d, .int .i64 s.e] ++ (nums .u8 s.key ++ refV s.rh s.rf s.rl) := by
    unfold SL.V
    rw [← List.append_assoc (nums .u8 s.key), ← List.append_assoc]
    exact take_app (by rw [List.length_append, List.length_append, nums_length, h.k, refV_len h.r]; rfl)
  rw [e]
  unfold SL.V
  simp only [List.append_assoc]
theorem ReadsB.r {w0 : World} {L : List Th} {A : Option Addr} {b : List Int} (h : ReadsB w0 L A b) (t : Th) : ReadsB w0 (t :: L) A b := fun W M hs hS => h W M (by
  obtain ⟨pre, rfl⟩ := hs
  exact ⟨pre ++ [t], by simp⟩) hS
theorem Sep.number4 {w0 w : World} {L : List Th} {gc : Nat} {A : Option Addr} {c : Nat} (p q : Nat) {b : List Int} (h : Sep w0 w (cellsT gc #[.slice A 512 c, .int .i64 (p : Int)] 117 :: L)) (hR : ReadsB w0 L A b) (hb : bytes_ b) (hl : b.length = 512) (hc : 512 ≤ c) (hq : p + 4 = q) (hp : q ≤ 512) :
    Calls Tryd.prog 56 #[.pointer (some ⟨gc, 0, none⟩), .int .i64 4] w fun e w' => e = .returned (.int .i64 (numAt b p 4)) ∧ Sep w0 w' (cellsT gc #[.slice A 512 c, .int .i64 (q : Int)] 117 :: L) := by
  subst hq
  exact Sep.number h hR hb hl hc 4 (by decide) (by decide) hp
set_option maxHeartbeats 8000000 in
set_option maxRecDepth 100000 in
theorem Sep.ref {w0 w : World} {L : List Th} {gc : Nat} {A : Option Addr} {c p : Nat} {b : List Int} (h : Sep w0 w (cellsT gc #[.slice A 512 c, .int .i64 (p : Int)] 117 :: L)) (hR : ReadsB w0 L A b) (hb : bytes_ b) (hl : b.length = 512) (hc : 512 ≤ c) (hp : p + 40 ≤ 512) :
    Calls Tryd.prog 58 #[.pointer (some ⟨gc, 0, none⟩)] w fun e w' => e = .returned (.agg (refV (keyAt b p) (numAt b (p + 32) 4) (numAt b (p + 36) 4)).toArray) ∧ Sep w0 w' (cellsT gc #[.slice A 512 c, .int .i64 ((p + 40 : Nat) : Int)] 117 :: L) := by
  have HKY := Aside0.mk (fun W gr Z (h : Sep w0 W (cellsT gc #[.slice A 512 c, .int .i64 (p : Int)] 117 :: cellsT gr Z 25 :: L)) => Sep.key h (ReadsB.r hR _) hb hl hc (by omega))
  have HN1 := Aside0.mk (fun W gr Z (h : Sep w0 W (cellsT gc #[.slice A 512 c, .int .i64 ((p + 32 : Nat) : Int)] 117 :: cellsT gr Z 25 :: L)) => Sep.number4 _ (p + 36) h (ReadsB.r hR _) hb hl hc (by omega) (by omega))
  have HN2 := Aside0.mk (fun W gr Z (h : Sep w0 W (cellsT gc #[.slice A 512 c, .int .i64 ((p + 36 : Nat) : Int)] 117 :: cellsT gr Z 25 :: L)) => Sep.number4 _ (p + 40) h (ReadsB.r hR _) hb hl hc (by omega) (by omega))
  have HKL := Aside0.mk (keyAt_len (b := b) hl (p := p) (by omega))
  generalize keyAt b p = ky at HKY HKL ⊢
  generalize numAt b (p + 32) 4 = n1 at HN1 ⊢
  generalize numAt b (p + 36) 4 = n2 at HN2 ⊢
  have HSZ := Aside0.mk (show (Tryd.prog.info? 25).map (·.size) = some (refV ky n1 n2).toArray.size from size25 (by simpa using refV_len HKL.out n1 n2))
  have HBL := Aside0.mk (built25 ky HKL.out n1 n2)
  have HAL := Aside0.mk (refV_all ky n1 n2)
  have hz := (zero_of_info (P := Tryd.prog) (t := 25) (v := .agg (refV z32 0 0).toArray) (n := 34) (by kernel_rfl)).1
  generalize hZ : (refV z32 0 0).toArray = Z at hz
  have HZs := Aside0.mk (show Z.size = (refV ky n1 n2).toArray.size from by rw [← hZ]; simp only [List.size_toArray]; rw [refV_len HKL.out, refV_len (by rfl)])
  have HS0 := Aside0.mk h
  clear h hR hb hl hZ
  go_enter Tryd.func58, Tryd.ntmps58
  go_upto_region 1 with (fail)
  have HSa := Aside0.mk (HS0.out.push_alloc Z 25).up1
  generalize w.alloc (.cells Z 25) = w2 at HSa ⊢
  generalize w.heap.size = gr at HSa ⊢
  clear HS0 hz
  go_wp2_with (first
    | (go_at_call 57; (with_reducible refine (HKY.out _ _ _ HSa.out).mono ?_); rintro e w3 ⟨rfl, h3⟩; have HS3 := Aside0.mk h3; clear h3)
    | (go_at_call 56; (with_reducible refine (HN1.out _ _ _ HS3.out).mono ?_); rintro e w4 ⟨rfl, h4⟩; have HS4 := Aside0.mk h4; clear h4 HS3)
    | (go_at_call 56; (with_reducible refine (HN2.out _ _ _ HS4.out).mono ?_); rintro e w5 ⟨rfl, h5⟩; have HS5 := Aside0.mk h5.up1; clear h5 HS4; rename_i hKK; refine hKK _ _ ?_; clear hKK; refine wpList_buildTo rfl 25 _ rfl (some 9) rfl (refV ky n1 n2).toArray ?aB ?_; (case aB => (simp only [List.map_toArray, List.map_cons, List.map_nil]; exact HBL.out)))
    | ((with_reducible refine gate_build (ty := 25) rfl ?_); refine wpList_buildTo rfl 25 _ rfl (some 9) rfl (refV ky n1 n2).toArray ?aB ?_; (case aB => (simp only [List.map_toArray, List.map_cons, List.map_nil]; exact HBL.out)))
    | ((with_reducible refine gate_store (ty := 25) rfl ?_); refine Sep.store_own rfl 25 _ _ rfl rfl rfl HS5.out HSZ.out HZs.out HAL.out ?_; intro w6 h6; have HS6 := Aside0.mk h6; clear h6))
  refine bodyPost_ret (results_cell_row (p := 2) (ty := 25) rfl _ _ gr 25 (refV ky n1 n2).toArray (0, 0) _ rfl HS6.out.cells.1 Tryd.underlying25 rfl HSZ.out) rfl ⟨rfl, ?_⟩
  exact HS6.out.drop
end Go.Proofs.YtaflofcnjakaaaaDoor.M

namespace Go.Proofs.YtaflofcnjakaaaaDoor.Bulk
open Go.ChangeShapes Go.WideShapes Go.RowKit Go.Proofs.YtaflofcnjakaaaaDoorW.PrintWords Go.Proofs.YtaflofcnjakaaaaDoorW.PrintLast Go.Proofs.YtaflofcnjakaaaaDoorW.PrintMore Go.Proofs.YtaflofcnjakaaaaDoor.M Go.Proofs.YtaflofcnjakaaaaDoor.Pl Go.Proofs.YtaflofcnjakaaaaDoor.Wr Go.Proofs.YtaflofcnjakaaaaDoor.A
set_option linter.unusedVariables false
section
variable {H : Type} {enc : TypeId × Value → H} {W : World} {base : Nat} {spare : Nat → Bool} {held : Bool}
theorem bound_u8 {x : Int} (h : (Lit.int .u8 x).wf = true) : 0 ≤ x ∧ x < 256 := by
  simp [Lit.wf, IntKind.min, IntKind.max, IntKind.signed, IntKind.bits] at h
  omega
def valI : Value → Int
  | .int _ n => n
  | _ => 0
theorem opens_key {fuel : Nat} {cs : List Value} {x : DataW H × List MemPlace} (h : DataW.trod enc Tryd.prog W base spare held fuel 23 cs = some x) : ∃ l : List Int, cs = nums .u8 l ∧ l.length = 32 ∧ bytes_ l := by
  obtain ⟨xs, m, _, _, hl, hx, hf⟩ := DataW.trod_array Tryd.underlying23 h
  rw [show Tryd.prog.cellsOf 23 = 32 by kernel_rfl] at hl
  have q5 : Tryd.prog.cellsOf 5 = 1 := by kernel_rfl
  have each : ∀ v ∈ cs, ∃ n, v = .int .u8 n ∧ 0 ≤ n ∧ n < 256 := by
    intro v hv
    obtain ⟨i, hi, rfl⟩ := List.getElem_of_mem hv
    have h1 := hf i (by omega)
    rw [q5, Nat.mul_one, List.getElem?_eq_getElem (by omega)] at h1
    obtain ⟨n, he, _, hw⟩ := DataW.trod_int Tryd.underlying5 h1
    refine ⟨n, ?_, bound_u8 hw⟩
    have h2 : (cs.drop i).take 1 = [cs[i]] := by rw [List.drop_eq_getElem_cons hi]; rfl
    rw [h2] at he
    exact List.head_eq_of_cons_eq he
  refine ⟨cs.map valI, ?_, by rw [List.length_map, hl], ?_⟩
  · unfold nums
    rw [List.map_map]
    refine (List.map_congr_left (g := id) (fun v hv => ?_) |>.trans (List.map_id _)).symm
    obtain ⟨n, rfl, _⟩ := each v hv
    rfl
  · intro y hy
    obtain ⟨v, hv, rfl⟩ := List.mem_map.1 hy
    obtain ⟨n, rfl, h1⟩ := each v hv
    exact h1
theorem opens_i64 {fuel : Nat} {c : List Value} {x : DataW H × List MemPlace} (h : DataW.trod enc Tryd.prog W base spare held fuel 3 c = some x) : ∃ n, c = [.int .i64 n] := by
  obtain ⟨n, he, _, hw⟩ := DataW.trod_int Tryd.underlying3 h
  exact ⟨n, he⟩
theorem cut_ {α : Type} (cs : List α) (a n : Nat) {y : List α} (h : (cs.drop a).take n = y) : cs.drop a = y ++ cs.drop (a + n) := by
  rw [← h, ← List.drop_drop]
  exact (List.take_append_drop n _).symm
theorem some_at {α : Type} {xs : List α} {i : Nat} (h : i < xs.length) : ∃ x, xs[i]? = some x := ⟨_, List.getElem?_eq_getElem h⟩
theorem opens_ref {fuel : Nat} {cs : List Value} {x : DataW H × List MemPlace} (h : DataW.trod enc Tryd.prog W base spare held fuel 25 cs = some x) : ∃ (l : List Int) (a b : Int), cs = refV l a b ∧ l.length = 32 ∧ bytes_ l := by
  obtain ⟨xs, m, _, _, hl, hx, hf⟩ := DataW.trod_struct Tryd.underlying25 h
  rw [show Tryd.prog.cellsOf 25 = 34 by kernel_rfl] at hl
  have hx3 : xs.length = 3 := hx
  have q23 : Tryd.prog.cellsOf 23 = 32 := by kernel_rfl
  have q3 : Tryd.prog.cellsOf 3 = 1 := by kernel_rfl
  obtain ⟨x0, e0⟩ := some_at (show 0 < xs.length by omega)
  obtain ⟨x1, e1⟩ := some_at (show 1 < xs.length by omega)
  obtain ⟨x2, e2⟩ := some_at (show 2 < xs.length by omega)
  have f0 : DataW.trod enc Tryd.prog W base spare held m 23 ((cs.drop 0).take (Tryd.prog.cellsOf 23)) = some x0 := (hf 0 _ rfl).trans e0
  have f1 : DataW.trod enc Tryd.prog W base spare held m 3 ((cs.drop 32).take (Tryd.prog.cellsOf 3)) = some x1 := (hf 1 _ rfl).trans e1
  have f2 : DataW.trod enc Tryd.prog W base spare held m 3 ((cs.drop 33).take (Tryd.prog.cellsOf 3)) = some x2 := (hf 2 _ rfl).trans e2
  rw [q23] at f0
  rw [q3] at f1 f2
  obtain ⟨l, g0, hl0, hb0⟩ := opens_key f0
  obtain ⟨a, g1⟩ := opens_i64 f1
  obtain ⟨b, g2⟩ := opens_i64 f2
  refine ⟨l, a, b, ?_, hl0, hb0⟩
  have c0 := cut_ cs 0 32 g0
  have c1 := cut_ cs 32 1 g1
  have c2 := cut_ cs 33 1 g2
  rw [List.drop_zero] at c0
  rw [c0]
  show nums .u8 l ++ cs.drop 32 = _
  rw [c1]
  show nums .u8 l ++ ([Value.int .i64 a] ++ cs.drop 33) = _
  rw [c2, List.drop_eq_nil_of_le (show cs.length ≤ 33 + 1 by omega)]
  rfl
set_option maxRecDepth 100000 in
theorem opens_slot {fuel : Nat} {cs : List Value} {x : DataW H × List MemPlace} (h : DataW.trod enc Tryd.prog W base spare held fuel 27 cs = some x) : ∃ s : SL, s.Ok ∧ cs = s.V := by
  obtain ⟨xs, m, _, _, hl, hx, hf⟩ := DataW.trod_struct Tryd.underlying27 h
  rw [show Tryd.prog.cellsOf 27 = 105 by kernel_rfl] at hl
  have hx3 : xs.length = 8 := hx
  have q25 : Tryd.prog.cellsOf 25 = 34 := by kernel_rfl
  have q23 : Tryd.prog.cellsOf 23 = 32 := by kernel_rfl
  have q3 : Tryd.prog.cellsOf 3 = 1 := by kernel_rfl
  obtain ⟨x0, e0⟩ := some_at (show 0 < xs.length by omega)
  obtain ⟨x1, e1⟩ := some_at (show 1 < xs.length by omega)
  obtain ⟨x2, e2⟩ := some_at (show 2 < xs.length by omega)
  obtain ⟨x3, e3⟩ := some_at (show 3 < xs.length by omega)
  obtain ⟨x4, e4⟩ := some_at (show 4 < xs.length by omega)
  obtain ⟨x5, e5⟩ := some_at (show 5 < xs.length by omega)
  obtain ⟨x6, e6⟩ := some_at (show 6 < xs.length by omega)
  obtain ⟨x7, e7⟩ := some_at (show 7 < xs.length by omega)
  have f0 : DataW.trod enc Tryd.prog W base spare held m 3 ((cs.drop 0).take (Tryd.prog.cellsOf 3)) = some x0 := (hf 0 _ rfl).trans e0
  have f1 : DataW.trod enc Tryd.prog W base spare held m 3 ((cs.drop 1).take (Tryd.prog.cellsOf 3)) = some x1 := (hf 1 _ rfl).trans e1
  have f2 : DataW.trod enc Tryd.prog W base spare held m 3 ((cs.drop 2).take (Tryd.prog.cellsOf 3)) = some x2 := (hf 2 _ rfl).trans e2
  have f3 : DataW.trod enc Tryd.prog W base spare held m 3 ((cs.drop 3).take (Tryd.prog.cellsOf 3)) = some x3 := (hf 3 _ rfl).trans e3
  have f4 : DataW.trod enc Tryd.prog W base spare held m 3 ((cs.drop 4).take (Tryd.prog.cellsOf 3)) = some x4 := (hf 4 _ rfl).trans e4
  have f5 : DataW.trod enc Tryd.prog W base spare held m 23 ((cs.drop 5).take (Tryd.prog.cellsOf 23)) = some x5 := (hf 5 _ rfl).trans e5
  have f6 : DataW.trod enc Tryd.prog W base spare held m 25 ((cs.drop 37).take (Tryd.prog.cellsOf 25)) = some x6 := (hf 6 _ rfl).trans e6
  have f7 : DataW.trod enc Tryd.prog W base spare held m 25 ((cs.drop 71).take (Tryd.prog.cellsOf 25)) = some x7 := (hf 7 _ rfl).trans e7
  rw [q3] at f0 f1 f2 f3 f4
  rw [q23] at f5
  rw [q25] at f6 f7
  obtain ⟨a, g0⟩ := opens_i64 f0
  obtain ⟨b, g1⟩ := opens_i64 f1
  obtain ⟨c, g2⟩ := opens_i64 f2
  obtain ⟨d, g3⟩ := opens_i64 f3
  obtain ⟨e, g4⟩ := opens_i64 f4
  obtain ⟨k, g5, k1, k2⟩ := opens_key f5
  obtain ⟨r, rf, rl, g6, r1, r2⟩ := opens_ref f6
  obtain ⟨o, mf, ml, g7, o1, o2⟩ := opens_ref f7
  refine ⟨⟨a, b, c, d, e, k, r, rf, rl, o, mf, ml⟩, ⟨k1, r1, o1, k2, r2, o2⟩, ?_⟩
  have c0 := cut_ cs 0 1 g0
  have c1 := cut_ cs 1 1 g1
  have c2 := cut_ cs 2 1 g2
  have c3 := cut_ cs 3 1 g3
  have c4 := cut_ cs 4 1 g4
  have c5 := cut_ cs 5 32 g5
  have c6 := cut_ cs 37 34 g6
  have c7 := cut_ cs 71 34 g7
  rw [List.drop_zero] at c0
  rw [List.drop_eq_nil_of_le (show cs.length ≤ 71 + 34 by omega), List.append_nil] at c7
  rw [c0]
  show [Value.int .i64 a] ++ cs.drop 1 = _
  rw [c1]
  show [Value.int .i64 a] ++ ([Value.int .i64 b] ++ cs.drop 2) = _
  rw [c2]
  show [Value.int .i64 a] ++ ([Value.int .i64 b] ++ ([Value.int .i64 c] ++ cs.drop 3)) = _
  rw [c3]
  show [Value.int .i64 a] ++ ([Value.int .i64 b] ++ ([Value.int .i64 c] ++ ([Value.int .i64 d] ++ cs.drop 4))) = _
  rw [c4]
  show [Value.int .i64 a] ++ ([Value.int .i64 b] ++ ([Value.int .i64 c] ++ ([Value.int .i64 d] ++ ([Value.int .i64 e] ++ cs.drop 5)))) = _
  rw [c5]
  show [Value.int .i64 a] ++ ([Value.int .i64 b] ++ ([Value.int .i64 c] ++ ([Value.int .i64 d] ++ ([Value.int .i64 e] ++ (nums .u8 k ++ cs.drop 37))))) = _
  rw [c6]
  show [Value.int .i64 a] ++ ([Value.int .i64 b] ++ ([Value.int .i64 c] ++ ([Value.int .i64 d] ++ ([Value.int .i64 e] ++ (nums .u8 k ++ (refV r rf rl ++ cs.drop 71)))))) = _
  rw [c7]
  rfl
end
end Go.Proofs.YtaflofcnjakaaaaDoor.Bulk

namespace Go.Proofs.YtaflofcnjakaaaaDoor.M
open Go.RowKit Go.Maps Go.Proofs.YtaflofcnjakaaaaDoorW.PrintWords Go.Proofs.YtaflofcnjakaaaaDoorW.PrintLast Go.Proofs.YtaflofcnjakaaaaDoorW.PrintMore Go.Proofs.YtaflofcnjakaaaaDoor.Wr Go.Proofs.YtaflofcnjakaaaaDoor.Pl Go.Proofs.YtaflofcnjakaaaaDoor.P Go.Proofs.YtaflofcnjakaaaaDoor.A
set_option linter.unusedVariables false
set_option linter.unusedSimpArgs false
theorem results_row_tmp {P : Program} {fn : Func} {p u : Tmp} {ty : TypeId} (h : fn.results = #[.cell p ty, .tmp u]) (tmps : Array Value) (w : World) (g : Nat) (t : TypeId) (cs : Array Value) (fr : Nat × Nat) (d : TypeDesc) (v : Value)
    (hp : tmps.getD p undef = .pointer (some ⟨g, 0, none⟩)) (hv : tmps.getD u undef = v) (hg : w.heap[g]? = some (.cells cs t fr))
    (hu : P.underlying ty = some d) (hd : (match d with | .struct _ | .array _ _ => true | _ => false) = true) (hi : (P.info? ty).map (·.size) = some cs.size) :
    (results fn tmps).run P w = .ok (.tuple #[.agg cs, v]) w := by
  rw [results_cell_tmp h, hp, hv]
  simp [asAddr, run_loadVar_row w g t ty cs fr d hg hu hd hi, Sem.run_bind]
theorem str_inj {x y : List Int} (hx : bytes_ x) (hy : bytes_ y) : ((strOfNums x).toList != (strOfNums y).toList) = decide (x ≠ y) := by
  rw [strOfNums_toList, strOfNums_toList]
  have e : (x.map (fun n => UInt8.ofNat n.toNat) = y.map (fun n => UInt8.ofNat n.toNat)) ↔ x = y := by
    constructor
    · intro h
      induction x generalizing y with
      | nil => cases y with
        | nil => rfl
        | cons b y => simp at h
      | cons a x ih => cases y with
        | nil => simp at h
        | cons b y =>
          simp only [List.map_cons, List.cons.injEq] at h
          have ha := hx a (by simp)
          have hb := hy b (by simp)
          have h1 : a.toNat % 256 = b.toNat % 256 := by
            have := congrArg UInt8.toNat h.1
            simpa [UInt8.toNat_ofNat'] using this
          have hab : a = b := by omega
          rw [hab, ih (fun z hz => hx z (by simp [hz])) (fun z hz => hy z (by simp [hz])) h.2]
    · rintro rfl; rfl
  by_cases hxy : x = y
  · subst hxy; simp
  · have : ¬ (x.map (fun n => UInt8.ofNat n.toNat) = y.map (fun n => UInt8.ofNat n.toNat)) := fun h => hxy (e.1 h)
    rw [bne_iff_ne.2 this]
    simp [hxy]
def noSL : SL := ⟨0, 0, 0, 0, 0, z32, z32, 0, 0, z32, 0, 0⟩
theorem z32_ok : z32.length = 32 ∧ bytes_ z32 := ⟨rfl, fun x hx => by rw [List.eq_of_mem_replicate hx]; omega⟩
theorem noSL_ok : noSL.Ok := ⟨z32_ok.1, z32_ok.1, z32_ok.1, z32_ok.2, z32_ok.2, z32_ok.2⟩
def decS (b : List Int) : SL := (decB b).getD noSL
def decE (b : List Int) : Int := if (decB b).isSome then 0 else 180
theorem decS_no {b : List Int} (h : decB b = none) : decS b = noSL ∧ decE b = 180 := by unfold decS decE; rw [h]; exact ⟨rfl, rfl⟩
theorem decS_yes {b : List Int} {s : SL} (h : decB b = some s) : decS b = s ∧ decE b = 0 := by unfold decS decE; rw [h]; exact ⟨rfl, rfl⟩
theorem decS_ok {b : List Int} (hb : bytes_ b) : (decS b).Ok := by
  cases h : decB b with
  | none => rw [(decS_no h).1]; exact noSL_ok
  | some s => rw [(decS_yes h).1]; exact (dec_some hb h).1
theorem Sep.num_ {w0 w : World} {L : List Th} {gc : Nat} {A : Option Addr} {c : Nat} (n p q : Nat) (N P' Q : Int) {b : List Int} (h : Sep w0 w (cellsT gc #[.slice A 512 c, .int .i64 P'] 117 :: L)) (hR : ReadsB w0 L A b) (hb : bytes_ b) (hl : b.length = 512) (hc : 512 ≤ c) (hN : (n : Int) = N) (hP : (p : Int) = P') (hQ : ((p + n : Nat) : Int) = Q) (h1 : 1 ≤ n) (h8 : n ≤ 8) (hp : p + n ≤ 512) :
    Calls Tryd.prog 56 #[.pointer (some ⟨gc, 0, none⟩), .int .i64 N] w fun e w' => e = .returned (.int .i64 (numAt b p n)) ∧ Sep w0 w' (cellsT gc #[.slice A 512 c, .int .i64 Q] 117 :: L) := by
  subst hN hP hQ
  exact Sep.number h hR hb hl hc n h1 h8 hp
theorem Sep.key_ {w0 w : World} {L : List Th} {gc : Nat} {A : Option Addr} {c : Nat} (p : Nat) (P' Q : Int) {b : List Int} (h : Sep w0 w (cellsT gc #[.slice A 512 c, .int .i64 P'] 117 :: L)) (hR : ReadsB w0 L A b) (hb : bytes_ b) (hl : b.length = 512) (hc : 512 ≤ c) (hP : (p : Int) = P') (hQ : ((p + 32 : Nat) : Int) = Q) (hp : p + 32 ≤ 512) :
    Calls Tryd.prog 57 #[.pointer (some ⟨gc, 0, none⟩)] w fun e w' => e = .returned (.agg (nums .u8 (keyAt b p)).toArray) ∧ Sep w0 w' (cellsT gc #[.slice A 512 c, .int .i64 Q] 117 :: L) := by
  subst hP hQ
  exact Sep.key h hR hb hl hc hp
theorem Sep.ref_ {w0 w : World} {L : List Th} {gc : Nat} {A : Option Addr} {c : Nat} (p : Nat) (P' Q : Int) {b : List Int} (h : Sep w0 w (cellsT gc #[.slice A 512 c, .int .i64 P'] 117 :: L)) (hR : ReadsB w0 L A b) (hb : bytes_ b) (hl : b.length = 512) (hc : 512 ≤ c) (hP : (p : Int) = P') (hQ : ((p + 40 : Nat) : Int) = Q) (hp : p + 40 ≤ 512) :
    Calls Tryd.prog 58 #[.pointer (some ⟨gc, 0, none⟩)] w fun e w' => e = .returned (.agg (refV (keyAt b p) (numAt b (p + 32) 4) (numAt b (p + 36) 4)).toArray) ∧ Sep w0 w' (cellsT gc #[.slice A 512 c, .int .i64 Q] 117 :: L) := by
  subst hP hQ
  exact Sep.ref h hR hb hl hc hp
set_option maxHeartbeats 16000000 in
set_option maxRecDepth 100000 in
theorem Sep.decode {w0 w : World} {L : List Th} {A : Option Addr} {c : Nat} {b : List Int} (h : Sep w0 w L) (hH : Wr.Half w0) (hR : ReadsB w0 L A b) (hb : bytes_ b) (hl : b.length = 512) (hc : 512 ≤ c) :
    Calls Tryd.prog 32 #[.slice A 512 c] w fun e w' => e = .returned (.tuple #[.agg (decS b).V.toArray, .int .i64 (decE b)]) ∧ Sep w0 w' L := by
  have HN0 := Aside0.mk (fun W (t : Th) gc (h : Sep w0 W (cellsT gc #[.slice A 512 c, .int .i64 4] 117 :: t :: L)) => Sep.num_ 4 4 8 4 4 8 h (ReadsB.r hR _) hb hl hc rfl rfl rfl (by decide) (by decide) (by decide))
  have HN1 := Aside0.mk (fun W (t : Th) gc (h : Sep w0 W (cellsT gc #[.slice A 512 c, .int .i64 8] 117 :: t :: L)) => Sep.num_ 4 8 12 4 8 12 h (ReadsB.r hR _) hb hl hc rfl rfl rfl (by decide) (by decide) (by decide))
  have HN2 := Aside0.mk (fun W (t : Th) gc (h : Sep w0 W (cellsT gc #[.slice A 512 c, .int .i64 12] 117 :: t :: L)) => Sep.num_ 8 12 20 8 12 20 h (ReadsB.r hR _) hb hl hc rfl rfl rfl (by decide) (by decide) (by decide))
  have HN3 := Aside0.mk (fun W (t : Th) gc (h : Sep w0 W (cellsT gc #[.slice A 512 c, .int .i64 20] 117 :: t :: L)) => Sep.num_ 8 20 28 8 20 28 h (ReadsB.r hR _) hb hl hc rfl rfl rfl (by decide) (by decide) (by decide))
  have HN4 := Aside0.mk (fun W (t : Th) gc (h : Sep w0 W (cellsT gc #[.slice A 512 c, .int .i64 28] 117 :: t :: L)) => Sep.num_ 8 28 36 8 28 36 h (ReadsB.r hR _) hb hl hc rfl rfl rfl (by decide) (by decide) (by decide))
  have HKY := Aside0.mk (fun W (t : Th) gc (h : Sep w0 W (cellsT gc #[.slice A 512 c, .int .i64 36] 117 :: t :: L)) => Sep.key_ 36 36 68 h (ReadsB.r hR _) hb hl hc rfl rfl (by decide))
  have HRR := Aside0.mk (fun W (t u : Th) gc (h : Sep w0 W (cellsT gc #[.slice A 512 c, .int .i64 68] 117 :: t :: u :: L)) => (show Calls Tryd.prog 58 _ W fun e w' => e = .returned (.agg (refV (keyAt b 68) (numAt b 100 4) (numAt b 104 4)).toArray) ∧ Sep w0 w' (cellsT gc #[.slice A 512 c, .int .i64 108] 117 :: t :: u :: L) from Sep.ref_ 68 68 108 h (ReadsB.r (ReadsB.r hR _) _) hb hl hc rfl rfl (by decide)))
  have HRM := Aside0.mk (fun W (t u : Th) gc (h : Sep w0 W (cellsT gc #[.slice A 512 c, .int .i64 108] 117 :: t :: u :: L)) => (show Calls Tryd.prog 58 _ W fun e w' => e = .returned (.agg (refV (keyAt b 108) (numAt b 140 4) (numAt b 144 4)).toArray) ∧ Sep w0 w' (cellsT gc #[.slice A 512 c, .int .i64 148] 117 :: t :: u :: L) from Sep.ref_ 108 108 148 h (ReadsB.r (ReadsB.r hR _) _) hb hl hc rfl rfl (by decide)))
  have HR0 := Aside0.mk (read_ok hl hb)
  have HDS := Aside0.mk (show mayM (readL b) = true → encB (readL b) = b → decS b = readL b ∧ decE b = 0 from fun h1 h2 => decS_yes (by unfold decB; rw [if_pos ⟨hl, h1, h2⟩]))
  have HDN := Aside0.mk (show (mayM (readL b) = true → encB (readL b) ≠ b) → decS b = noSL ∧ decE b = 180 from fun h1 => decS_no (by unfold decB; rw [if_neg (fun h2 => h1 h2.2.1 h2.2.2)]))
  have HRD := Aside0.mk (show readL b = ⟨numAt b 4 4, numAt b 8 4, numAt b 12 8, numAt b 20 8, numAt b 28 8, keyAt b 36, keyAt b 68, numAt b 100 4, numAt b 104 4, keyAt b 108, numAt b 140 4, numAt b 144 4⟩ from rfl)
  have HKL := Aside0.mk (show (keyAt b 36).length = 32 ∧ (keyAt b 68).length = 32 ∧ (keyAt b 108).length = 32 from ⟨keyAt_len hl (by decide), keyAt_len hl (by decide), keyAt_len hl (by decide)⟩)
  have HKB := Aside0.mk (show bytes_ (keyAt b 36) ∧ bytes_ (keyAt b 68) ∧ bytes_ (keyAt b 108) from ⟨bytes_take (bytes_drop hb _) _, bytes_take (bytes_drop hb _) _, bytes_take (bytes_drop hb _) _⟩)
  have HS0 := Aside0.mk h
  have HCV := Aside0.mk (fun W (M : List Th) (hs : Sub L M) (h : Sep w0 W M) => (show (convert 28 9 (.slice A 512 c)).run Tryd.prog W = .ok (.string (strOfNums b)) W from Kd.C_string (P := Tryd.prog) Tryd.underlying28 Tryd.underlying5 Tryd.underlying9 (hR W M hs h)))
  generalize numAt b 4 4 = n0 at HN0 HRD
  generalize numAt b 8 4 = n1 at HN1 HRD
  generalize numAt b 12 8 = n2 at HN2 HRD
  generalize numAt b 20 8 = n3 at HN3 HRD
  generalize numAt b 28 8 = n4 at HN4 HRD
  generalize keyAt b 36 = k at HKY HRD HKL HKB
  generalize keyAt b 68 = rh at HRR HRD HKL HKB
  generalize numAt b 100 4 = rf at HRR HRD
  generalize numAt b 104 4 = rl at HRR HRD
  generalize keyAt b 108 = mh at HRM HRD HKL HKB
  generalize numAt b 140 4 = mf at HRM HRD
  generalize numAt b 144 4 = ml at HRM HRD
  have HEN := Aside0.mk (fun W (M : List Th) (hm : mayM (readL b) = true) (h : Sep w0 W M) => Sep.encode h hH (readL b) HR0.out hm)
  have HEX := Aside0.mk (fun W (hm : mayM (readL b) = false) => encode_no (readL b) HR0.out hm W)
  have HSI := Aside0.mk (str_inj (bytes_encB HR0.out) hb)
  have HEL := Aside0.mk (encB_len HR0.out)
  have HCE := Aside0.mk (fun W g (M : List Th) (h : Sep w0 W (cellsT g (nums .u8 (encB (readL b))).toArray 89 :: M)) => (show (convert 28 9 (.slice (some ⟨g, 0, none⟩) 512 512)).run Tryd.prog W = .ok (.string (strOfNums (encB (readL b)))) W from Kd.C_string (P := Tryd.prog) Tryd.underlying28 Tryd.underlying5 Tryd.underlying9 (C_segn h.cells.1 0 (encB (readL b)) 512 HEL.out (by rw [List.drop_zero]; exact List.take_of_length_le (by rw [nums_length, HEL.out]; exact Nat.le_refl _)) (by decide))))
  generalize readL b = sr at *
  generalize encB sr = eb at *
  generalize strOfNums b = sb at HCV HSI
  generalize strOfNums eb = se at HCE HSI
  have HB1 := Aside0.mk (built27 k HKL.out.1 n0 n1 n2 n3 n4)
  have HO1 := Aside0.mk (show SL.Ok ⟨n0, n1, n2, n3, n4, k, z32, 0, 0, z32, 0, 0⟩ from ⟨HKL.out.1, z32_ok.1, z32_ok.1, HKB.out.1, z32_ok.2, z32_ok.2⟩)
  have HO2 := Aside0.mk (show SL.Ok ⟨n0, n1, n2, n3, n4, k, rh, rf, rl, z32, 0, 0⟩ from ⟨HKL.out.1, HKL.out.2.1, z32_ok.1, HKB.out.1, HKB.out.2.1, z32_ok.2⟩)
  have HV2 := Aside0.mk (V_set_root HO1.out rh rf rl HKL.out.2.1)
  have HV3 := Aside0.mk (V_set_memo HO2.out mh mf ml HKL.out.2.2)
  have HL1 := Aside0.mk (SL.V_len HO1.out)
  have HL2 := Aside0.mk (SL.V_len HO2.out)
  have HA1 := Aside0.mk (SL.V_all ⟨n0, n1, n2, n3, n4, k, z32, 0, 0, z32, 0, 0⟩)
  have HVR := Aside0.mk (show SL.V ⟨n0, n1, n2, n3, n4, k, rh, rf, rl, mh, mf, ml⟩ = sr.V from by rw [HRD.out])
  have HOK := Aside0.mk (SL.V_len HR0.out)
  have HAV := Aside0.mk (SL.V_all sr)
  have HV3b := HV3.out
  dsimp only at HV3b
  rw [HVR.out] at HV3b
  have HV2b := HV2.out
  dsimp only at HV2b
  clear HV2 HV3 HVR HRD HO1 HO2 HKB
  have HV2 := Aside0.mk HV2b
  have HV3 := Aside0.mk HV3b
  clear HV2b HV3b
  generalize SL.V ⟨n0, n1, n2, n3, n4, k, z32, 0, 0, z32, 0, 0⟩ = V1 at HB1 HV2 HL1 HA1
  generalize SL.V ⟨n0, n1, n2, n3, n4, k, rh, rf, rl, z32, 0, 0⟩ = V2 at HV2 HV3 HL2
  have HSR := Aside0.mk (refV_len HKL.out.2.1 rf rl)
  have HSM := Aside0.mk (refV_len HKL.out.2.2 mf ml)
  have HAR := Aside0.mk (refV_all rh rf rl)
  have HAM := Aside0.mk (refV_all mh mf ml)
  generalize refV rh rf rl = VR at HV2 HSR HAR HRR
  generalize refV mh mf ml = VM at HV3 HSM HAM HRM
  have HSR2 := Aside0.mk (show (Tryd.prog.info? 25).map (·.size) = some VR.toArray.size from size25 (by simpa using HSR.out))
  have HSM2 := Aside0.mk (show (Tryd.prog.info? 25).map (·.size) = some VM.toArray.size from size25 (by simpa using HSM.out))
  have HS1_ := Aside0.mk (show (Tryd.prog.info? 27).map (·.size) = some V1.toArray.size from size27 (by simpa using HL1.out))
  have hz := (zero_of_info (P := Tryd.prog) (t := 27) (v := .agg noSL.V.toArray) (n := 105) (by kernel_rfl)).1
  have HBZ := Aside0.mk (show Tryd.prog.built 27 [] = some noSL.V.toArray from built27z)
  have HSZ := Aside0.mk (show (Tryd.prog.info? 27).map (·.size) = some noSL.V.toArray.size from size27 (by simpa using SL.V_len noSL_ok))
  have HSV := Aside0.mk (show (Tryd.prog.info? 27).map (·.size) = some sr.V.toArray.size from size27 (by simpa using HOK.out))
  have HZA := Aside0.mk (SL.V_all noSL)
  have HZN := Aside0.mk (show noSL.V.toArray.size = 105 from by simpa using SL.V_len noSL_ok)
  have HVN := Aside0.mk (show sr.V.toArray.size = 105 from by simpa using HOK.out)
  generalize hV : sr.V = V at HEN HEX HSV HAV HVN HV3 HOK
  have HV := Aside0.mk hV
  clear hV
  generalize hZ : noSL.V.toArray = Z at hz HBZ HSZ HZA HZN
  have HZ := Aside0.mk hZ
  clear hZ
  clear h hH hR hb hl hc HKL
  generalize decS b = ds at *
  generalize decE b = de at *
  have HZ1 := Aside0.mk (show Z.size = V1.toArray.size from by rw [HZN.out]; simpa using HL1.out.symm)
  have HZV := Aside0.mk (show Z.size = V.toArray.size from by rw [HZN.out, HVN.out])
  go_enter Tryd.func32, Tryd.ntmps32
  go_upto_region 1 with (fail)
  have HS1 := Aside0.mk (HS0.out.push_alloc Z 27)
  generalize w.alloc (.cells Z 27) = w1 at HS1 ⊢
  generalize w.heap.size = gr at HS1 ⊢
  clear HS0
  go_upto_region 4 with (fail)
  have HS2 := Aside0.mk (HS1.out.push_alloc #[.slice A 512 c, .int .i64 4] 117)
  generalize w1.alloc (.cells #[.slice A 512 c, .int .i64 4] 117) = w2 at HS2 ⊢
  generalize w1.heap.size = gc at HS2 ⊢
  clear HS1
  go_upto_region 5 with (first
    | (go_at_call 56; (with_reducible refine (HN0.out _ _ _ HS2.out).mono ?_); rintro e w3 ⟨rfl, h3⟩; have HS3 := Aside0.mk h3; clear h3 HS2)
    | (go_at_call 56; (with_reducible refine (HN1.out _ _ _ HS3.out).mono ?_); rintro e w4 ⟨rfl, h4⟩; have HS4 := Aside0.mk h4; clear h4 HS3)
    | (go_at_call 56; (with_reducible refine (HN2.out _ _ _ HS4.out).mono ?_); rintro e w5 ⟨rfl, h5⟩; have HS5 := Aside0.mk h5; clear h5 HS4)
    | (go_at_call 56; (with_reducible refine (HN3.out _ _ _ HS5.out).mono ?_); rintro e w6 ⟨rfl, h6⟩; have HS6 := Aside0.mk h6; clear h6 HS5)
    | (go_at_call 56; (with_reducible refine (HN4.out _ _ _ HS6.out).mono ?_); rintro e w7 ⟨rfl, h7⟩; have HS7 := Aside0.mk h7; clear h7 HS6)
    | (go_at_call 57; (with_reducible refine (HKY.out _ _ _ HS7.out).mono ?_); rintro e w8 ⟨rfl, h8⟩; have HS8 := Aside0.mk h8; clear h8 HS7)
    | ((with_reducible refine gate_build (ty := 27) rfl ?_); refine wpList_buildTo rfl 27 _ rfl (some 27) rfl V1.toArray ?aB ?_; (case aB => (simp only [List.map_toArray, List.map_cons, List.map_nil]; exact HB1.out)))
    | ((with_reducible refine gate_store (ty := 27) rfl ?_); refine Sep.store_own rfl 27 _ _ rfl rfl rfl (HS8.out.push_alloc Z 27) HS1_.out HZ1.out HA1.out ?_; intro w9 h9; have HS9 := Aside0.mk h9.up1; clear h9))
  generalize w8.heap.size = gs at HS9 ⊢
  clear HS8 HN0 HN1 HN2 HN3 HN4 HKY
  go_upto_region 6 with (first
    | (go_at_call 58; (with_reducible refine (HRR.out _ _ _ _ HS9.out).mono ?_); rintro e w10 ⟨rfl, h10⟩; have HS10 := Aside0.mk h10.up1; clear h10 HS9)
    | ((with_reducible refine gate_store (ty := 25) rfl ?_); refine Sep.store_part (p := 37) rfl 25 _ _ rfl rfl rfl HS10.out HSR2.out ?aP HAR.out ?_; (case aP => (rw [HSR.out, HL1.out]; decide)); intro w11 h11; have HS11 := Aside0.mk (show Sep w0 w11 _ from (by rw [HV2.out] at h11; exact h11.up1)); clear h11 HS10))
  go_upto_region 7 with (first
    | (go_at_call 58; (with_reducible refine (HRM.out _ _ _ _ HS11.out).mono ?_); rintro e w12 ⟨rfl, h12⟩; have HS12 := Aside0.mk h12.up1; clear h12 HS11)
    | ((with_reducible refine gate_store (ty := 25) rfl ?_); refine Sep.store_part (p := 71) rfl 25 _ _ rfl rfl rfl HS12.out HSM2.out ?aP HAM.out ?_; (case aP => (rw [HSM.out, HL2.out]; decide)); intro w13 h13; have HS13 := Aside0.mk (show Sep w0 w13 _ from (by rw [HV3.out] at h13; exact h13)); clear h13 HS12))
  have HLD := Aside0.mk (fun W (M : List Th) (h : Sep w0 W (cellsT gs V.toArray 27 :: M)) => (show ∀ j v, V.toArray.toList[j]? = some v → W.cell? ((⟨gs, 0, none⟩ : Addr).add j) = some v from fun j v hv => seg_at h.cells.1 0 V (by rw [List.drop_zero]; exact List.take_of_length_le (Nat.le_refl _)) j v (by simpa using hv)))
  cases hm : mayM sr with
  | false =>
    go_upto_region 8 with (first
      | ((with_reducible refine gate_load (ty := 27) rfl ?_); refine wpList_ldw ?_ 27 _ rfl ⟨gs, 0, none⟩ ?_ V.toArray _ (HLD.out _ _ HS13.out) Tryd.underlying27 rfl HSV.out ?_; exact rfl; exact rfl; skip)
      | (go_at_call 12; (with_reducible refine (HEX.out _ hm).mono ?_); rintro e w14 ⟨rfl, hb⟩; have HS14 := Aside0.mk (HS13.out.step hb); clear hb))
    go_wp2_with (first
      | ((with_reducible refine gate_build (ty := 27) rfl ?_); refine wpList_buildTo rfl 27 _ rfl (some 48) rfl Z ?aB ?_; (case aB => (simp only [List.map_toArray, List.map_nil]; exact HBZ.out)))
      | ((with_reducible refine gate_store (ty := 27) rfl ?_); refine Sep.store_own rfl 27 _ _ rfl rfl rfl HS14.out.up2 HSZ.out rfl HZA.out ?_; intro w15 h15; have HS15 := Aside0.mk h15; clear h15))
    obtain ⟨rfl, rfl⟩ := HDN.out (fun h => by rw [hm] at h; cases h)
    rw [HZ.out]
    refine bodyPost_ret (results_row_tmp (p := 2) (u := 3) (ty := 27) rfl _ _ gr 27 Z (0, 0) _ _ rfl rfl HS15.out.cells.1 Tryd.underlying27 rfl HSZ.out) rfl ⟨rfl, ?_⟩
    exact HS15.out.drop.drop.drop
  | true =>
    go_upto_region 8 with (first
      | ((with_reducible refine gate_load (ty := 27) rfl ?_); refine wpList_ldw ?_ 27 _ rfl ⟨gs, 0, none⟩ ?_ V.toArray _ (HLD.out _ _ HS13.out) Tryd.underlying27 rfl HSV.out ?_; exact rfl; exact rfl; skip)
      | (go_at_call 12; (with_reducible refine (HEN.out _ _ hm HS13.out).mono ?_); rintro e w14 ⟨ge, rfl, h14⟩; have HS14 := Aside0.mk h14; clear h14))
    have hc1 := HCE.out _ _ _ HS14.out
    have hc2 := HCV.out _ _ (Sub.c (Sub.c (Sub.c (Sub.c (Sub.r _))))) HS14.out
    have hsi := HSI.out
    by_cases hq : eb = b
    · have hsi2 : (se.toList != sb.toList) = false := by rw [hsi, hq]; simp
      have hsi3 : (se.toList == sb.toList) = true := by cases h : (se.toList == sb.toList) with
        | true => rfl
        | false => rw [bne, h] at hsi2; cases hsi2
      clear hsi
      go_upto_region 10 with (fail)
      clear hc1 hc2 HCV
      go_wp2_with (first
        | ((with_reducible refine gate_load (ty := 27) rfl ?_); refine wpList_ldw ?_ 27 _ rfl ⟨gs, 0, none⟩ ?_ V.toArray _ (HLD.out _ _ HS14.out.up1) Tryd.underlying27 rfl HSV.out ?_; exact rfl; exact rfl; skip)
        | ((with_reducible refine gate_store (ty := 27) rfl ?_); refine Sep.store_own rfl 27 _ _ rfl rfl rfl HS14.out.up3 HSV.out HZV.out HAV.out ?_; intro w15 h15; have HS15 := Aside0.mk h15; clear h15))
      obtain ⟨rfl, rfl⟩ := HDS.out hm hq
      rw [HV.out]
      refine bodyPost_ret (results_row_tmp (p := 2) (u := 3) (ty := 27) rfl _ _ gr 27 V.toArray (0, 0) _ _ rfl rfl HS15.out.cells.1 Tryd.underlying27 rfl HSV.out) rfl ⟨rfl, ?_⟩
      exact HS15.out.drop.drop.drop.drop
    · have hsi2 : (se.toList != sb.toList) = true := by rw [hsi]; simp [hq]
      have hsi3 : (se.toList == sb.toList) = false := by cases h : (se.toList == sb.toList) with
        | false => rfl
        | true => rw [bne, h] at hsi2; cases hsi2
      clear hsi
      go_upto_region 9 with (fail)
      clear hc1 hc2 HCV
      go_wp2_with (first
        | ((with_reducible refine gate_build (ty := 27) rfl ?_); refine wpList_buildTo rfl 27 _ rfl (some 48) rfl Z ?aB ?_; (case aB => (simp only [List.map_toArray, List.map_nil]; exact HBZ.out)))
        | ((with_reducible refine gate_store (ty := 27) rfl ?_); refine Sep.store_own rfl 27 _ _ rfl rfl rfl HS14.out.up3 HSZ.out rfl HZA.out ?_; intro w15 h15; have HS15 := Aside0.mk h15; clear h15))
      obtain ⟨rfl, rfl⟩ := HDN.out (fun _ => hq)
      rw [HZ.out]
      refine bodyPost_ret (results_row_tmp (p := 2) (u := 3) (ty := 27) rfl _ _ gr 27 Z (0, 0) _ _ rfl rfl HS15.out.cells.1 Tryd.underlying27 rfl HSZ.out) rfl ⟨rfl, ?_⟩
      exact HS15.out.drop.drop.drop.drop
end Go.Proofs.YtaflofcnjakaaaaDoor.M

namespace Go.Proofs.YtaflofcnjakaaaaDoor.M
open Go.RowKit Go.Maps Go.Proofs.YtaflofcnjakaaaaDoorW.PrintWords Go.Proofs.YtaflofcnjakaaaaDoorW.PrintLast Go.Proofs.YtaflofcnjakaaaaDoorW.PrintMore Go.Proofs.YtaflofcnjakaaaaDoor.Wr Go.Proofs.YtaflofcnjakaaaaDoor.Pl Go.Proofs.YtaflofcnjakaaaaDoor.P Go.Proofs.YtaflofcnjakaaaaDoor.A
set_option linter.unusedVariables false
set_option linter.unusedSimpArgs false
def nwb_T : Bool × List (List Nat × List Nat) := (true, [([], []), ([0], [0]), ([1], [1]), ([2], [2]), ([3, 2], [2, 3]), ([2], [2]), ([5, 2, 2], [2, 5]), ([4, 6, 2], [2, 4, 6]), ([2, 7], [2, 7])])
def nwb_B : List Nat := [0, 1, 3, 7, 15, 7, 39, 127, 255]
theorem nwb_tab : rtab .any (opsOf Tryd.f17 4) = nwb_T := by kernel_rfl
theorem nwb_bits : waitsOk nwb_T.2 nwb_B = true := by kernel_rfl
def st19_T : Bool × List (List Nat × List Nat) := (true, [([], []), ([0], [0]), ([1], [1]), ([2], [2]), ([], []), ([4], [4]), ([5], [5]), ([6], [6]), ([], []), ([8], [8]), ([9], [9]), ([10], [10]), ([3, 7, 11], [3, 7, 11])])
def st19_B : List Nat := [0, 1, 3, 7, 0, 16, 48, 112, 0, 256, 768, 1792, 4095]
theorem st19_tab : rtab .any (opsOf Tryd.f19 3) = st19_T := by kernel_rfl
theorem st19_bits : waitsOk st19_T.2 st19_B = true := by kernel_rfl
def wrT (gx ge gd : Nat) (n : Int) (b : List Int) (st : Int) : List Th := [cellsT gx #[.pointer (some ⟨gd, 0, none⟩), .int .i64 n, .slice (some ⟨ge, 0, none⟩) 512 512, .int .i64 st] 104, cellsT ge (nums .u8 b).toArray 89]
set_option maxHeartbeats 8000000 in
set_option maxRecDepth 100000 in
theorem Sep.writer {w0 w : World} {L : List Th} {gd : Nat} {D : DS} (h : Sep w0 w (dkT gd D :: L)) (hH : Wr.Half w0) (s : SL) (hs : s.Ok) (hm : mayM s = true) (hsec : s.a = (D.n : Int)) :
    Calls Tryd.prog 17 #[.pointer (some ⟨gd, 0, none⟩), .agg s.V.toArray] w fun e w' => ∃ gx ge, e = .returned (.tuple #[.pointer (some ⟨gx, 0, none⟩), .int .i64 0]) ∧ Sep w0 w' (wrT gx ge gd (s.c.tmod 2) (encB s) 0 ++ dkT gd D :: L) := by
  have HSA := Aside0.mk (show (Tryd.prog.info? 27).map (·.size) = some s.V.toArray.size from size27 (by simpa using SL.V_len hs))
  have HEN := Aside0.mk (fun W (M : List Th) (h : Sep w0 W M) => Sep.encode h hH s hs hm)
  have HSA0 := Aside0.mk (show s.V.toArray[0]? = some (.int .i64 s.a) from by simpa using s.V0)
  have HSA2 := Aside0.mk (show s.V.toArray[2]? = some (.int .i64 s.c) from by simpa using s.V2)
  have HS0 := Aside0.mk (h.push_alloc s.V.toArray 27)
  have HLV := Aside0.mk (fun W (M : List Th) g (h : Sep w0 W (cellsT g s.V.toArray 27 :: M)) => (show ∀ j v, s.V.toArray.toList[j]? = some v → W.cell? ((⟨g, 0, none⟩ : Addr).add j) = some v from fun j v hv => seg_at h.cells.1 0 s.V (by rw [List.drop_zero]; exact List.take_of_length_le (Nat.le_refl _)) j v (by simpa using hv)))
  have HSC := Aside0.mk (fun W (M : List Th) (h : Sep w0 W (dkT gd D :: M)) => (show Calls Tryd.prog 47 #[.pointer (some ⟨gd, 0, none⟩)] W (fun e w' => e = .returned (.int .i64 s.a) ∧ w' = W) from by rw [hsec]; exact Sep.sectors h))
  clear h hs hm hH hsec
  generalize s.V.toArray = V at HS0 HEN HSA HLV HSA0 HSA2 ⊢
  generalize encB s = eb at HEN ⊢
  generalize s.a = sa at *
  generalize s.c = sc at *
  go_enter Tryd.func17, Tryd.ntmps17
  go_upto_region 1 with (fail)
  generalize w.alloc (.cells V 27) = w1 at HS0 ⊢
  generalize w.heap.size = g0 at HS0 ⊢
  go_upto_region 4 with (first
    | ((with_reducible refine gate_load (ty := 27) rfl ?_); refine wpList_ldw ?_ 27 _ rfl ⟨g0, 0, none⟩ ?_ V _ (HLV.out _ _ _ HS0.out) Tryd.underlying27 rfl HSA.out ?_; exact rfl; exact rfl; skip)
    | (go_at_call 12; (with_reducible refine (HEN.out _ _ HS0.out).mono ?_); rintro e w2 ⟨ge, rfl, h2⟩; have HSx := Aside0.mk h2; clear h2))
  have HSy := Aside0.mk (HSx.out.step (below_drew1 (Below.refl w2.heap.size w2)))
  clear HS0 HSx HEN HLV
  refine start_ (n := 9) (S := fun W => W.cell? ⟨g0, 0, none⟩ = some (.int .i64 sa)) (ds := []) (bb 9 0) (by kernel_rfl) rfl rfl (blk_cell HSy.out.up1.cells.1 0 |>.trans HSA0.out) (fun hHeld => ?_); refine with_tabW nwb_tab nwb_bits (fun HT_ HW_ => ?_)
  generalize w2.drew = wd at hHeld HSy ⊢
  refine pure_ (i := 0) (N := (some 15)) (v := ?_) (a' := ?_) (bb 9 1) rfl rfl (any_of HT_.out (by kernel_rfl)) (fun _ _ _ h => h) (Or.inl ⟨by rfl, ?_⟩) ?_ ?_
  rotate_left
  · intro w'
    go_simp
    with_reducible rfl
  rotate_left
  · simp only [Act.put, List.setIfInBounds_toArray, List.set_cons_zero, List.set_cons_succ, i64_w, i32_w]
    rfl
  refine pure_ (i := 1) (N := (some 16)) (v := ?_) (a' := ?_) (bb 9 3) rfl rfl (any_of HT_.out (by kernel_rfl)) (fun _ _ _ h => h) (Or.inl ⟨by rfl, ?_⟩) ?_ ?_
  rotate_left
  · intro w'
    go_simp
    with_reducible rfl
  rotate_left
  · simp only [Act.put, List.setIfInBounds_toArray, List.set_cons_zero, List.set_cons_succ, i64_w, i32_w]
    rfl
  refine pure_ (i := 2) (N := (some 17)) (v := ?_) (a' := ?_) (bb 9 7) rfl rfl (any_of HT_.out (by kernel_rfl)) (fun _ _ _ h => h) (Or.inl ⟨by rfl, ?_⟩) ?_ ?_
  rotate_left
  · intro w'
    go_simp
    with_reducible rfl
  rotate_left
  · simp only [Act.put, List.setIfInBounds_toArray, List.set_cons_zero, List.set_cons_succ, i64_w, i32_w]
    rfl
  refine pure_ (i := 3) (N := (some 18)) (v := ?_) (a' := ?_) (bb 9 15) rfl rfl (any_of HT_.out (by kernel_rfl)) (fun _ _ _ h => h) (Or.inl ⟨by rfl, ?_⟩) ?_ ?_
  rotate_left
  · intro w'
    go_simp
    with_reducible rfl
  rotate_left
  · simp only [Act.put, List.setIfInBounds_toArray, List.set_cons_zero, List.set_cons_succ, i64_w, i32_w]
    rfl
  refine take_ (i := 4) (N := (some 19)) (v := ?_) (a' := ?_) (bb 9 31) rfl rfl (take_ofW HT_.out HW_.out (by kernel_rfl)) (fun _ _ _ h => h) (Or.inl ⟨by rfl, ?_⟩) hHeld ?_ ?_
  rotate_left
  · intro w' s0
    (try dsimp only at s0)
    go_simp
    with_reducible rfl
  rotate_left
  · simp only [Act.put, List.setIfInBounds_toArray, List.set_cons_zero, List.set_cons_succ, i64_w, i32_w]
    rfl
  refine pure_ (i := 5) (N := (some 20)) (v := ?_) (a' := ?_) (bb 9 63) rfl rfl (any_of HT_.out (by kernel_rfl)) (fun _ _ _ h => h) (Or.inl ⟨by rfl, ?_⟩) ?_ ?_
  rotate_left
  · intro w'
    go_simp
    with_reducible rfl
  rotate_left
  · simp only [Act.put, List.setIfInBounds_toArray, List.set_cons_zero, List.set_cons_succ, i64_w, i32_w]
    rfl
  refine one_ (i := 6) (N := (some 21)) (bb 9 127) rfl rfl (one_of HT_.out (by kernel_rfl)) (by decide) (fun K hK => ?_)
  refine goes_ Tryd.func47 (by kernel_rfl) rfl #[.pointer (some ⟨gd, 0, none⟩)] (by rfl) rfl rfl (by (try simp only [List.map_toArray, List.map_cons, List.map_nil]); first | done | rfl) ?_
  refine (HSC.out _ _ HSy.out.up2).mono ?_
  rintro e w3 ⟨rfl, rfl⟩
  refine ⟨_, rfl, ?_⟩
  refine hK.out _ _ (blk_cell HSy.out.up1.cells.1 0 |>.trans HSA0.out) (fun hHeld => ?_)
  clear hK K
  refine norm_ (a' := ?_) ?_ ?_
  rotate_left
  · show Act.put _ (some 21) _ = _
    simp only [Act.put, List.setIfInBounds_toArray, List.set_cons_zero, List.set_cons_succ, i64_w, i32_w]
    rfl
  refine pure_ (i := 7) (N := (some 22)) (v := ?_) (a' := ?_) (bb 9 255) rfl rfl (any_of HT_.out (by kernel_rfl)) (fun _ _ _ h => h) (Or.inl ⟨by rfl, ?_⟩) ?_ ?_
  rotate_left
  · intro w'
    go_simp
    with_reducible rfl
  rotate_left
  · simp only [Act.put, List.setIfInBounds_toArray, List.set_cons_zero, List.set_cons_succ, i64_w, i32_w]
    rfl
  refine pure_ (i := 8) (N := (some 23)) (v := ?_) (a' := ?_) (bb 9 511) rfl rfl (any_of HT_.out (by kernel_rfl)) (fun _ _ _ h => h) (Or.inl ⟨by rfl, ?_⟩) ?_ ?_
  rotate_left
  · intro w'
    go_simp
    with_reducible rfl
  rotate_left
  · simp only [Act.put, List.setIfInBounds_toArray, List.set_cons_zero, List.set_cons_succ, i64_w, i32_w]
    rfl
  refine done_ (done_of HT_.out (by kernel_rfl)) ?_
  clear hHeld HT_ HW_
  go_upto_region 6 with (fail)
  have x2 : w3.cell? ⟨g0, 2, none⟩ = some (.int .i64 sc) := blk_cell HSy.out.up1.cells.1 2 |>.trans HSA2.out
  go_wp2
  go_ret2
  exact ⟨_, _, rfl, (HSy.out.up1.drop.push_alloc _ 104)⟩
theorem Sep.write_cells {w0 w : World} {L : List Th} {g ge ty : Nat} {s : DS} {b : List Int} (h : Sep w0 w (cellsT ge (nums .u8 b).toArray ty :: dkT g s :: L)) (i : Nat) (hi : i < s.n) (hc : s.c < 1073741824) (hb : b.length = 512) :
    Calls Tryd.prog 25 #[.pointer (some ⟨g, 0, none⟩), .int .i64 (i : Int), .slice (some ⟨ge, 0, none⟩) 512 512] w fun e w' => e = .returned (.int .i64 0) ∧ Sep w0 w' (cellsT ge (nums .u8 b).toArray ty :: dkT g (s.put i b) :: L) := by
  have hC : (Kd.int .u8).C w (some ⟨ge, 0, none⟩) 512 b := C_segn h.cells.1 0 b 512 hb (by rw [List.drop_zero]; exact List.take_of_length_le (by rw [nums_length, hb]; exact Nat.le_refl _)) (by decide)
  obtain ⟨G, ⟨hG1, hG2⟩, hG3, hG4⟩ := h.open_
  obtain ⟨U, ⟨F0, h1, h2, F, ⟨base, h4⟩, h5, _⟩, h6, h7⟩ := Sep.split (M := [cellsT ge (nums .u8 b).toArray ty, dkT g s]) h
  refine (write_at g i (some ⟨ge, 0, none⟩) 512 b w base F s h4 hi hC (fun ad e hF => ?_) hc).mono ?_
  · cases e
    exact (h5 _ hF).2 ((h1.2 ge).2 rfl)
  · rintro e w' ⟨he, F', hd, hF, hch⟩
    refine ⟨he, h7 [cellsT ge (nums .u8 b).toArray ty, dkT g (s.put i b)] w' ⟨F0, Th.step _ h1 (fun x hx => hch.block x (Th.foot _ h1 x hx) (fun hF => (h5 x hF).2 hx)), fun x hx => .inl (h2 x hx), F', ⟨base, hd⟩, fun x hx => ?_, trivial⟩ (hch.mono (fun x hx => (h5 x hx).1))⟩
    rcases hF x hx with hx1 | hx1
    · exact ⟨.inl (h5 x hx1).1, (h5 x hx1).2⟩
    · exact ⟨.inr hx1, fun hx2 => Nat.not_lt.2 hx1 (Th.foot _ h1 x hx2)⟩
set_option maxHeartbeats 8000000 in
set_option maxRecDepth 100000 in
theorem Sep.step0 {w0 w : World} {L : List Th} {gx ge gd i : Nat} {n : Int} {b : List Int} {D : DS} (h : Sep w0 w (wrT gx ge gd n b 0 ++ dkT gd D :: L)) (hn : n = (i : Int)) (hi : i < D.n) (hc : D.c < 1073741824) (hb : b.length = 512) :
    Calls Tryd.prog 19 #[.pointer (some ⟨gx, 0, none⟩)] w fun e w' => e = .returned (.tuple #[.bool false, .int .i64 0]) ∧ Sep w0 w' (wrT gx ge gd n b 1 ++ dkT gd (D.put i b) :: L) := by
  have HS0 := Aside0.mk (show Sep w0 w (cellsT gx #[.pointer (some ⟨gd, 0, none⟩), .int .i64 n, .slice (some ⟨ge, 0, none⟩) 512 512, .int .i64 0] 104 :: cellsT ge (nums .u8 b).toArray 89 :: dkT gd D :: L) from h)
  have HWR := Aside0.mk (fun W (M : List Th) (h : Sep w0 W (cellsT ge (nums .u8 b).toArray 89 :: dkT gd D :: M)) => (show Calls Tryd.prog 25 #[.pointer (some ⟨gd, 0, none⟩), .int .i64 n, .slice (some ⟨ge, 0, none⟩) 512 512] W _ from by rw [hn]; exact Sep.write_cells h i hi hc hb))
  have x0 : w.cell? ⟨gx, 3, none⟩ = some (.int .i64 0) := blk_cell HS0.out.cells.1 3
  clear h hn hi hc hb
  go_enter Tryd.func19, Tryd.ntmps19
  go_upto_region 3 with (fail)
  have HSy := Aside0.mk (HS0.out.step (below_drew1 (Below.refl w.heap.size w)))
  clear x0 HS0
  refine start_ (n := 13) (S := fun W => W.cell? ⟨gx, 0, none⟩ = some (.pointer (some ⟨gd, 0, none⟩)) ∧ W.cell? ⟨gx, 1, none⟩ = some (.int .i64 n) ∧ W.cell? ⟨gx, 2, none⟩ = some (.slice (some ⟨ge, 0, none⟩) 512 512)) (ds := [12]) (bb 13 0) (by kernel_rfl) rfl rfl (⟨blk_cell HSy.out.cells.1 0, blk_cell HSy.out.cells.1 1, blk_cell HSy.out.cells.1 2⟩) (fun hHeld => ?_); refine with_tabW st19_tab st19_bits (fun HT_ HW_ => ?_)
  generalize w.drew = wd at hHeld HSy ⊢
  refine pure_ (i := 0) (N := (some 10)) (v := ?_) (a' := ?_) (bb 13 1) rfl rfl (any_of HT_.out (by kernel_rfl)) (fun _ _ _ h => h) (Or.inl ⟨by rfl, ?_⟩) ?_ ?_
  rotate_left
  · intro w'
    go_simp
    with_reducible rfl
  rotate_left
  · simp only [Act.put, List.setIfInBounds_toArray, List.set_cons_zero, List.set_cons_succ, i64_w, i32_w]
    rfl
  refine pure_ (i := 1) (N := (some 11)) (v := ?_) (a' := ?_) (bb 13 3) rfl rfl (any_of HT_.out (by kernel_rfl)) (fun _ _ _ h => h) (Or.inl ⟨by rfl, ?_⟩) ?_ ?_
  rotate_left
  · intro w'
    go_simp
    with_reducible rfl
  rotate_left
  · simp only [Act.put, List.setIfInBounds_toArray, List.set_cons_zero, List.set_cons_succ, i64_w, i32_w]
    rfl
  refine pure_ (i := 2) (N := (some 12)) (v := ?_) (a' := ?_) (bb 13 7) rfl rfl (any_of HT_.out (by kernel_rfl)) (fun _ _ _ h => h) (Or.inl ⟨by rfl, ?_⟩) ?_ ?_
  rotate_left
  · intro w'
    go_simp
    with_reducible rfl
  rotate_left
  · simp only [Act.put, List.setIfInBounds_toArray, List.set_cons_zero, List.set_cons_succ, i64_w, i32_w]
    rfl
  refine take_ (i := 3) (N := (some 13)) (v := ?_) (a' := ?_) (bb 13 15) rfl rfl (take_ofW HT_.out HW_.out (by kernel_rfl)) (fun _ _ _ h => h) (Or.inl ⟨by rfl, ?_⟩) hHeld ?_ ?_
  rotate_left
  · intro w' s0
    (try dsimp only at s0)
    go_simp
    with_reducible rfl
  rotate_left
  · simp only [Act.put, List.setIfInBounds_toArray, List.set_cons_zero, List.set_cons_succ, i64_w, i32_w]
    rfl
  refine pure_ (i := 4) (N := (some 14)) (v := ?_) (a' := ?_) (bb 13 31) rfl rfl (any_of HT_.out (by kernel_rfl)) (fun _ _ _ h => h) (Or.inl ⟨by rfl, ?_⟩) ?_ ?_
  rotate_left
  · intro w'
    go_simp
    with_reducible rfl
  rotate_left
  · simp only [Act.put, List.setIfInBounds_toArray, List.set_cons_zero, List.set_cons_succ, i64_w, i32_w]
    rfl
  refine pure_ (i := 5) (N := (some 15)) (v := ?_) (a' := ?_) (bb 13 63) rfl rfl (any_of HT_.out (by kernel_rfl)) (fun _ _ _ h => h) (Or.inl ⟨by rfl, ?_⟩) ?_ ?_
  rotate_left
  · intro w'
    go_simp
    with_reducible rfl
  rotate_left
  · simp only [Act.put, List.setIfInBounds_toArray, List.set_cons_zero, List.set_cons_succ, i64_w, i32_w]
    rfl
  refine pure_ (i := 6) (N := (some 16)) (v := ?_) (a' := ?_) (bb 13 127) rfl rfl (any_of HT_.out (by kernel_rfl)) (fun _ _ _ h => h) (Or.inl ⟨by rfl, ?_⟩) ?_ ?_
  rotate_left
  · intro w'
    go_simp
    with_reducible rfl
  rotate_left
  · simp only [Act.put, List.setIfInBounds_toArray, List.set_cons_zero, List.set_cons_succ, i64_w, i32_w]
    rfl
  refine take_ (i := 7) (N := (some 17)) (v := ?_) (a' := ?_) (bb 13 255) rfl rfl (take_ofW HT_.out HW_.out (by kernel_rfl)) (fun _ _ _ h => h) (Or.inl ⟨by rfl, ?_⟩) hHeld ?_ ?_
  rotate_left
  · intro w' s0
    (try dsimp only at s0)
    go_simp
    with_reducible rfl
  rotate_left
  · simp only [Act.put, List.setIfInBounds_toArray, List.set_cons_zero, List.set_cons_succ, i64_w, i32_w]
    rfl
  refine pure_ (i := 8) (N := (some 18)) (v := ?_) (a' := ?_) (bb 13 511) rfl rfl (any_of HT_.out (by kernel_rfl)) (fun _ _ _ h => h) (Or.inl ⟨by rfl, ?_⟩) ?_ ?_
  rotate_left
  · intro w'
    go_simp
    with_reducible rfl
  rotate_left
  · simp only [Act.put, List.setIfInBounds_toArray, List.set_cons_zero, List.set_cons_succ, i64_w, i32_w]
    rfl
  refine pure_ (i := 9) (N := (some 19)) (v := ?_) (a' := ?_) (bb 13 1023) rfl rfl (any_of HT_.out (by kernel_rfl)) (fun _ _ _ h => h) (Or.inl ⟨by rfl, ?_⟩) ?_ ?_
  rotate_left
  · intro w'
    go_simp
    with_reducible rfl
  rotate_left
  · simp only [Act.put, List.setIfInBounds_toArray, List.set_cons_zero, List.set_cons_succ, i64_w, i32_w]
    rfl
  refine pure_ (i := 10) (N := (some 20)) (v := ?_) (a' := ?_) (bb 13 2047) rfl rfl (any_of HT_.out (by kernel_rfl)) (fun _ _ _ h => h) (Or.inl ⟨by rfl, ?_⟩) ?_ ?_
  rotate_left
  · intro w'
    go_simp
    with_reducible rfl
  rotate_left
  · simp only [Act.put, List.setIfInBounds_toArray, List.set_cons_zero, List.set_cons_succ, i64_w, i32_w]
    rfl
  refine take_ (i := 11) (N := (some 21)) (v := ?_) (a' := ?_) (bb 13 4095) rfl rfl (take_ofW HT_.out HW_.out (by kernel_rfl)) (fun _ _ _ h => h) (Or.inl ⟨by rfl, ?_⟩) hHeld ?_ ?_
  rotate_left
  · intro w' s0
    (try dsimp only at s0)
    go_simp
    with_reducible rfl
  rotate_left
  · simp only [Act.put, List.setIfInBounds_toArray, List.set_cons_zero, List.set_cons_succ, i64_w, i32_w]
    rfl
  refine last_ (i := 12) (N := (some 22)) (bb 13 8191) rfl rfl (one_of HT_.out (by kernel_rfl)) (by decide) (fun K hK => ?_)
  refine goes_ Tryd.func25 (by kernel_rfl) rfl #[.pointer (some ⟨gd, 0, none⟩), .int .i64 n, .slice (some ⟨ge, 0, none⟩) 512 512] (by rfl) rfl rfl (by (try simp only [List.map_toArray, List.map_cons, List.map_nil]); first | done | rfl) ?_
  refine (HWR.out _ _ HSy.out.up2.up2).mono ?_
  rintro e w3 ⟨rfl, h3⟩
  have HS3 := Aside0.mk h3
  clear h3
  refine ⟨_, rfl, ?_⟩
  refine hK.out _ _ ?_
  clear hK K
  refine norm_ (a' := ?_) ?_ ?_
  rotate_left
  · show Act.put _ (some 22) _ = _
    simp only [Act.put, List.setIfInBounds_toArray, List.set_cons_zero, List.set_cons_succ, i64_w, i32_w]
    rfl
  refine done_ (done_of HT_.out (by kernel_rfl)) ?_
  clear hHeld HT_ HW_ HSy
  have HS4 := Aside0.mk HS3.out.up2
  clear HS3
  have x3 : w3.cell? ⟨gx, 3, none⟩ = some (.int .i64 0) := blk_cell HS4.out.cells.1 3
  have f3 : w3.frozen? ⟨gx, 3, none⟩ = false := blk_frozen HS4.out.cells.1 3
  go_wp2
  go_ret2
  exact ⟨rfl, HS4.out.cset 3 (.int .i64 1)⟩
set_option maxHeartbeats 8000000 in
set_option maxRecDepth 100000 in
theorem Sep.step1 {w0 w : World} {L : List Th} {gx ge gd : Nat} {n : Int} {b : List Int} {D : DS} (h : Sep w0 w (wrT gx ge gd n b 1 ++ dkT gd D :: L)) :
    Calls Tryd.prog 19 #[.pointer (some ⟨gx, 0, none⟩)] w fun e w' => e = .returned (.tuple #[.bool true, .int .i64 0]) ∧ Sep w0 w' (wrT gx ge gd n b 2 ++ dkT gd D.flush :: L) := by
  have HS0 := Aside0.mk (show Sep w0 w (cellsT gx #[.pointer (some ⟨gd, 0, none⟩), .int .i64 n, .slice (some ⟨ge, 0, none⟩) 512 512, .int .i64 1] 104 :: cellsT ge (nums .u8 b).toArray 89 :: dkT gd D :: L) from h)
  have x0 : w.cell? ⟨gx, 3, none⟩ = some (.int .i64 1) := blk_cell HS0.out.cells.1 3
  have x1 : w.cell? ⟨gx, 0, none⟩ = some (.pointer (some ⟨gd, 0, none⟩)) := blk_cell HS0.out.cells.1 0
  clear h
  go_enter Tryd.func19, Tryd.ntmps19
  go_upto_region 8 with (go_at_call 27; (with_reducible refine (Sep.flush HS0.out.up2).mono ?_); rintro e w3 ⟨⟨v3, rfl⟩, h3⟩; have HS4 := Aside0.mk h3.up2.up2; clear h3)
  clear x0 x1 HS0
  have x3 : w3.cell? ⟨gx, 3, none⟩ = some (.int .i64 1) := blk_cell HS4.out.cells.1 3
  have f3 : w3.frozen? ⟨gx, 3, none⟩ = false := blk_frozen HS4.out.cells.1 3
  go_wp2
  go_ret2
  exact ⟨rfl, (HS4.out.cset 3 (.int .i64 2))⟩
end Go.Proofs.YtaflofcnjakaaaaDoor.M

namespace Go.Proofs.YtaflofcnjakaaaaDoor.M
open Go.RowKit Go.Maps Go.Proofs.YtaflofcnjakaaaaDoorW.PrintWords Go.Proofs.YtaflofcnjakaaaaDoorW.PrintLast Go.Proofs.YtaflofcnjakaaaaDoorW.PrintMore Go.Proofs.YtaflofcnjakaaaaDoor.Wr Go.Proofs.YtaflofcnjakaaaaDoor.Pl Go.Proofs.YtaflofcnjakaaaaDoor.P Go.Proofs.YtaflofcnjakaaaaDoor.A
set_option linter.unusedVariables false
set_option linter.unusedSimpArgs false
def startSL : SL := ⟨0, 0, -1, 0, 0, z32, z32, 0, 0, z32, 0, 0⟩
def rda_T : Bool × List (List Nat × List Nat) := (true, [([], []), ([0], [0]), ([1], [1]), ([2], [2]), ([3, 2], [2, 3]), ([2], [2]), ([5, 2, 2], [2, 5]), ([4, 6, 2], [2, 4, 6]), ([2, 7], [2, 7]), ([8, 6], [8]), ([9], [9]), ([10, 9], [9, 10]), ([11, 9], [9, 11]), ([9], [9]), ([12, 13, 9], [9, 12, 13]), ([9, 14], [9, 14]), ([15, 9], [15]), ([16], [16]), ([17, 16], [16, 17]), ([16], [16]), ([19, 16], [16, 19]), ([18, 20, 16], [16, 18, 20]), ([16, 21], [16, 21])])
def rda_B : List Nat := [0, 1, 3, 7, 15, 7, 39, 127, 255, 511, 1023, 2047, 4095, 1023, 16383, 32767, 65535, 131071, 262143, 131071, 655359, 2097151, 4194303]
theorem rda_tab : rtab .any (opsOf Tryd.f28 9) = rda_T := by kernel_rfl
theorem rda_bits : waitsOk rda_T.2 rda_B = true := by kernel_rfl
def rdb_T : Bool × List (List Nat × List Nat) := (true, [([], []), ([0], [0]), ([1], [1]), ([2], [2]), ([3, 2], [2, 3]), ([2], [2]), ([5, 2, 2], [2, 5]), ([4, 6, 2], [2, 4, 6]), ([2, 7], [2, 7]), ([8, 6], [8]), ([9], [9]), ([10, 9], [9, 10]), ([11, 9], [9, 11]), ([9], [9]), ([12, 13, 9], [9, 12, 13]), ([9, 14], [9, 14]), ([15, 9], [15]), ([16], [16]), ([17, 16], [16, 17]), ([16], [16]), ([19, 16], [16, 19]), ([18, 20, 16], [16, 18, 20]), ([16, 21], [16, 21])])
def rdb_B : List Nat := [0, 1, 3, 7, 15, 7, 39, 127, 255, 511, 1023, 2047, 4095, 1023, 16383, 32767, 65535, 131071, 262143, 131071, 655359, 2097151, 4194303]
theorem rdb_tab : rtab .any (opsOf Tryd.f28 9) = rdb_T := by kernel_rfl
theorem rdb_bits : waitsOk rdb_T.2 rdb_B = true := by kernel_rfl
def rdc_T : Bool × List (List Nat × List Nat) := (true, [([], []), ([0], [0]), ([1], [1]), ([2], [2]), ([3, 2], [2, 3]), ([2], [2]), ([5, 2, 2], [2, 5]), ([4, 6, 2], [2, 4, 6]), ([2, 7], [2, 7]), ([8, 6], [8]), ([9], [9]), ([10, 9], [9, 10]), ([11, 9], [9, 11]), ([9], [9]), ([12, 13, 9], [9, 12, 13]), ([9, 14], [9, 14]), ([15, 9], [15]), ([16], [16]), ([17, 16], [16, 17]), ([16], [16]), ([19, 16], [16, 19]), ([18, 20, 16], [16, 18, 20]), ([16, 21], [16, 21])])
def rdc_B : List Nat := [0, 1, 3, 7, 15, 7, 39, 127, 255, 511, 1023, 2047, 4095, 1023, 16383, 32767, 65535, 131071, 262143, 131071, 655359, 2097151, 4194303]
theorem rdc_tab : rtab .any (opsOf Tryd.f28 9) = rdc_T := by kernel_rfl
theorem rdc_bits : waitsOk rdc_T.2 rdc_B = true := by kernel_rfl
def rdd_T : Bool × List (List Nat × List Nat) := (true, [([], []), ([0], [0]), ([1], [1]), ([2], [2]), ([3, 2], [2, 3]), ([2], [2]), ([5, 2, 2], [2, 5]), ([4, 6, 2], [2, 4, 6]), ([2, 7], [2, 7]), ([8, 6], [8]), ([9], [9]), ([10, 9], [9, 10]), ([11, 9], [9, 11]), ([9], [9]), ([12, 13, 9], [9, 12, 13]), ([9, 14], [9, 14]), ([15, 9], [15]), ([16], [16]), ([17, 16], [16, 17]), ([16], [16]), ([19, 16], [16, 19]), ([18, 20, 16], [16, 18, 20]), ([16, 21], [16, 21])])
def rdd_B : List Nat := [0, 1, 3, 7, 15, 7, 39, 127, 255, 511, 1023, 2047, 4095, 1023, 16383, 32767, 65535, 131071, 262143, 131071, 655359, 2097151, 4194303]
theorem rdd_tab : rtab .any (opsOf Tryd.f28 9) = rdd_T := by kernel_rfl
theorem rdd_bits : waitsOk rdd_T.2 rdd_B = true := by kernel_rfl
theorem startSL_ok : startSL.Ok := ⟨z32_ok.1, z32_ok.1, z32_ok.1, z32_ok.2, z32_ok.2, z32_ok.2⟩
def pickS (N n : Int) (best s : SL) (e : Int) : SL := if e = 0 ∧ s.a = N ∧ s.c.tmod 2 = n ∧ best.c < s.c then s else best
def bestJ (N : Int) (cur : Nat → List Int) : Nat → SL
  | 0 => startSL
  | j + 1 => pickS N (j : Int) (bestJ N cur j) (decS (cur j)) (decE (cur j))
theorem bestJ_ok {N : Int} {cur : Nat → List Int} (h : ∀ j, bytes_ (cur j)) : ∀ j, (bestJ N cur j).Ok
  | 0 => startSL_ok
  | j + 1 => by
    unfold bestJ pickS
    split
    · exact decS_ok (h j)
    · exact bestJ_ok h j
def DS.readsJ (s : DS) : Nat → DS
  | 0 => s
  | j + 1 => (s.readsJ j).reads
theorem DS.readsJ_cur (s : DS) : ∀ j, (s.readsJ j).cur = s.cur ∧ (s.readsJ j).n = s.n
  | 0 => ⟨rfl, rfl⟩
  | j + 1 => ⟨(show (s.readsJ j).reads.cur = _ from (s.readsJ_cur j).1), (s.readsJ_cur j).2⟩
def readS (N : Int) (cur : Nat → List Int) : SL := if (bestJ N cur 2).c < 0 then noSL else bestJ N cur 2
def readE (N : Int) (cur : Nat → List Int) : Int := if (bestJ N cur 2).c < 0 then 180 else 0
set_option maxRecDepth 100000 in
theorem built27m : Tryd.prog.built 27 [(2, .int .i64 (-1))] = some startSL.V.toArray := by kernel_rfl
theorem ReadsB.own {w0 : World} {L : List Th} {A : Option Addr} {n c : Nat} {b : List Int} (hl : b.length = 512) : ReadsB w0 (ownT (Kd.int .u8) 5 (.slice A n c) b :: L) A b := fun W M hs h => by
  have := (hs.sep h).own_C.1
  rwa [hl] at this
theorem decE_or (b : List Int) : decE b = 0 ∨ decE b = 180 := by unfold decE; split <;> simp
set_option maxHeartbeats 8000000 in
set_option maxRecDepth 100000 in
theorem Sep.readSlot {w0 w : World} {L : List Th} {gd : Nat} {D : DS} (h : Sep w0 w (dkT gd D :: L)) (hH : Wr.Half w0) (h2 : 2 ≤ D.n) (hb : ∀ j, bytes_ (D.cur j)) (hl : ∀ j, j < 2 → (D.cur j).length = 512) :
    Calls Tryd.prog 28 #[.pointer (some ⟨gd, 0, none⟩)] w fun e w' => e = .returned (.tuple #[.agg (readS D.n D.cur).V.toArray, .int .i64 (readE D.n D.cur)]) ∧ Sep w0 w' (dkT gd (D.readsJ 2) :: L) := by
  have HS0 := Aside0.mk h
  have HRD := Aside0.mk (fun W (M : List Th) j (hj : j < 2) (h : Sep w0 W (dkT gd (D.readsJ j) :: M)) => (show Calls Tryd.prog 52 #[.pointer (some ⟨gd, 0, none⟩), .int .i64 (j : Int)] W (fun e w' => ∃ A c, e = .returned (.tuple #[.slice A 512 c, .int .i64 0]) ∧ 512 ≤ c ∧ Sep w0 w' (ownT (Kd.int .u8) 5 (.slice A 512 c) (D.cur j) :: dkT gd (D.readsJ (j + 1)) :: M)) from by
    refine (Sep.read h j (by rw [(D.readsJ_cur j).2]; omega)).mono ?_
    rintro e w' ⟨v, rfl, h3⟩
    rw [(D.readsJ_cur j).1] at h3
    obtain ⟨A, c, rfl⟩ := h3.own_slice
    rw [hl j hj] at h3 ⊢
    have h4 := h3.own_C
    rw [hl j hj] at h4
    exact ⟨A, c, rfl, h4.2, h3⟩))
  have HDC := Aside0.mk (fun W (M : List Th) A c j (hj : j < 2) (hc : 512 ≤ c) (h : Sep w0 W (ownT (Kd.int .u8) 5 (.slice A 512 c) (D.cur j) :: M)) => Sep.decode h hH (ReadsB.own (hl j hj)) (hb j) (hl j hj) hc)
  have HSC := Aside0.mk (fun W (M : List Th) j (h : Sep w0 W (dkT gd (D.readsJ j) :: M)) => (show Calls Tryd.prog 47 #[.pointer (some ⟨gd, 0, none⟩)] W (fun e w' => e = .returned (.int .i64 (D.n : Int)) ∧ w' = W) from by have h3 := Sep.sectors h; rwa [(D.readsJ_cur j).2] at h3))
  have HOK := Aside0.mk (bestJ_ok (N := (D.n : Int)) hb)
  have HDO := Aside0.mk (fun j => decS_ok (hb j))
  have hz := (zero_of_info (P := Tryd.prog) (t := 27) (v := .agg noSL.V.toArray) (n := 105) (by kernel_rfl)).1
  have HBZ := Aside0.mk (show Tryd.prog.built 27 [] = some noSL.V.toArray from built27z)
  have HBM := Aside0.mk built27m
  have HSZ := Aside0.mk (fun s (hs : SL.Ok s) => (show (Tryd.prog.info? 27).map (·.size) = some s.V.toArray.size from size27 (by simpa using SL.V_len hs)))
  have HSQ := Aside0.mk (fun s (hs : SL.Ok s) => (show s.V.toArray.size = 105 from by simpa using SL.V_len hs))
  clear h hH h2 hb hl
  generalize hZ : noSL.V.toArray = Z at hz HBZ
  have HZ := Aside0.mk hZ
  have HZS := Aside0.mk (show Z.size = 105 from by rw [← hZ]; exact HSQ.out _ noSL_ok)
  clear hZ
  generalize hM : startSL.V.toArray = Zm at HBM
  have HZM := Aside0.mk hM
  have HMS := Aside0.mk (show (Tryd.prog.info? 27).map (·.size) = some Zm.size from by rw [← hM]; exact HSZ.out _ startSL_ok)
  have HMQ := Aside0.mk (show Z.size = Zm.size from by rw [HZS.out, ← hM, HSQ.out _ startSL_ok])
  have HMA := Aside0.mk (show Zm.all (·.oneCell') = true from by rw [← hM]; exact SL.V_all _)
  clear hM
  generalize hN : (D.n : Int) = N at HSC HOK ⊢
  clear hN
  generalize hcu : D.cur = cur at HRD HDC HOK HDO ⊢
  clear hcu
  go_enter Tryd.func28, Tryd.ntmps28
  go_upto_region 1 with (fail)
  have HS1 := Aside0.mk (HS0.out.push_alloc Z 27)
  generalize w.alloc (.cells Z 27) = w1 at HS1 ⊢
  generalize w.heap.size = gr at HS1 ⊢
  clear HS0
  go_upto_region 4 with (first
    | ((with_reducible refine gate_build (ty := 27) rfl ?_); refine wpList_buildTo rfl 27 _ rfl (some 13) rfl Zm ?aB ?_; (case aB => (simp only [List.map_toArray, List.map_cons, List.map_nil]; exact HBM.out)))
    | ((with_reducible refine gate_store (ty := 27) rfl ?_); refine Sep.store_own rfl 27 _ _ rfl rfl rfl (HS1.out.push_alloc Z 27) HMS.out HMQ.out HMA.out ?_; intro w2 h2; have HS2 := Aside0.mk (show Sep w0 w2 (cellsT w1.heap.size (bestJ N cur 0).V.toArray 27 :: dkT gd (D.readsJ 0) :: cellsT gr Z 27 :: L) from by have h3 := h2.sw12; rw [← HZM.out] at h3; exact h3); clear h2))
  generalize w1.heap.size = gb at HS2 ⊢
  clear HS1
  go_wp2
  go_loopg [14] 2 (fun kq v14 wr => ∃ j : Nat, v14 = .int .i64 j ∧ Aside0 (j + kq = 2) ∧ Aside0 (Sep w0 wr (cellsT gb (bestJ N cur j).V.toArray 27 :: dkT gd (D.readsJ j) :: cellsT gr Z 27 :: L)))
  case atStart => exact ⟨0, rfl, ⟨rfl⟩, HS2⟩
  case round =>
    obtain ⟨j, rfl, HJ, hS⟩ := hrel
    clear HS2
    by_cases hj : j < 2
    · have HPK := Aside0.mk (show bestJ N cur (j + 1) = pickS N (j : Int) (bestJ N cur j) (decS (cur j)) (decE (cur j)) from rfl)
      have HO1 := Aside0.mk (HOK.out j)
      have HO2 := Aside0.mk (HDO.out j)
      have HDC1 := Aside0.mk (fun W M A c hc h => HDC.out W M A c j hj hc h)
      have HDE := Aside0.mk (decE_or (cur j))
      generalize hbj : bestJ N cur j = bj at HPK HO1 hS
      clear hbj
      generalize hsj : decS (cur j) = sj at HPK HO2 HDC1
      clear hsj
      generalize hej : decE (cur j) = ej at HPK HDC1 HDE
      clear hej
      have HE0 := Aside0.mk (show sj.V.toArray[0]? = some (.int .i64 sj.a) from by simpa using sj.V0)
      have HE2 := Aside0.mk (show sj.V.toArray[2]? = some (.int .i64 sj.c) from by simpa using sj.V2)
      have HB2 := Aside0.mk (show bj.V.toArray[2]? = some (.int .i64 bj.c) from by simpa using bj.V2)
      go_upto_region 9 with (first
        | (go_at_call 52; (with_reducible refine (HRD.out _ _ j hj hS.out.up1).mono ?_); rintro e w3 ⟨A, c, rfl, hc, h3⟩; have HS3 := Aside0.mk h3; clear h3)
        | (go_at_call 32; (with_reducible refine (HDC1.out _ _ _ _ hc HS3.out).mono ?_); rintro e w4 ⟨rfl, h4⟩; have HS4 := Aside0.mk h4.drop; clear h4 HS3)
        | ((with_reducible refine gate_store (ty := 27) rfl ?_); refine Sep.store_own rfl 27 _ _ rfl rfl rfl (HS4.out.push_alloc Z 27) (HSZ.out _ HO2.out) ?aS (SL.V_all _) ?_; (case aS => rw [HZS.out, HSQ.out _ HO2.out]); intro w5 h5; have HS5 := Aside0.mk h5; clear h5))
      generalize w4.heap.size = gs at HS5 ⊢
      clear HS4 hS
      have HSy := Aside0.mk (HS5.out.step (below_drew1 (Below.refl w5.heap.size w5)))
      clear HS5
      have HLD := Aside0.mk (fun W (M : List Th) (h : Sep w0 W (cellsT gs sj.V.toArray 27 :: M)) => (show ∀ j v, sj.V.toArray.toList[j]? = some v → W.cell? ((⟨gs, 0, none⟩ : Addr).add j) = some v from fun j v hv => seg_at h.cells.1 0 sj.V (by rw [List.drop_zero]; exact List.take_of_length_le (Nat.le_refl _)) j v (by simpa using hv)))
      rcases HDE.out with h0 | h0
      · have hz0 : ej = 0 := h0
        subst hz0
        by_cases ha : sj.a = N
        · by_cases hp : sj.c.tmod 2 = (j : Int)
          · have hpb : (sj.c.tmod 2 == (j : Int)) = true := by simpa using hp
            by_cases ht : bj.c < sj.c
            · refine start_ (n := 23) (S := fun W => W.cell? ⟨gs, 0, none⟩ = some (.int .i64 sj.a) ∧ W.cell? ⟨gs, 2, none⟩ = some (.int .i64 sj.c) ∧ W.cell? ⟨gb, 2, none⟩ = some (.int .i64 bj.c)) (ds := []) (bb 23 0) (by kernel_rfl) rfl rfl (⟨blk_cell HSy.out.cells.1 0 |>.trans HE0.out, blk_cell HSy.out.cells.1 2 |>.trans HE2.out, blk_cell HSy.out.up2.cells.1 2 |>.trans HB2.out⟩) (fun hHeld => ?_); refine with_tabW rdd_tab rdd_bits (fun HT_ HW_ => ?_)
              generalize w5.drew = wd at hHeld HSy ⊢
              refine pure_ (i := 0) (N := (some 28)) (v := ?_) (a' := ?_) (bb 23 1) rfl rfl (any_of HT_.out (by kernel_rfl)) (fun _ _ _ h => h) (Or.inl ⟨by rfl, ?_⟩) ?_ ?_
              rotate_left
              · intro w'
                go_simp
                with_reducible rfl
              rotate_left
              · simp only [Act.put, List.setIfInBounds_toArray, List.set_cons_zero, List.set_cons_succ, i64_w, i32_w]
                rfl
              refine pure_ (i := 1) (N := (some 29)) (v := ?_) (a' := ?_) (bb 23 3) rfl rfl (any_of HT_.out (by kernel_rfl)) (fun _ _ _ h => h) (Or.inl ⟨by rfl, ?_⟩) ?_ ?_
              rotate_left
              · intro w'
                go_simp
                with_reducible rfl
              rotate_left
              · simp only [Act.put, List.setIfInBounds_toArray, List.set_cons_zero, List.set_cons_succ, i64_w, i32_w]
                rfl
              refine pure_ (i := 2) (N := (some 30)) (v := ?_) (a' := ?_) (bb 23 7) rfl rfl (any_of HT_.out (by kernel_rfl)) (fun _ _ _ h => h) (Or.inl ⟨by rfl, ?_⟩) ?_ ?_
              rotate_left
              · intro w'
                go_simp
                with_reducible rfl
              rotate_left
              · simp only [Act.put, List.setIfInBounds_toArray, List.set_cons_zero, List.set_cons_succ, i64_w, i32_w]
                rfl
              refine pure_ (i := 3) (N := (some 31)) (v := ?_) (a' := ?_) (bb 23 15) rfl rfl (any_of HT_.out (by kernel_rfl)) (fun _ _ _ h => h) (Or.inl ⟨by rfl, ?_⟩) ?_ ?_
              rotate_left
              · intro w'
                go_simp
                with_reducible rfl
              rotate_left
              · simp only [Act.put, List.setIfInBounds_toArray, List.set_cons_zero, List.set_cons_succ, i64_w, i32_w]
                rfl
              refine take_ (i := 4) (N := (some 32)) (v := ?_) (a' := ?_) (bb 23 31) rfl rfl (take_ofW HT_.out HW_.out (by kernel_rfl)) (fun _ _ _ h => h) (Or.inl ⟨by rfl, ?_⟩) hHeld ?_ ?_
              rotate_left
              · intro w' s0
                (try dsimp only at s0)
                go_simp
                with_reducible rfl
              rotate_left
              · simp only [Act.put, List.setIfInBounds_toArray, List.set_cons_zero, List.set_cons_succ, i64_w, i32_w]
                rfl
              refine pure_ (i := 5) (N := (some 33)) (v := ?_) (a' := ?_) (bb 23 63) rfl rfl (any_of HT_.out (by kernel_rfl)) (fun _ _ _ h => h) (Or.inl ⟨by rfl, ?_⟩) ?_ ?_
              rotate_left
              · intro w'
                go_simp
                with_reducible rfl
              rotate_left
              · simp only [Act.put, List.setIfInBounds_toArray, List.set_cons_zero, List.set_cons_succ, i64_w, i32_w]
                rfl
              refine one_ (i := 6) (N := (some 34)) (bb 23 127) rfl rfl (one_of HT_.out (by kernel_rfl)) (by decide) (fun K hK => ?_)
              refine goes_ Tryd.func47 (by kernel_rfl) rfl #[.pointer (some ⟨gd, 0, none⟩)] (by rfl) rfl rfl (by (try simp only [List.map_toArray, List.map_cons, List.map_nil]); first | done | rfl) ?_
              refine (HSC.out _ _ _ HSy.out.up1).mono ?_
              rintro e w6 ⟨rfl, rfl⟩
              refine ⟨_, rfl, ?_⟩
              refine hK.out _ _ (⟨blk_cell HSy.out.cells.1 0 |>.trans HE0.out, blk_cell HSy.out.cells.1 2 |>.trans HE2.out, blk_cell HSy.out.up2.cells.1 2 |>.trans HB2.out⟩) (fun hHeld => ?_)
              clear hK K
              refine norm_ (a' := ?_) ?_ ?_
              rotate_left
              · show Act.put _ (some 34) _ = _
                simp only [Act.put, List.setIfInBounds_toArray, List.set_cons_zero, List.set_cons_succ, i64_w, i32_w]
                rfl
              refine pure_ (i := 7) (N := (some 35)) (v := ?_) (a' := ?_) (bb 23 255) rfl rfl (any_of HT_.out (by kernel_rfl)) (fun _ _ _ h => h) (Or.inl ⟨by rfl, ?_⟩) ?_ ?_
              rotate_left
              · intro w'
                go_simp
                with_reducible rfl
              rotate_left
              · simp only [Act.put, List.setIfInBounds_toArray, List.set_cons_zero, List.set_cons_succ, i64_w, i32_w]
                rfl
              refine pure_ (i := 8) (N := (some 36)) (v := ?_) (a' := ?_) (bb 23 511) rfl rfl (any_of HT_.out (by kernel_rfl)) (fun _ _ _ h => h) (Or.inl ⟨by rfl, ?_⟩) ?_ ?_
              rotate_left
              · intro w'
                go_simp
                with_reducible rfl
              rotate_left
              · simp only [Act.put, List.setIfInBounds_toArray, List.set_cons_zero, List.set_cons_succ, i64_w, i32_w]
                rfl
              refine pure_ (i := 9) (N := (some 37)) (v := ?_) (a' := ?_) (bb 23 1023) rfl rfl (any_of HT_.out (by kernel_rfl)) (fun _ _ _ h => h) (Or.inl ⟨by rfl, ?_⟩) ?_ ?_
              rotate_left
              · intro w'
                go_simp
                with_reducible rfl
              rotate_left
              · simp only [Act.put, List.setIfInBounds_toArray, List.set_cons_zero, List.set_cons_succ, i64_w, i32_w]
                rfl
              refine pure_ (i := 10) (N := (some 38)) (v := ?_) (a' := ?_) (bb 23 2047) rfl rfl (any_of HT_.out (by kernel_rfl)) (fun _ _ _ h => h) (Or.inl ⟨by rfl, ?_⟩) ?_ ?_
              rotate_left
              · intro w'
                go_simp
                with_reducible rfl
              rotate_left
              · simp only [Act.put, List.setIfInBounds_toArray, List.set_cons_zero, List.set_cons_succ, i64_w, i32_w]
                rfl
              refine take_ (i := 11) (N := (some 39)) (v := ?_) (a' := ?_) (bb 23 4095) rfl rfl (take_ofW HT_.out HW_.out (by kernel_rfl)) (fun _ _ _ h => h) (Or.inl ⟨by rfl, ?_⟩) hHeld ?_ ?_
              rotate_left
              · intro w' s0
                (try dsimp only at s0)
                go_simp
                with_reducible rfl
              rotate_left
              · simp only [Act.put, List.setIfInBounds_toArray, List.set_cons_zero, List.set_cons_succ, i64_w, i32_w]
                rfl
              refine pure_ (i := 12) (N := (some 40)) (v := ?_) (a' := ?_) (bb 23 8191) rfl rfl (any_of HT_.out (by kernel_rfl)) (fun _ _ _ h => h) (Or.inl ⟨by rfl, ?_⟩) ?_ ?_
              rotate_left
              · intro w'
                go_simp
                with_reducible rfl
              rotate_left
              · simp only [Act.put, List.setIfInBounds_toArray, List.set_cons_zero, List.set_cons_succ, i64_w, i32_w]
                rfl
              refine pure_ (i := 13) (N := (some 41)) (v := ?_) (a' := ?_) (bb 23 16383) rfl rfl (any_of HT_.out (by kernel_rfl)) (fun _ _ _ h => h) (Or.inl ⟨by rfl, ?_⟩) ?_ ?_
              rotate_left
              · intro w'
                go_simp
                with_reducible rfl
              rotate_left
              · simp only [Act.put, List.setIfInBounds_toArray, List.set_cons_zero, List.set_cons_succ, i64_w, i32_w]
                rfl
              refine pure_ (i := 14) (N := (some 42)) (v := ?_) (a' := ?_) (bb 23 32767) rfl rfl (any_of HT_.out (by kernel_rfl)) (fun _ _ _ h => h) (Or.inl ⟨by rfl, ?_⟩) ?_ ?_
              rotate_left
              · intro w'
                go_simp
                with_reducible rfl
              rotate_left
              · simp only [Act.put, List.setIfInBounds_toArray, List.set_cons_zero, List.set_cons_succ, i64_w, i32_w]
                rfl
              refine pure_ (i := 15) (N := (some 43)) (v := ?_) (a' := ?_) (bb 23 65535) rfl rfl (any_of HT_.out (by kernel_rfl)) (fun _ _ _ h => h) (Or.inl ⟨by rfl, ?_⟩) ?_ ?_
              rotate_left
              · intro w'
                go_simp
                with_reducible rfl
              rotate_left
              · simp only [Act.put, List.setIfInBounds_toArray, List.set_cons_zero, List.set_cons_succ, i64_w, i32_w]
                rfl
              refine pure_ (i := 16) (N := (some 44)) (v := ?_) (a' := ?_) (bb 23 131071) rfl rfl (any_of HT_.out (by kernel_rfl)) (fun _ _ _ h => h) (Or.inl ⟨by rfl, ?_⟩) ?_ ?_
              rotate_left
              · intro w'
                go_simp
                with_reducible rfl
              rotate_left
              · simp only [Act.put, List.setIfInBounds_toArray, List.set_cons_zero, List.set_cons_succ, i64_w, i32_w]
                rfl
              refine pure_ (i := 17) (N := (some 45)) (v := ?_) (a' := ?_) (bb 23 262143) rfl rfl (any_of HT_.out (by kernel_rfl)) (fun _ _ _ h => h) (Or.inl ⟨by rfl, ?_⟩) ?_ ?_
              rotate_left
              · intro w'
                go_simp
                with_reducible rfl
              rotate_left
              · simp only [Act.put, List.setIfInBounds_toArray, List.set_cons_zero, List.set_cons_succ, i64_w, i32_w]
                rfl
              refine take_ (i := 18) (N := (some 46)) (v := ?_) (a' := ?_) (bb 23 524287) rfl rfl (take_ofW HT_.out HW_.out (by kernel_rfl)) (fun _ _ _ h => h) (Or.inl ⟨by rfl, ?_⟩) hHeld ?_ ?_
              rotate_left
              · intro w' s0
                (try dsimp only at s0)
                go_simp
                with_reducible rfl
              rotate_left
              · simp only [Act.put, List.setIfInBounds_toArray, List.set_cons_zero, List.set_cons_succ, i64_w, i32_w]
                rfl
              refine pure_ (i := 19) (N := (some 47)) (v := ?_) (a' := ?_) (bb 23 1048575) rfl rfl (any_of HT_.out (by kernel_rfl)) (fun _ _ _ h => h) (Or.inl ⟨by rfl, ?_⟩) ?_ ?_
              rotate_left
              · intro w'
                go_simp
                with_reducible rfl
              rotate_left
              · simp only [Act.put, List.setIfInBounds_toArray, List.set_cons_zero, List.set_cons_succ, i64_w, i32_w]
                rfl
              refine take_ (i := 20) (N := (some 48)) (v := ?_) (a' := ?_) (bb 23 2097151) rfl rfl (take_ofW HT_.out HW_.out (by kernel_rfl)) (fun _ _ _ h => h) (Or.inl ⟨by rfl, ?_⟩) hHeld ?_ ?_
              rotate_left
              · intro w' s0
                (try dsimp only at s0)
                go_simp
                with_reducible rfl
              rotate_left
              · simp only [Act.put, List.setIfInBounds_toArray, List.set_cons_zero, List.set_cons_succ, i64_w, i32_w]
                rfl
              refine pure_ (i := 21) (N := (some 49)) (v := ?_) (a' := ?_) (bb 23 4194303) rfl rfl (any_of HT_.out (by kernel_rfl)) (fun _ _ _ h => h) (Or.inl ⟨by rfl, ?_⟩) ?_ ?_
              rotate_left
              · intro w'
                go_simp
                with_reducible rfl
              rotate_left
              · simp only [Act.put, List.setIfInBounds_toArray, List.set_cons_zero, List.set_cons_succ, i64_w, i32_w]
                rfl
              refine pure_ (i := 22) (N := (some 50)) (v := ?_) (a' := ?_) (bb 23 8388607) rfl rfl (any_of HT_.out (by kernel_rfl)) (fun _ _ _ h => h) (Or.inl ⟨by rfl, ?_⟩) ?_ ?_
              rotate_left
              · intro w'
                go_simp
                with_reducible rfl
              rotate_left
              · simp only [Act.put, List.setIfInBounds_toArray, List.set_cons_zero, List.set_cons_succ, i64_w, i32_w]
                rfl
              refine done_ (done_of HT_.out (by kernel_rfl)) ?_
              clear hHeld HT_ HW_
              go_wp2_with (first
                | ((with_reducible refine gate_load (ty := 27) rfl ?_); refine wpList_ldw ?_ 27 _ rfl ⟨gs, 0, none⟩ ?_ sj.V.toArray _ (HLD.out _ _ HSy.out) Tryd.underlying27 rfl (HSZ.out _ HO2.out) ?_; exact rfl; exact rfl; skip)
                | ((with_reducible refine gate_store (ty := 27) rfl ?_); refine Sep.store_own rfl 27 _ _ rfl rfl rfl HSy.out.up2 (HSZ.out _ HO2.out) ?aS (SL.V_all _) ?_; (case aS => rw [HSQ.out _ HO1.out, HSQ.out _ HO2.out]); intro w7 h7; have HS7 := Aside0.mk h7; clear h7))
              go_roundg (gk - 1)
              case measure => have := HJ.out; omega
              case rel => exact ⟨j + 1, by simp, ⟨by have := HJ.out; omega⟩, ⟨by rw [HPK.out]; unfold pickS; rw [if_pos ⟨rfl, ha, hp, ht⟩]; exact HS7.out.up1.drop⟩⟩
            · refine start_ (n := 23) (S := fun W => W.cell? ⟨gs, 0, none⟩ = some (.int .i64 sj.a) ∧ W.cell? ⟨gs, 2, none⟩ = some (.int .i64 sj.c) ∧ W.cell? ⟨gb, 2, none⟩ = some (.int .i64 bj.c)) (ds := []) (bb 23 0) (by kernel_rfl) rfl rfl (⟨blk_cell HSy.out.cells.1 0 |>.trans HE0.out, blk_cell HSy.out.cells.1 2 |>.trans HE2.out, blk_cell HSy.out.up2.cells.1 2 |>.trans HB2.out⟩) (fun hHeld => ?_); refine with_tabW rdd_tab rdd_bits (fun HT_ HW_ => ?_)
              generalize w5.drew = wd at hHeld HSy ⊢
              refine pure_ (i := 0) (N := (some 28)) (v := ?_) (a' := ?_) (bb 23 1) rfl rfl (any_of HT_.out (by kernel_rfl)) (fun _ _ _ h => h) (Or.inl ⟨by rfl, ?_⟩) ?_ ?_
              rotate_left
              · intro w'
                go_simp
                with_reducible rfl
              rotate_left
              · simp only [Act.put, List.setIfInBounds_toArray, List.set_cons_zero, List.set_cons_succ, i64_w, i32_w]
                rfl
              refine pure_ (i := 1) (N := (some 29)) (v := ?_) (a' := ?_) (bb 23 3) rfl rfl (any_of HT_.out (by kernel_rfl)) (fun _ _ _ h => h) (Or.inl ⟨by rfl, ?_⟩) ?_ ?_
              rotate_left
              · intro w'
                go_simp
                with_reducible rfl
              rotate_left
              · simp only [Act.put, List.setIfInBounds_toArray, List.set_cons_zero, List.set_cons_succ, i64_w, i32_w]
                rfl
              refine pure_ (i := 2) (N := (some 30)) (v := ?_) (a' := ?_) (bb 23 7) rfl rfl (any_of HT_.out (by kernel_rfl)) (fun _ _ _ h => h) (Or.inl ⟨by rfl, ?_⟩) ?_ ?_
              rotate_left
              · intro w'
                go_simp
                with_reducible rfl
              rotate_left
              · simp only [Act.put, List.setIfInBounds_toArray, List.set_cons_zero, List.set_cons_succ, i64_w, i32_w]
                rfl
              refine pure_ (i := 3) (N := (some 31)) (v := ?_) (a' := ?_) (bb 23 15) rfl rfl (any_of HT_.out (by kernel_rfl)) (fun _ _ _ h => h) (Or.inl ⟨by rfl, ?_⟩) ?_ ?_
              rotate_left
              · intro w'
                go_simp
                with_reducible rfl
              rotate_left
              · simp only [Act.put, List.setIfInBounds_toArray, List.set_cons_zero, List.set_cons_succ, i64_w, i32_w]
                rfl
              refine take_ (i := 4) (N := (some 32)) (v := ?_) (a' := ?_) (bb 23 31) rfl rfl (take_ofW HT_.out HW_.out (by kernel_rfl)) (fun _ _ _ h => h) (Or.inl ⟨by rfl, ?_⟩) hHeld ?_ ?_
              rotate_left
              · intro w' s0
                (try dsimp only at s0)
                go_simp
                with_reducible rfl
              rotate_left
              · simp only [Act.put, List.setIfInBounds_toArray, List.set_cons_zero, List.set_cons_succ, i64_w, i32_w]
                rfl
              refine pure_ (i := 5) (N := (some 33)) (v := ?_) (a' := ?_) (bb 23 63) rfl rfl (any_of HT_.out (by kernel_rfl)) (fun _ _ _ h => h) (Or.inl ⟨by rfl, ?_⟩) ?_ ?_
              rotate_left
              · intro w'
                go_simp
                with_reducible rfl
              rotate_left
              · simp only [Act.put, List.setIfInBounds_toArray, List.set_cons_zero, List.set_cons_succ, i64_w, i32_w]
                rfl
              refine one_ (i := 6) (N := (some 34)) (bb 23 127) rfl rfl (one_of HT_.out (by kernel_rfl)) (by decide) (fun K hK => ?_)
              refine goes_ Tryd.func47 (by kernel_rfl) rfl #[.pointer (some ⟨gd, 0, none⟩)] (by rfl) rfl rfl (by (try simp only [List.map_toArray, List.map_cons, List.map_nil]); first | done | rfl) ?_
              refine (HSC.out _ _ _ HSy.out.up1).mono ?_
              rintro e w6 ⟨rfl, rfl⟩
              refine ⟨_, rfl, ?_⟩
              refine hK.out _ _ (⟨blk_cell HSy.out.cells.1 0 |>.trans HE0.out, blk_cell HSy.out.cells.1 2 |>.trans HE2.out, blk_cell HSy.out.up2.cells.1 2 |>.trans HB2.out⟩) (fun hHeld => ?_)
              clear hK K
              refine norm_ (a' := ?_) ?_ ?_
              rotate_left
              · show Act.put _ (some 34) _ = _
                simp only [Act.put, List.setIfInBounds_toArray, List.set_cons_zero, List.set_cons_succ, i64_w, i32_w]
                rfl
              refine pure_ (i := 7) (N := (some 35)) (v := ?_) (a' := ?_) (bb 23 255) rfl rfl (any_of HT_.out (by kernel_rfl)) (fun _ _ _ h => h) (Or.inl ⟨by rfl, ?_⟩) ?_ ?_
              rotate_left
              · intro w'
                go_simp
                with_reducible rfl
              rotate_left
              · simp only [Act.put, List.setIfInBounds_toArray, List.set_cons_zero, List.set_cons_succ, i64_w, i32_w]
                rfl
              refine pure_ (i := 8) (N := (some 36)) (v := ?_) (a' := ?_) (bb 23 511) rfl rfl (any_of HT_.out (by kernel_rfl)) (fun _ _ _ h => h) (Or.inl ⟨by rfl, ?_⟩) ?_ ?_
              rotate_left
              · intro w'
                go_simp
                with_reducible rfl
              rotate_left
              · simp only [Act.put, List.setIfInBounds_toArray, List.set_cons_zero, List.set_cons_succ, i64_w, i32_w]
                rfl
              refine pure_ (i := 9) (N := (some 37)) (v := ?_) (a' := ?_) (bb 23 1023) rfl rfl (any_of HT_.out (by kernel_rfl)) (fun _ _ _ h => h) (Or.inl ⟨by rfl, ?_⟩) ?_ ?_
              rotate_left
              · intro w'
                go_simp
                with_reducible rfl
              rotate_left
              · simp only [Act.put, List.setIfInBounds_toArray, List.set_cons_zero, List.set_cons_succ, i64_w, i32_w]
                rfl
              refine pure_ (i := 10) (N := (some 38)) (v := ?_) (a' := ?_) (bb 23 2047) rfl rfl (any_of HT_.out (by kernel_rfl)) (fun _ _ _ h => h) (Or.inl ⟨by rfl, ?_⟩) ?_ ?_
              rotate_left
              · intro w'
                go_simp
                with_reducible rfl
              rotate_left
              · simp only [Act.put, List.setIfInBounds_toArray, List.set_cons_zero, List.set_cons_succ, i64_w, i32_w]
                rfl
              refine take_ (i := 11) (N := (some 39)) (v := ?_) (a' := ?_) (bb 23 4095) rfl rfl (take_ofW HT_.out HW_.out (by kernel_rfl)) (fun _ _ _ h => h) (Or.inl ⟨by rfl, ?_⟩) hHeld ?_ ?_
              rotate_left
              · intro w' s0
                (try dsimp only at s0)
                go_simp
                with_reducible rfl
              rotate_left
              · simp only [Act.put, List.setIfInBounds_toArray, List.set_cons_zero, List.set_cons_succ, i64_w, i32_w]
                rfl
              refine pure_ (i := 12) (N := (some 40)) (v := ?_) (a' := ?_) (bb 23 8191) rfl rfl (any_of HT_.out (by kernel_rfl)) (fun _ _ _ h => h) (Or.inl ⟨by rfl, ?_⟩) ?_ ?_
              rotate_left
              · intro w'
                go_simp
                with_reducible rfl
              rotate_left
              · simp only [Act.put, List.setIfInBounds_toArray, List.set_cons_zero, List.set_cons_succ, i64_w, i32_w]
                rfl
              refine pure_ (i := 13) (N := (some 41)) (v := ?_) (a' := ?_) (bb 23 16383) rfl rfl (any_of HT_.out (by kernel_rfl)) (fun _ _ _ h => h) (Or.inl ⟨by rfl, ?_⟩) ?_ ?_
              rotate_left
              · intro w'
                go_simp
                with_reducible rfl
              rotate_left
              · simp only [Act.put, List.setIfInBounds_toArray, List.set_cons_zero, List.set_cons_succ, i64_w, i32_w]
                rfl
              refine pure_ (i := 14) (N := (some 42)) (v := ?_) (a' := ?_) (bb 23 32767) rfl rfl (any_of HT_.out (by kernel_rfl)) (fun _ _ _ h => h) (Or.inl ⟨by rfl, ?_⟩) ?_ ?_
              rotate_left
              · intro w'
                go_simp
                with_reducible rfl
              rotate_left
              · simp only [Act.put, List.setIfInBounds_toArray, List.set_cons_zero, List.set_cons_succ, i64_w, i32_w]
                rfl
              refine pure_ (i := 15) (N := (some 43)) (v := ?_) (a' := ?_) (bb 23 65535) rfl rfl (any_of HT_.out (by kernel_rfl)) (fun _ _ _ h => h) (Or.inl ⟨by rfl, ?_⟩) ?_ ?_
              rotate_left
              · intro w'
                go_simp
                with_reducible rfl
              rotate_left
              · simp only [Act.put, List.setIfInBounds_toArray, List.set_cons_zero, List.set_cons_succ, i64_w, i32_w]
                rfl
              refine pure_ (i := 16) (N := (some 44)) (v := ?_) (a' := ?_) (bb 23 131071) rfl rfl (any_of HT_.out (by kernel_rfl)) (fun _ _ _ h => h) (Or.inl ⟨by rfl, ?_⟩) ?_ ?_
              rotate_left
              · intro w'
                go_simp
                with_reducible rfl
              rotate_left
              · simp only [Act.put, List.setIfInBounds_toArray, List.set_cons_zero, List.set_cons_succ, i64_w, i32_w]
                rfl
              refine pure_ (i := 17) (N := (some 45)) (v := ?_) (a' := ?_) (bb 23 262143) rfl rfl (any_of HT_.out (by kernel_rfl)) (fun _ _ _ h => h) (Or.inl ⟨by rfl, ?_⟩) ?_ ?_
              rotate_left
              · intro w'
                go_simp
                with_reducible rfl
              rotate_left
              · simp only [Act.put, List.setIfInBounds_toArray, List.set_cons_zero, List.set_cons_succ, i64_w, i32_w]
                rfl
              refine take_ (i := 18) (N := (some 46)) (v := ?_) (a' := ?_) (bb 23 524287) rfl rfl (take_ofW HT_.out HW_.out (by kernel_rfl)) (fun _ _ _ h => h) (Or.inl ⟨by rfl, ?_⟩) hHeld ?_ ?_
              rotate_left
              · intro w' s0
                (try dsimp only at s0)
                go_simp
                with_reducible rfl
              rotate_left
              · simp only [Act.put, List.setIfInBounds_toArray, List.set_cons_zero, List.set_cons_succ, i64_w, i32_w]
                rfl
              refine pure_ (i := 19) (N := (some 47)) (v := ?_) (a' := ?_) (bb 23 1048575) rfl rfl (any_of HT_.out (by kernel_rfl)) (fun _ _ _ h => h) (Or.inl ⟨by rfl, ?_⟩) ?_ ?_
              rotate_left
              · intro w'
                go_simp
                with_reducible rfl
              rotate_left
              · simp only [Act.put, List.setIfInBounds_toArray, List.set_cons_zero, List.set_cons_succ, i64_w, i32_w]
                rfl
              refine take_ (i := 20) (N := (some 48)) (v := ?_) (a' := ?_) (bb 23 2097151) rfl rfl (take_ofW HT_.out HW_.out (by kernel_rfl)) (fun _ _ _ h => h) (Or.inl ⟨by rfl, ?_⟩) hHeld ?_ ?_
              rotate_left
              · intro w' s0
                (try dsimp only at s0)
                go_simp
                with_reducible rfl
              rotate_left
              · simp only [Act.put, List.setIfInBounds_toArray, List.set_cons_zero, List.set_cons_succ, i64_w, i32_w]
                rfl
              refine pure_ (i := 21) (N := (some 49)) (v := ?_) (a' := ?_) (bb 23 4194303) rfl rfl (any_of HT_.out (by kernel_rfl)) (fun _ _ _ h => h) (Or.inl ⟨by rfl, ?_⟩) ?_ ?_
              rotate_left
              · intro w'
                go_simp
                with_reducible rfl
              rotate_left
              · simp only [Act.put, List.setIfInBounds_toArray, List.set_cons_zero, List.set_cons_succ, i64_w, i32_w]
                rfl
              refine pure_ (i := 22) (N := (some 50)) (v := ?_) (a' := ?_) (bb 23 8388607) rfl rfl (any_of HT_.out (by kernel_rfl)) (fun _ _ _ h => h) (Or.inl ⟨by rfl, ?_⟩) ?_ ?_
              rotate_left
              · intro w'
                go_simp
                with_reducible rfl
              rotate_left
              · simp only [Act.put, List.setIfInBounds_toArray, List.set_cons_zero, List.set_cons_succ, i64_w, i32_w]
                rfl
              refine done_ (done_of HT_.out (by kernel_rfl)) ?_
              clear hHeld HT_ HW_
              go_wp2
              go_roundg (gk - 1)
              case measure => have := HJ.out; omega
              case rel => exact ⟨j + 1, by simp, ⟨by have := HJ.out; omega⟩, ⟨by rw [HPK.out]; unfold pickS; rw [if_neg (by simp [ht])]; exact HSy.out.drop.up1⟩⟩
          · have hpb : (sj.c.tmod 2 == (j : Int)) = false := by simpa using hp
            refine start_ (n := 23) (S := fun W => W.cell? ⟨gs, 0, none⟩ = some (.int .i64 sj.a) ∧ W.cell? ⟨gs, 2, none⟩ = some (.int .i64 sj.c) ∧ W.cell? ⟨gb, 2, none⟩ = some (.int .i64 bj.c)) (ds := []) (bb 23 0) (by kernel_rfl) rfl rfl (⟨blk_cell HSy.out.cells.1 0 |>.trans HE0.out, blk_cell HSy.out.cells.1 2 |>.trans HE2.out, blk_cell HSy.out.up2.cells.1 2 |>.trans HB2.out⟩) (fun hHeld => ?_); refine with_tabW rdc_tab rdc_bits (fun HT_ HW_ => ?_)
            generalize w5.drew = wd at hHeld HSy ⊢
            refine pure_ (i := 0) (N := (some 28)) (v := ?_) (a' := ?_) (bb 23 1) rfl rfl (any_of HT_.out (by kernel_rfl)) (fun _ _ _ h => h) (Or.inl ⟨by rfl, ?_⟩) ?_ ?_
            rotate_left
            · intro w'
              go_simp
              with_reducible rfl
            rotate_left
            · simp only [Act.put, List.setIfInBounds_toArray, List.set_cons_zero, List.set_cons_succ, i64_w, i32_w]
              rfl
            refine pure_ (i := 1) (N := (some 29)) (v := ?_) (a' := ?_) (bb 23 3) rfl rfl (any_of HT_.out (by kernel_rfl)) (fun _ _ _ h => h) (Or.inl ⟨by rfl, ?_⟩) ?_ ?_
            rotate_left
            · intro w'
              go_simp
              with_reducible rfl
            rotate_left
            · simp only [Act.put, List.setIfInBounds_toArray, List.set_cons_zero, List.set_cons_succ, i64_w, i32_w]
              rfl
            refine pure_ (i := 2) (N := (some 30)) (v := ?_) (a' := ?_) (bb 23 7) rfl rfl (any_of HT_.out (by kernel_rfl)) (fun _ _ _ h => h) (Or.inl ⟨by rfl, ?_⟩) ?_ ?_
            rotate_left
            · intro w'
              go_simp
              with_reducible rfl
            rotate_left
            · simp only [Act.put, List.setIfInBounds_toArray, List.set_cons_zero, List.set_cons_succ, i64_w, i32_w]
              rfl
            refine pure_ (i := 3) (N := (some 31)) (v := ?_) (a' := ?_) (bb 23 15) rfl rfl (any_of HT_.out (by kernel_rfl)) (fun _ _ _ h => h) (Or.inl ⟨by rfl, ?_⟩) ?_ ?_
            rotate_left
            · intro w'
              go_simp
              with_reducible rfl
            rotate_left
            · simp only [Act.put, List.setIfInBounds_toArray, List.set_cons_zero, List.set_cons_succ, i64_w, i32_w]
              rfl
            refine take_ (i := 4) (N := (some 32)) (v := ?_) (a' := ?_) (bb 23 31) rfl rfl (take_ofW HT_.out HW_.out (by kernel_rfl)) (fun _ _ _ h => h) (Or.inl ⟨by rfl, ?_⟩) hHeld ?_ ?_
            rotate_left
            · intro w' s0
              (try dsimp only at s0)
              go_simp
              with_reducible rfl
            rotate_left
            · simp only [Act.put, List.setIfInBounds_toArray, List.set_cons_zero, List.set_cons_succ, i64_w, i32_w]
              rfl
            refine pure_ (i := 5) (N := (some 33)) (v := ?_) (a' := ?_) (bb 23 63) rfl rfl (any_of HT_.out (by kernel_rfl)) (fun _ _ _ h => h) (Or.inl ⟨by rfl, ?_⟩) ?_ ?_
            rotate_left
            · intro w'
              go_simp
              with_reducible rfl
            rotate_left
            · simp only [Act.put, List.setIfInBounds_toArray, List.set_cons_zero, List.set_cons_succ, i64_w, i32_w]
              rfl
            refine one_ (i := 6) (N := (some 34)) (bb 23 127) rfl rfl (one_of HT_.out (by kernel_rfl)) (by decide) (fun K hK => ?_)
            refine goes_ Tryd.func47 (by kernel_rfl) rfl #[.pointer (some ⟨gd, 0, none⟩)] (by rfl) rfl rfl (by (try simp only [List.map_toArray, List.map_cons, List.map_nil]); first | done | rfl) ?_
            refine (HSC.out _ _ _ HSy.out.up1).mono ?_
            rintro e w6 ⟨rfl, rfl⟩
            refine ⟨_, rfl, ?_⟩
            refine hK.out _ _ (⟨blk_cell HSy.out.cells.1 0 |>.trans HE0.out, blk_cell HSy.out.cells.1 2 |>.trans HE2.out, blk_cell HSy.out.up2.cells.1 2 |>.trans HB2.out⟩) (fun hHeld => ?_)
            clear hK K
            refine norm_ (a' := ?_) ?_ ?_
            rotate_left
            · show Act.put _ (some 34) _ = _
              simp only [Act.put, List.setIfInBounds_toArray, List.set_cons_zero, List.set_cons_succ, i64_w, i32_w]
              rfl
            refine pure_ (i := 7) (N := (some 35)) (v := ?_) (a' := ?_) (bb 23 255) rfl rfl (any_of HT_.out (by kernel_rfl)) (fun _ _ _ h => h) (Or.inl ⟨by rfl, ?_⟩) ?_ ?_
            rotate_left
            · intro w'
              go_simp
              with_reducible rfl
            rotate_left
            · simp only [Act.put, List.setIfInBounds_toArray, List.set_cons_zero, List.set_cons_succ, i64_w, i32_w]
              rfl
            refine pure_ (i := 8) (N := (some 36)) (v := ?_) (a' := ?_) (bb 23 511) rfl rfl (any_of HT_.out (by kernel_rfl)) (fun _ _ _ h => h) (Or.inl ⟨by rfl, ?_⟩) ?_ ?_
            rotate_left
            · intro w'
              go_simp
              with_reducible rfl
            rotate_left
            · simp only [Act.put, List.setIfInBounds_toArray, List.set_cons_zero, List.set_cons_succ, i64_w, i32_w]
              rfl
            refine pure_ (i := 9) (N := (some 37)) (v := ?_) (a' := ?_) (bb 23 1023) rfl rfl (any_of HT_.out (by kernel_rfl)) (fun _ _ _ h => h) (Or.inl ⟨by rfl, ?_⟩) ?_ ?_
            rotate_left
            · intro w'
              go_simp
              with_reducible rfl
            rotate_left
            · simp only [Act.put, List.setIfInBounds_toArray, List.set_cons_zero, List.set_cons_succ, i64_w, i32_w]
              rfl
            refine pure_ (i := 10) (N := (some 38)) (v := ?_) (a' := ?_) (bb 23 2047) rfl rfl (any_of HT_.out (by kernel_rfl)) (fun _ _ _ h => h) (Or.inl ⟨by rfl, ?_⟩) ?_ ?_
            rotate_left
            · intro w'
              go_simp
              with_reducible rfl
            rotate_left
            · simp only [Act.put, List.setIfInBounds_toArray, List.set_cons_zero, List.set_cons_succ, i64_w, i32_w]
              rfl
            refine take_ (i := 11) (N := (some 39)) (v := ?_) (a' := ?_) (bb 23 4095) rfl rfl (take_ofW HT_.out HW_.out (by kernel_rfl)) (fun _ _ _ h => h) (Or.inl ⟨by rfl, ?_⟩) hHeld ?_ ?_
            rotate_left
            · intro w' s0
              (try dsimp only at s0)
              go_simp
              with_reducible rfl
            rotate_left
            · simp only [Act.put, List.setIfInBounds_toArray, List.set_cons_zero, List.set_cons_succ, i64_w, i32_w]
              rfl
            refine pure_ (i := 12) (N := (some 40)) (v := ?_) (a' := ?_) (bb 23 8191) rfl rfl (any_of HT_.out (by kernel_rfl)) (fun _ _ _ h => h) (Or.inl ⟨by rfl, ?_⟩) ?_ ?_
            rotate_left
            · intro w'
              go_simp
              with_reducible rfl
            rotate_left
            · simp only [Act.put, List.setIfInBounds_toArray, List.set_cons_zero, List.set_cons_succ, i64_w, i32_w]
              rfl
            refine pure_ (i := 13) (N := (some 41)) (v := ?_) (a' := ?_) (bb 23 16383) rfl rfl (any_of HT_.out (by kernel_rfl)) (fun _ _ _ h => h) (Or.inl ⟨by rfl, ?_⟩) ?_ ?_
            rotate_left
            · intro w'
              go_simp
              with_reducible rfl
            rotate_left
            · simp only [Act.put, List.setIfInBounds_toArray, List.set_cons_zero, List.set_cons_succ, i64_w, i32_w]
              rfl
            refine pure_ (i := 14) (N := (some 42)) (v := ?_) (a' := ?_) (bb 23 32767) rfl rfl (any_of HT_.out (by kernel_rfl)) (fun _ _ _ h => h) (Or.inl ⟨by rfl, ?_⟩) ?_ ?_
            rotate_left
            · intro w'
              go_simp
              with_reducible rfl
            rotate_left
            · simp only [Act.put, List.setIfInBounds_toArray, List.set_cons_zero, List.set_cons_succ, i64_w, i32_w]
              rfl
            refine pure_ (i := 15) (N := (some 43)) (v := ?_) (a' := ?_) (bb 23 65535) rfl rfl (any_of HT_.out (by kernel_rfl)) (fun _ _ _ h => h) (Or.inl ⟨by rfl, ?_⟩) ?_ ?_
            rotate_left
            · intro w'
              go_simp
              with_reducible rfl
            rotate_left
            · simp only [Act.put, List.setIfInBounds_toArray, List.set_cons_zero, List.set_cons_succ, i64_w, i32_w]
              rfl
            refine pure_ (i := 16) (N := (some 44)) (v := ?_) (a' := ?_) (bb 23 131071) rfl rfl (any_of HT_.out (by kernel_rfl)) (fun _ _ _ h => h) (Or.inl ⟨by rfl, ?_⟩) ?_ ?_
            rotate_left
            · intro w'
              go_simp
              with_reducible rfl
            rotate_left
            · simp only [Act.put, List.setIfInBounds_toArray, List.set_cons_zero, List.set_cons_succ, i64_w, i32_w]
              rfl
            refine pure_ (i := 17) (N := (some 45)) (v := undef) (a' := ?_) (bb 23 262143) rfl rfl (any_of HT_.out (by kernel_rfl)) (fun _ _ _ h => h) (Or.inr ⟨by rfl, rfl⟩) ?_ ?_
            rotate_left
            · simp only [Act.put, List.setIfInBounds_toArray, List.set_cons_zero, List.set_cons_succ, i64_w, i32_w]
              rfl
            refine pure_ (i := 18) (N := (some 46)) (v := undef) (a' := ?_) (bb 23 524287) rfl rfl (any_of HT_.out (by kernel_rfl)) (fun _ _ _ h => h) (Or.inr ⟨by rfl, rfl⟩) ?_ ?_
            rotate_left
            · simp only [Act.put, List.setIfInBounds_toArray, List.set_cons_zero, List.set_cons_succ, i64_w, i32_w]
              rfl
            refine pure_ (i := 19) (N := (some 47)) (v := undef) (a' := ?_) (bb 23 1048575) rfl rfl (any_of HT_.out (by kernel_rfl)) (fun _ _ _ h => h) (Or.inr ⟨by rfl, rfl⟩) ?_ ?_
            rotate_left
            · simp only [Act.put, List.setIfInBounds_toArray, List.set_cons_zero, List.set_cons_succ, i64_w, i32_w]
              rfl
            refine pure_ (i := 20) (N := (some 48)) (v := undef) (a' := ?_) (bb 23 2097151) rfl rfl (any_of HT_.out (by kernel_rfl)) (fun _ _ _ h => h) (Or.inr ⟨by rfl, rfl⟩) ?_ ?_
            rotate_left
            · simp only [Act.put, List.setIfInBounds_toArray, List.set_cons_zero, List.set_cons_succ, i64_w, i32_w]
              rfl
            refine pure_ (i := 21) (N := (some 49)) (v := undef) (a' := ?_) (bb 23 4194303) rfl rfl (any_of HT_.out (by kernel_rfl)) (fun _ _ _ h => h) (Or.inr ⟨by rfl, rfl⟩) ?_ ?_
            rotate_left
            · simp only [Act.put, List.setIfInBounds_toArray, List.set_cons_zero, List.set_cons_succ, i64_w, i32_w]
              rfl
            refine pure_ (i := 22) (N := (some 50)) (v := ?_) (a' := ?_) (bb 23 8388607) rfl rfl (any_of HT_.out (by kernel_rfl)) (fun _ _ _ h => h) (Or.inl ⟨by rfl, ?_⟩) ?_ ?_
            rotate_left
            · intro w'
              go_simp
              with_reducible rfl
            rotate_left
            · simp only [Act.put, List.setIfInBounds_toArray, List.set_cons_zero, List.set_cons_succ, i64_w, i32_w]
              rfl
            refine done_ (done_of HT_.out (by kernel_rfl)) ?_
            clear hHeld HT_ HW_
            go_wp2
            go_roundg (gk - 1)
            case measure => have := HJ.out; omega
            case rel => exact ⟨j + 1, by simp, ⟨by have := HJ.out; omega⟩, ⟨by rw [HPK.out]; unfold pickS; rw [if_neg (by simp [hp])]; exact HSy.out.drop.up1⟩⟩
        · have hab : (sj.a == N) = false := by simpa using ha
          refine start_ (n := 23) (S := fun W => W.cell? ⟨gs, 0, none⟩ = some (.int .i64 sj.a) ∧ W.cell? ⟨gs, 2, none⟩ = some (.int .i64 sj.c) ∧ W.cell? ⟨gb, 2, none⟩ = some (.int .i64 bj.c)) (ds := []) (bb 23 0) (by kernel_rfl) rfl rfl (⟨blk_cell HSy.out.cells.1 0 |>.trans HE0.out, blk_cell HSy.out.cells.1 2 |>.trans HE2.out, blk_cell HSy.out.up2.cells.1 2 |>.trans HB2.out⟩) (fun hHeld => ?_); refine with_tabW rdb_tab rdb_bits (fun HT_ HW_ => ?_)
          generalize w5.drew = wd at hHeld HSy ⊢
          refine pure_ (i := 0) (N := (some 28)) (v := ?_) (a' := ?_) (bb 23 1) rfl rfl (any_of HT_.out (by kernel_rfl)) (fun _ _ _ h => h) (Or.inl ⟨by rfl, ?_⟩) ?_ ?_
          rotate_left
          · intro w'
            go_simp
            with_reducible rfl
          rotate_left
          · simp only [Act.put, List.setIfInBounds_toArray, List.set_cons_zero, List.set_cons_succ, i64_w, i32_w]
            rfl
          refine pure_ (i := 1) (N := (some 29)) (v := ?_) (a' := ?_) (bb 23 3) rfl rfl (any_of HT_.out (by kernel_rfl)) (fun _ _ _ h => h) (Or.inl ⟨by rfl, ?_⟩) ?_ ?_
          rotate_left
          · intro w'
            go_simp
            with_reducible rfl
          rotate_left
          · simp only [Act.put, List.setIfInBounds_toArray, List.set_cons_zero, List.set_cons_succ, i64_w, i32_w]
            rfl
          refine pure_ (i := 2) (N := (some 30)) (v := ?_) (a' := ?_) (bb 23 7) rfl rfl (any_of HT_.out (by kernel_rfl)) (fun _ _ _ h => h) (Or.inl ⟨by rfl, ?_⟩) ?_ ?_
          rotate_left
          · intro w'
            go_simp
            with_reducible rfl
          rotate_left
          · simp only [Act.put, List.setIfInBounds_toArray, List.set_cons_zero, List.set_cons_succ, i64_w, i32_w]
            rfl
          refine pure_ (i := 3) (N := (some 31)) (v := ?_) (a' := ?_) (bb 23 15) rfl rfl (any_of HT_.out (by kernel_rfl)) (fun _ _ _ h => h) (Or.inl ⟨by rfl, ?_⟩) ?_ ?_
          rotate_left
          · intro w'
            go_simp
            with_reducible rfl
          rotate_left
          · simp only [Act.put, List.setIfInBounds_toArray, List.set_cons_zero, List.set_cons_succ, i64_w, i32_w]
            rfl
          refine take_ (i := 4) (N := (some 32)) (v := ?_) (a' := ?_) (bb 23 31) rfl rfl (take_ofW HT_.out HW_.out (by kernel_rfl)) (fun _ _ _ h => h) (Or.inl ⟨by rfl, ?_⟩) hHeld ?_ ?_
          rotate_left
          · intro w' s0
            (try dsimp only at s0)
            go_simp
            with_reducible rfl
          rotate_left
          · simp only [Act.put, List.setIfInBounds_toArray, List.set_cons_zero, List.set_cons_succ, i64_w, i32_w]
            rfl
          refine pure_ (i := 5) (N := (some 33)) (v := ?_) (a' := ?_) (bb 23 63) rfl rfl (any_of HT_.out (by kernel_rfl)) (fun _ _ _ h => h) (Or.inl ⟨by rfl, ?_⟩) ?_ ?_
          rotate_left
          · intro w'
            go_simp
            with_reducible rfl
          rotate_left
          · simp only [Act.put, List.setIfInBounds_toArray, List.set_cons_zero, List.set_cons_succ, i64_w, i32_w]
            rfl
          refine one_ (i := 6) (N := (some 34)) (bb 23 127) rfl rfl (one_of HT_.out (by kernel_rfl)) (by decide) (fun K hK => ?_)
          refine goes_ Tryd.func47 (by kernel_rfl) rfl #[.pointer (some ⟨gd, 0, none⟩)] (by rfl) rfl rfl (by (try simp only [List.map_toArray, List.map_cons, List.map_nil]); first | done | rfl) ?_
          refine (HSC.out _ _ _ HSy.out.up1).mono ?_
          rintro e w6 ⟨rfl, rfl⟩
          refine ⟨_, rfl, ?_⟩
          refine hK.out _ _ (⟨blk_cell HSy.out.cells.1 0 |>.trans HE0.out, blk_cell HSy.out.cells.1 2 |>.trans HE2.out, blk_cell HSy.out.up2.cells.1 2 |>.trans HB2.out⟩) (fun hHeld => ?_)
          clear hK K
          refine norm_ (a' := ?_) ?_ ?_
          rotate_left
          · show Act.put _ (some 34) _ = _
            simp only [Act.put, List.setIfInBounds_toArray, List.set_cons_zero, List.set_cons_succ, i64_w, i32_w]
            rfl
          refine pure_ (i := 7) (N := (some 35)) (v := ?_) (a' := ?_) (bb 23 255) rfl rfl (any_of HT_.out (by kernel_rfl)) (fun _ _ _ h => h) (Or.inl ⟨by rfl, ?_⟩) ?_ ?_
          rotate_left
          · intro w'
            go_simp
            with_reducible rfl
          rotate_left
          · simp only [Act.put, List.setIfInBounds_toArray, List.set_cons_zero, List.set_cons_succ, i64_w, i32_w]
            rfl
          refine pure_ (i := 8) (N := (some 36)) (v := ?_) (a' := ?_) (bb 23 511) rfl rfl (any_of HT_.out (by kernel_rfl)) (fun _ _ _ h => h) (Or.inl ⟨by rfl, ?_⟩) ?_ ?_
          rotate_left
          · intro w'
            go_simp
            with_reducible rfl
          rotate_left
          · simp only [Act.put, List.setIfInBounds_toArray, List.set_cons_zero, List.set_cons_succ, i64_w, i32_w]
            rfl
          refine pure_ (i := 9) (N := (some 37)) (v := ?_) (a' := ?_) (bb 23 1023) rfl rfl (any_of HT_.out (by kernel_rfl)) (fun _ _ _ h => h) (Or.inl ⟨by rfl, ?_⟩) ?_ ?_
          rotate_left
          · intro w'
            go_simp
            with_reducible rfl
          rotate_left
          · simp only [Act.put, List.setIfInBounds_toArray, List.set_cons_zero, List.set_cons_succ, i64_w, i32_w]
            rfl
          refine pure_ (i := 10) (N := (some 38)) (v := undef) (a' := ?_) (bb 23 2047) rfl rfl (any_of HT_.out (by kernel_rfl)) (fun _ _ _ h => h) (Or.inr ⟨by rfl, rfl⟩) ?_ ?_
          rotate_left
          · simp only [Act.put, List.setIfInBounds_toArray, List.set_cons_zero, List.set_cons_succ, i64_w, i32_w]
            rfl
          refine pure_ (i := 11) (N := (some 39)) (v := undef) (a' := ?_) (bb 23 4095) rfl rfl (any_of HT_.out (by kernel_rfl)) (fun _ _ _ h => h) (Or.inr ⟨by rfl, rfl⟩) ?_ ?_
          rotate_left
          · simp only [Act.put, List.setIfInBounds_toArray, List.set_cons_zero, List.set_cons_succ, i64_w, i32_w]
            rfl
          refine pure_ (i := 12) (N := (some 40)) (v := undef) (a' := ?_) (bb 23 8191) rfl rfl (any_of HT_.out (by kernel_rfl)) (fun _ _ _ h => h) (Or.inr ⟨by rfl, rfl⟩) ?_ ?_
          rotate_left
          · simp only [Act.put, List.setIfInBounds_toArray, List.set_cons_zero, List.set_cons_succ, i64_w, i32_w]
            rfl
          refine pure_ (i := 13) (N := (some 41)) (v := undef) (a' := ?_) (bb 23 16383) rfl rfl (any_of HT_.out (by kernel_rfl)) (fun _ _ _ h => h) (Or.inr ⟨by rfl, rfl⟩) ?_ ?_
          rotate_left
          · simp only [Act.put, List.setIfInBounds_toArray, List.set_cons_zero, List.set_cons_succ, i64_w, i32_w]
            rfl
          refine pure_ (i := 14) (N := (some 42)) (v := undef) (a' := ?_) (bb 23 32767) rfl rfl (any_of HT_.out (by kernel_rfl)) (fun _ _ _ h => h) (Or.inr ⟨by rfl, rfl⟩) ?_ ?_
          rotate_left
          · simp only [Act.put, List.setIfInBounds_toArray, List.set_cons_zero, List.set_cons_succ, i64_w, i32_w]
            rfl
          refine pure_ (i := 15) (N := (some 43)) (v := ?_) (a' := ?_) (bb 23 65535) rfl rfl (any_of HT_.out (by kernel_rfl)) (fun _ _ _ h => h) (Or.inl ⟨by rfl, ?_⟩) ?_ ?_
          rotate_left
          · intro w'
            go_simp
            with_reducible rfl
          rotate_left
          · simp only [Act.put, List.setIfInBounds_toArray, List.set_cons_zero, List.set_cons_succ, i64_w, i32_w]
            rfl
          refine pure_ (i := 16) (N := (some 44)) (v := ?_) (a' := ?_) (bb 23 131071) rfl rfl (any_of HT_.out (by kernel_rfl)) (fun _ _ _ h => h) (Or.inl ⟨by rfl, ?_⟩) ?_ ?_
          rotate_left
          · intro w'
            go_simp
            with_reducible rfl
          rotate_left
          · simp only [Act.put, List.setIfInBounds_toArray, List.set_cons_zero, List.set_cons_succ, i64_w, i32_w]
            rfl
          refine pure_ (i := 17) (N := (some 45)) (v := undef) (a' := ?_) (bb 23 262143) rfl rfl (any_of HT_.out (by kernel_rfl)) (fun _ _ _ h => h) (Or.inr ⟨by rfl, rfl⟩) ?_ ?_
          rotate_left
          · simp only [Act.put, List.setIfInBounds_toArray, List.set_cons_zero, List.set_cons_succ, i64_w, i32_w]
            rfl
          refine pure_ (i := 18) (N := (some 46)) (v := undef) (a' := ?_) (bb 23 524287) rfl rfl (any_of HT_.out (by kernel_rfl)) (fun _ _ _ h => h) (Or.inr ⟨by rfl, rfl⟩) ?_ ?_
          rotate_left
          · simp only [Act.put, List.setIfInBounds_toArray, List.set_cons_zero, List.set_cons_succ, i64_w, i32_w]
            rfl
          refine pure_ (i := 19) (N := (some 47)) (v := undef) (a' := ?_) (bb 23 1048575) rfl rfl (any_of HT_.out (by kernel_rfl)) (fun _ _ _ h => h) (Or.inr ⟨by rfl, rfl⟩) ?_ ?_
          rotate_left
          · simp only [Act.put, List.setIfInBounds_toArray, List.set_cons_zero, List.set_cons_succ, i64_w, i32_w]
            rfl
          refine pure_ (i := 20) (N := (some 48)) (v := undef) (a' := ?_) (bb 23 2097151) rfl rfl (any_of HT_.out (by kernel_rfl)) (fun _ _ _ h => h) (Or.inr ⟨by rfl, rfl⟩) ?_ ?_
          rotate_left
          · simp only [Act.put, List.setIfInBounds_toArray, List.set_cons_zero, List.set_cons_succ, i64_w, i32_w]
            rfl
          refine pure_ (i := 21) (N := (some 49)) (v := undef) (a' := ?_) (bb 23 4194303) rfl rfl (any_of HT_.out (by kernel_rfl)) (fun _ _ _ h => h) (Or.inr ⟨by rfl, rfl⟩) ?_ ?_
          rotate_left
          · simp only [Act.put, List.setIfInBounds_toArray, List.set_cons_zero, List.set_cons_succ, i64_w, i32_w]
            rfl
          refine pure_ (i := 22) (N := (some 50)) (v := ?_) (a' := ?_) (bb 23 8388607) rfl rfl (any_of HT_.out (by kernel_rfl)) (fun _ _ _ h => h) (Or.inl ⟨by rfl, ?_⟩) ?_ ?_
          rotate_left
          · intro w'
            go_simp
            with_reducible rfl
          rotate_left
          · simp only [Act.put, List.setIfInBounds_toArray, List.set_cons_zero, List.set_cons_succ, i64_w, i32_w]
            rfl
          refine done_ (done_of HT_.out (by kernel_rfl)) ?_
          clear hHeld HT_ HW_
          go_wp2
          go_roundg (gk - 1)
          case measure => have := HJ.out; omega
          case rel => exact ⟨j + 1, by simp, ⟨by have := HJ.out; omega⟩, ⟨by rw [HPK.out]; unfold pickS; rw [if_neg (by simp [ha])]; exact HSy.out.drop.up1⟩⟩
      · subst h0
        refine start_ (n := 23) (S := fun W => W.cell? ⟨gs, 0, none⟩ = some (.int .i64 sj.a) ∧ W.cell? ⟨gs, 2, none⟩ = some (.int .i64 sj.c) ∧ W.cell? ⟨gb, 2, none⟩ = some (.int .i64 bj.c)) (ds := []) (bb 23 0) (by kernel_rfl) rfl rfl (⟨blk_cell HSy.out.cells.1 0 |>.trans HE0.out, blk_cell HSy.out.cells.1 2 |>.trans HE2.out, blk_cell HSy.out.up2.cells.1 2 |>.trans HB2.out⟩) (fun hHeld => ?_); refine with_tabW rda_tab rda_bits (fun HT_ HW_ => ?_)
        generalize w5.drew = wd at hHeld HSy ⊢
        refine pure_ (i := 0) (N := (some 28)) (v := ?_) (a' := ?_) (bb 23 1) rfl rfl (any_of HT_.out (by kernel_rfl)) (fun _ _ _ h => h) (Or.inl ⟨by rfl, ?_⟩) ?_ ?_
        rotate_left
        · intro w'
          go_simp
          with_reducible rfl
        rotate_left
        · simp only [Act.put, List.setIfInBounds_toArray, List.set_cons_zero, List.set_cons_succ, i64_w, i32_w]
          rfl
        refine pure_ (i := 1) (N := (some 29)) (v := ?_) (a' := ?_) (bb 23 3) rfl rfl (any_of HT_.out (by kernel_rfl)) (fun _ _ _ h => h) (Or.inl ⟨by rfl, ?_⟩) ?_ ?_
        rotate_left
        · intro w'
          go_simp
          with_reducible rfl
        rotate_left
        · simp only [Act.put, List.setIfInBounds_toArray, List.set_cons_zero, List.set_cons_succ, i64_w, i32_w]
          rfl
        refine pure_ (i := 2) (N := (some 30)) (v := ?_) (a' := ?_) (bb 23 7) rfl rfl (any_of HT_.out (by kernel_rfl)) (fun _ _ _ h => h) (Or.inl ⟨by rfl, ?_⟩) ?_ ?_
        rotate_left
        · intro w'
          go_simp
          with_reducible rfl
        rotate_left
        · simp only [Act.put, List.setIfInBounds_toArray, List.set_cons_zero, List.set_cons_succ, i64_w, i32_w]
          rfl
        refine pure_ (i := 3) (N := (some 31)) (v := undef) (a' := ?_) (bb 23 15) rfl rfl (any_of HT_.out (by kernel_rfl)) (fun _ _ _ h => h) (Or.inr ⟨by rfl, rfl⟩) ?_ ?_
        rotate_left
        · simp only [Act.put, List.setIfInBounds_toArray, List.set_cons_zero, List.set_cons_succ, i64_w, i32_w]
          rfl
        refine pure_ (i := 4) (N := (some 32)) (v := undef) (a' := ?_) (bb 23 31) rfl rfl (any_of HT_.out (by kernel_rfl)) (fun _ _ _ h => h) (Or.inr ⟨by rfl, rfl⟩) ?_ ?_
        rotate_left
        · simp only [Act.put, List.setIfInBounds_toArray, List.set_cons_zero, List.set_cons_succ, i64_w, i32_w]
          rfl
        refine pure_ (i := 5) (N := (some 33)) (v := undef) (a' := ?_) (bb 23 63) rfl rfl (any_of HT_.out (by kernel_rfl)) (fun _ _ _ h => h) (Or.inr ⟨by rfl, rfl⟩) ?_ ?_
        rotate_left
        · simp only [Act.put, List.setIfInBounds_toArray, List.set_cons_zero, List.set_cons_succ, i64_w, i32_w]
          rfl
        refine pure_ (i := 6) (N := (some 34)) (v := undef) (a' := ?_) (bb 23 127) rfl rfl (any_of HT_.out (by kernel_rfl)) (fun _ _ _ h => h) (Or.inr ⟨by rfl, rfl⟩) ?_ ?_
        rotate_left
        · simp only [Act.put, List.setIfInBounds_toArray, List.set_cons_zero, List.set_cons_succ, i64_w, i32_w]
          rfl
        refine pure_ (i := 7) (N := (some 35)) (v := undef) (a' := ?_) (bb 23 255) rfl rfl (any_of HT_.out (by kernel_rfl)) (fun _ _ _ h => h) (Or.inr ⟨by rfl, rfl⟩) ?_ ?_
        rotate_left
        · simp only [Act.put, List.setIfInBounds_toArray, List.set_cons_zero, List.set_cons_succ, i64_w, i32_w]
          rfl
        refine pure_ (i := 8) (N := (some 36)) (v := ?_) (a' := ?_) (bb 23 511) rfl rfl (any_of HT_.out (by kernel_rfl)) (fun _ _ _ h => h) (Or.inl ⟨by rfl, ?_⟩) ?_ ?_
        rotate_left
        · intro w'
          go_simp
          with_reducible rfl
        rotate_left
        · simp only [Act.put, List.setIfInBounds_toArray, List.set_cons_zero, List.set_cons_succ, i64_w, i32_w]
          rfl
        refine pure_ (i := 9) (N := (some 37)) (v := ?_) (a' := ?_) (bb 23 1023) rfl rfl (any_of HT_.out (by kernel_rfl)) (fun _ _ _ h => h) (Or.inl ⟨by rfl, ?_⟩) ?_ ?_
        rotate_left
        · intro w'
          go_simp
          with_reducible rfl
        rotate_left
        · simp only [Act.put, List.setIfInBounds_toArray, List.set_cons_zero, List.set_cons_succ, i64_w, i32_w]
          rfl
        refine pure_ (i := 10) (N := (some 38)) (v := undef) (a' := ?_) (bb 23 2047) rfl rfl (any_of HT_.out (by kernel_rfl)) (fun _ _ _ h => h) (Or.inr ⟨by rfl, rfl⟩) ?_ ?_
        rotate_left
        · simp only [Act.put, List.setIfInBounds_toArray, List.set_cons_zero, List.set_cons_succ, i64_w, i32_w]
          rfl
        refine pure_ (i := 11) (N := (some 39)) (v := undef) (a' := ?_) (bb 23 4095) rfl rfl (any_of HT_.out (by kernel_rfl)) (fun _ _ _ h => h) (Or.inr ⟨by rfl, rfl⟩) ?_ ?_
        rotate_left
        · simp only [Act.put, List.setIfInBounds_toArray, List.set_cons_zero, List.set_cons_succ, i64_w, i32_w]
          rfl
        refine pure_ (i := 12) (N := (some 40)) (v := undef) (a' := ?_) (bb 23 8191) rfl rfl (any_of HT_.out (by kernel_rfl)) (fun _ _ _ h => h) (Or.inr ⟨by rfl, rfl⟩) ?_ ?_
        rotate_left
        · simp only [Act.put, List.setIfInBounds_toArray, List.set_cons_zero, List.set_cons_succ, i64_w, i32_w]
          rfl
        refine pure_ (i := 13) (N := (some 41)) (v := undef) (a' := ?_) (bb 23 16383) rfl rfl (any_of HT_.out (by kernel_rfl)) (fun _ _ _ h => h) (Or.inr ⟨by rfl, rfl⟩) ?_ ?_
        rotate_left
        · simp only [Act.put, List.setIfInBounds_toArray, List.set_cons_zero, List.set_cons_succ, i64_w, i32_w]
          rfl
        refine pure_ (i := 14) (N := (some 42)) (v := undef) (a' := ?_) (bb 23 32767) rfl rfl (any_of HT_.out (by kernel_rfl)) (fun _ _ _ h => h) (Or.inr ⟨by rfl, rfl⟩) ?_ ?_
        rotate_left
        · simp only [Act.put, List.setIfInBounds_toArray, List.set_cons_zero, List.set_cons_succ, i64_w, i32_w]
          rfl
        refine pure_ (i := 15) (N := (some 43)) (v := ?_) (a' := ?_) (bb 23 65535) rfl rfl (any_of HT_.out (by kernel_rfl)) (fun _ _ _ h => h) (Or.inl ⟨by rfl, ?_⟩) ?_ ?_
        rotate_left
        · intro w'
          go_simp
          with_reducible rfl
        rotate_left
        · simp only [Act.put, List.setIfInBounds_toArray, List.set_cons_zero, List.set_cons_succ, i64_w, i32_w]
          rfl
        refine pure_ (i := 16) (N := (some 44)) (v := ?_) (a' := ?_) (bb 23 131071) rfl rfl (any_of HT_.out (by kernel_rfl)) (fun _ _ _ h => h) (Or.inl ⟨by rfl, ?_⟩) ?_ ?_
        rotate_left
        · intro w'
          go_simp
          with_reducible rfl
        rotate_left
        · simp only [Act.put, List.setIfInBounds_toArray, List.set_cons_zero, List.set_cons_succ, i64_w, i32_w]
          rfl
        refine pure_ (i := 17) (N := (some 45)) (v := undef) (a' := ?_) (bb 23 262143) rfl rfl (any_of HT_.out (by kernel_rfl)) (fun _ _ _ h => h) (Or.inr ⟨by rfl, rfl⟩) ?_ ?_
        rotate_left
        · simp only [Act.put, List.setIfInBounds_toArray, List.set_cons_zero, List.set_cons_succ, i64_w, i32_w]
          rfl
        refine pure_ (i := 18) (N := (some 46)) (v := undef) (a' := ?_) (bb 23 524287) rfl rfl (any_of HT_.out (by kernel_rfl)) (fun _ _ _ h => h) (Or.inr ⟨by rfl, rfl⟩) ?_ ?_
        rotate_left
        · simp only [Act.put, List.setIfInBounds_toArray, List.set_cons_zero, List.set_cons_succ, i64_w, i32_w]
          rfl
        refine pure_ (i := 19) (N := (some 47)) (v := undef) (a' := ?_) (bb 23 1048575) rfl rfl (any_of HT_.out (by kernel_rfl)) (fun _ _ _ h => h) (Or.inr ⟨by rfl, rfl⟩) ?_ ?_
        rotate_left
        · simp only [Act.put, List.setIfInBounds_toArray, List.set_cons_zero, List.set_cons_succ, i64_w, i32_w]
          rfl
        refine pure_ (i := 20) (N := (some 48)) (v := undef) (a' := ?_) (bb 23 2097151) rfl rfl (any_of HT_.out (by kernel_rfl)) (fun _ _ _ h => h) (Or.inr ⟨by rfl, rfl⟩) ?_ ?_
        rotate_left
        · simp only [Act.put, List.setIfInBounds_toArray, List.set_cons_zero, List.set_cons_succ, i64_w, i32_w]
          rfl
        refine pure_ (i := 21) (N := (some 49)) (v := undef) (a' := ?_) (bb 23 4194303) rfl rfl (any_of HT_.out (by kernel_rfl)) (fun _ _ _ h => h) (Or.inr ⟨by rfl, rfl⟩) ?_ ?_
        rotate_left
        · simp only [Act.put, List.setIfInBounds_toArray, List.set_cons_zero, List.set_cons_succ, i64_w, i32_w]
          rfl
        refine pure_ (i := 22) (N := (some 50)) (v := ?_) (a' := ?_) (bb 23 8388607) rfl rfl (any_of HT_.out (by kernel_rfl)) (fun _ _ _ h => h) (Or.inl ⟨by rfl, ?_⟩) ?_ ?_
        rotate_left
        · intro w'
          go_simp
          with_reducible rfl
        rotate_left
        · simp only [Act.put, List.setIfInBounds_toArray, List.set_cons_zero, List.set_cons_succ, i64_w, i32_w]
          rfl
        refine done_ (done_of HT_.out (by kernel_rfl)) ?_
        clear hHeld HT_ HW_
        go_wp2
        go_roundg (gk - 1)
        case measure => have := HJ.out; omega
        case rel => exact ⟨j + 1, by simp, ⟨by have := HJ.out; omega⟩, ⟨by rw [HPK.out]; unfold pickS; rw [if_neg (by simp)]; exact HSy.out.drop.up1⟩⟩
    · have hj2 : j = 2 := by have := HJ.out; omega
      subst hj2
      have HO1 := Aside0.mk (HOK.out 2)
      have HRS := Aside0.mk (show readS N cur = (if (bestJ N cur 2).c < 0 then noSL else bestJ N cur 2) from rfl)
      have HRE := Aside0.mk (show readE N cur = (if (bestJ N cur 2).c < 0 then 180 else 0) from rfl)
      generalize hb : bestJ N cur 2 = bj at HO1 HRS HRE hS
      have HSZ1 := Aside0.mk (HSZ.out _ HO1.out)
      have HSQ1 := Aside0.mk (show Z.size = bj.V.toArray.size from by rw [HZS.out, HSQ.out _ HO1.out])
      have HLD := Aside0.mk (show ∀ j v, bj.V.toArray.toList[j]? = some v → wr.cell? ((⟨gb, 0, none⟩ : Addr).add j) = some v from fun j v hv => seg_at hS.out.cells.1 0 bj.V (by rw [List.drop_zero]; exact List.take_of_length_le (Nat.le_refl _)) j v (by simpa using hv))
      have x0 : wr.cell? ⟨gb, 2, none⟩ = some (.int .i64 bj.c) := (blk_cell hS.out.cells.1 2).trans (by simpa using bj.V2)
      clear hb HOK HJ hj HDC HRD HSC HDO
      by_cases hc : bj.c < 0
      · have HC := Aside0.mk hc
        have HZZ := Aside0.mk (show (Tryd.prog.info? 27).map (·.size) = some Z.size from size27 HZS.out)
        have HZA := Aside0.mk (show Z.all (·.oneCell') = true from by rw [← HZ.out]; exact SL.V_all _)
        go_wp2_with (first
          | ((with_reducible refine gate_build (ty := 27) rfl ?_); refine wpList_buildTo rfl 27 _ rfl (some 56) rfl Z ?aB ?_; (case aB => (simp only [List.map_toArray, List.map_nil]; exact HBZ.out)))
          | ((with_reducible refine gate_store (ty := 27) rfl ?_); refine Sep.store_own rfl 27 _ _ rfl rfl rfl hS.out.up2 HZZ.out rfl HZA.out ?_; intro w8 h8; have HS8 := Aside0.mk h8; clear h8))
        refine bodyPost_ret (results_row_tmp (p := 2) (u := 3) (ty := 27) rfl _ _ gr 27 Z (0, 0) _ _ rfl rfl HS8.out.cells.1 Tryd.underlying27 rfl HZZ.out) rfl ⟨by rw [HRS.out, HRE.out, if_pos HC.out, if_pos HC.out, HZ.out]; rfl, ?_⟩
        exact HS8.out.drop.drop
      · have HC := Aside0.mk hc
        go_wp2_with (first
          | ((with_reducible refine gate_load (ty := 27) rfl ?_); refine wpList_ldw ?_ 27 _ rfl ⟨gb, 0, none⟩ ?_ bj.V.toArray _ HLD.out Tryd.underlying27 rfl HSZ1.out ?_; exact rfl; exact rfl; skip)
          | ((with_reducible refine gate_store (ty := 27) rfl ?_); refine Sep.store_own rfl 27 _ _ rfl rfl rfl hS.out.up2 HSZ1.out HSQ1.out (SL.V_all _) ?_; intro w8 h8; have HS8 := Aside0.mk h8; clear h8))
        refine bodyPost_ret (results_row_tmp (p := 2) (u := 3) (ty := 27) rfl _ _ gr 27 _ (0, 0) _ _ rfl rfl HS8.out.cells.1 Tryd.underlying27 rfl HSZ1.out) rfl ⟨by rw [HRS.out, HRE.out, if_neg (by have := HC.out; omega), if_neg (by have := HC.out; omega)]; rfl, ?_⟩
        exact HS8.out.drop.drop
end Go.Proofs.YtaflofcnjakaaaaDoor.M

namespace Go.Proofs.YtaflofcnjakaaaaDoor.M
open Go.RowKit Go.Maps Go.Proofs.YtaflofcnjakaaaaDoorW.PrintWords Go.Proofs.YtaflofcnjakaaaaDoorW.PrintLast Go.Proofs.YtaflofcnjakaaaaDoorW.PrintMore Go.Proofs.YtaflofcnjakaaaaDoor.Wr Go.Proofs.YtaflofcnjakaaaaDoor.Pl Go.Proofs.YtaflofcnjakaaaaDoor.P Go.Proofs.YtaflofcnjakaaaaDoor.A
set_option linter.unusedVariables false
set_option linter.unusedSimpArgs false
theorem eqItems_same (d : Nat) (l : List Int) (W : World) : ∀ is : List Nat, (∀ i, i ∈ is → i < l.length) → (Op.eqItems (d + 1) 5 1 (nums .u8 l).toArray (nums .u8 l).toArray is).run Tryd.prog W = .ok true W
  | [], _ => by simp [Op.eqItems]
  | i :: is, h => by
    have hu : Tryd.prog.underlying 5 = some (.int .u8) := by kernel_rfl
    have hp : (Go.part 5 (nums .u8 l).toArray (i * 1)).run Tryd.prog W = .ok (.int .u8 (l.getD i 0)) W := by
      have hagg : (isAgg 5).run Tryd.prog W = .ok false W := by
        unfold isAgg
        rw [Sem.run_bind, run_underlying hu W]
        simp
      unfold Go.part
      rw [Sem.run_bind, hagg]
      simp only [Result.andThen_ok, Nat.mul_one, Bool.false_eq_true, if_false]
      have e : (nums .u8 l).toArray[i]? = some (.int .u8 (l.getD i 0)) := by
        unfold nums
        have hi := h i (by simp)
        simp [List.getElem?_eq_getElem hi]
      rw [e]
      simp
    have he : (Op.equalIn (d + 1) 5 (.int .u8 (l.getD i 0)) (.int .u8 (l.getD i 0))).run Tryd.prog W = .ok true W := by
      simp [Op.equalIn, Sem.run_bind, run_underlying hu]
    simp only [Op.eqItems, Sem.run_bind, hp, he, Result.andThen_ok, Bool.not_true, Bool.false_eq_true, if_false]
    exact eqItems_same d l W is (fun j hj => h j (by simp [hj]))
theorem eq_key (d : Nat) (l : List Int) (hl : l.length = 32) (W : World) : (Op.equalIn (d + 2) 23 (.agg (nums .u8 l).toArray) (.agg (nums .u8 l).toArray)).run Tryd.prog W = .ok true W := by
  obtain ⟨i, hi, _, hsz, _⟩ := info_parts info_u8
  have hc : Tryd.prog.cellsOf 5 = 1 := by kernel_rfl
  rw [run_equalIn_array W (d + 1) (t := 23) (e := 5) (n := 32) (nums .u8 l).toArray (nums .u8 l).toArray Tryd.underlying23 hi, hc]
  exact eqItems_same d l W _ (fun j hj => by rw [hl]; exact List.mem_range.1 hj)
theorem eqFields_same (d : Nat) (xs : Array Value) (W : World) : ∀ fs : List Field, (∀ f ∈ fs, ∃ v, (part f.type xs f.offset).run Tryd.prog W = .ok v W ∧ (Op.equalIn d f.type v v).run Tryd.prog W = .ok true W) → (Op.eqFields d xs xs fs).run Tryd.prog W = .ok true W
  | [], _ => by simp [Op.eqFields]
  | f :: fs, h => by
    obtain ⟨v, hp, he⟩ := h f (by simp)
    unfold Op.eqFields
    rw [Sem.run_ite]
    split
    · simp only [Sem.run_bind, hp, he, Result.andThen_ok, Bool.not_true, Bool.false_eq_true, if_false]
      exact eqFields_same d xs W fs (fun g hg => h g (by simp [hg]))
    · exact eqFields_same d xs W fs (fun g hg => h g (by simp [hg]))
theorem part_int {xs : List Value} {o : Nat} {n : Int} (W : World) (h : xs[o]? = some (.int .i64 n)) : (part 3 xs.toArray o).run Tryd.prog W = .ok (.int .i64 n) W := by
  have hu : Tryd.prog.underlying 3 = some (.int .i64) := by kernel_rfl
  have hagg : (isAgg 3).run Tryd.prog W = .ok false W := by
    unfold isAgg
    rw [Sem.run_bind, run_underlying hu W]
    simp
  unfold Go.part
  rw [Sem.run_bind, hagg]
  simp only [Result.andThen_ok, Bool.false_eq_true, if_false]
  have e : xs.toArray[o]? = some (.int .i64 n) := by simpa using h
  rw [e]
  simp
theorem part_agg {t : TypeId} {d : TypeDesc} {xs ys : List Value} {o : Nat} (W : World) (hu : Tryd.prog.underlying t = some d) (hd : (match d with | .struct _ | .array _ _ => true | _ => false) = true) (hs : (Tryd.prog.info? t).map (·.size) = some ys.length) (h : (xs.drop o).take ys.length = ys) : (part t xs.toArray o).run Tryd.prog W = .ok (.agg ys.toArray) W := by
  have hagg : (isAgg t).run Tryd.prog W = .ok true W := by
    unfold isAgg
    rw [Sem.run_bind, run_underlying hu W]
    cases d <;> simp_all
  cases hq : Tryd.prog.info? t with
  | none => simp [hq] at hs
  | some i =>
    have hsz : i.size = ys.length := by simpa [hq] using hs
    have hlen : o + ys.length ≤ xs.length ∨ ys.length = 0 := by
      have := congrArg List.length h
      simp at this
      omega
    unfold Go.part
    rw [Sem.run_bind, hagg]
    simp [sizeOf, typeInfo, hq, hsz]
    simpa using h
theorem flds25 : (Tryd.prog.fieldsOf 25).toList.map (fun f => (f.type, f.offset)) = [(23, 0), (3, 32), (3, 33)] := by kernel_rfl
theorem flds27 : (Tryd.prog.fieldsOf 27).toList.map (fun f => (f.type, f.offset)) = [(3, 0), (3, 1), (3, 2), (3, 3), (3, 4), (23, 5), (25, 37), (25, 71)] := by kernel_rfl
theorem eq_int (d : Nat) (n : Int) (W : World) : (Op.equalIn (d + 1) 3 (.int .i64 n) (.int .i64 n)).run Tryd.prog W = .ok true W := by
  have hu : Tryd.prog.underlying 3 = some (.int .i64) := by kernel_rfl
  simp [Op.equalIn, Sem.run_bind, run_underlying hu]
theorem eq_ref (d : Nat) {h : List Int} (hh : h.length = 32) (f l : Int) (W : World) : (Op.equalIn (d + 3) 25 (.agg (refV h f l).toArray) (.agg (refV h f l).toArray)).run Tryd.prog W = .ok true W := by
  rw [run_equalIn_struct W (d + 2) 25 _ _ (by kernel_rfl) (by kernel_rfl)]
  refine eqFields_same (d + 2) _ W _ (fun fl hf => ?_)
  have hm : (fl.type, fl.offset) ∈ (Tryd.prog.fieldsOf 25).toList.map (fun f => (f.type, f.offset)) := List.mem_map.2 ⟨fl, hf, rfl⟩
  rw [flds25] at hm
  simp only [List.mem_cons, List.not_mem_nil, or_false, Prod.mk.injEq] at hm
  have r32 := refV_f hh f l []
  have r33 := refV_l hh f l []
  rw [List.append_nil] at r32 r33
  rcases hm with ⟨e1, e2⟩ | ⟨e1, e2⟩ | ⟨e1, e2⟩ <;> rw [e1, e2]
  · exact ⟨_, part_agg (ys := nums .u8 h) W Tryd.underlying23 rfl (size23 (by rw [nums_length, hh])) (by rw [List.drop_zero]; unfold refV; exact take_app rfl), eq_key d h hh W⟩
  · exact ⟨_, part_int W r32, eq_int (d + 1) f W⟩
  · exact ⟨_, part_int W r33, eq_int (d + 1) l W⟩
theorem eq_slot (d : Nat) {s : SL} (hs : s.Ok) (W : World) : (Op.equalIn (d + 4) 27 (.agg s.V.toArray) (.agg s.V.toArray)).run Tryd.prog W = .ok true W := by
  rw [run_equalIn_struct W (d + 3) 27 _ _ (by kernel_rfl) (by kernel_rfl)]
  refine eqFields_same (d + 3) _ W _ (fun fl hf => ?_)
  have hm : (fl.type, fl.offset) ∈ (Tryd.prog.fieldsOf 27).toList.map (fun f => (f.type, f.offset)) := List.mem_map.2 ⟨fl, hf, rfl⟩
  rw [flds27] at hm
  simp only [List.mem_cons, List.not_mem_nil, or_false, Prod.mk.injEq] at hm
  rcases hm with ⟨e1, e2⟩ | ⟨e1, e2⟩ | ⟨e1, e2⟩ | ⟨e1, e2⟩ | ⟨e1, e2⟩ | ⟨e1, e2⟩ | ⟨e1, e2⟩ | ⟨e1, e2⟩ <;> rw [e1, e2]
  · exact ⟨_, part_int W s.V0, eq_int (d + 2) _ W⟩
  · exact ⟨_, part_int W s.V1, eq_int (d + 2) _ W⟩
  · exact ⟨_, part_int W s.V2, eq_int (d + 2) _ W⟩
  · exact ⟨_, part_int W s.V3, eq_int (d + 2) _ W⟩
  · exact ⟨_, part_int W s.V4, eq_int (d + 2) _ W⟩
  · exact ⟨_, part_agg (ys := nums .u8 s.key) W Tryd.underlying23 rfl (size23 (by rw [nums_length, hs.k])) (by have := SL.V_key hs; rwa [nums_length]), eq_key (d + 1) _ hs.k W⟩
  · exact ⟨_, part_agg (ys := refV s.rh s.rf s.rl) W Tryd.underlying25 rfl (size25 (refV_len hs.r _ _)) (SL.V_root hs), eq_ref d hs.r _ _ W⟩
  · exact ⟨_, part_agg (ys := refV s.mh s.mf s.ml) W Tryd.underlying25 rfl (size25 (refV_len hs.m _ _)) (SL.V_memo hs), eq_ref d hs.m _ _ W⟩
theorem eql_slot {s : SL} (hs : s.Ok) (W : World) : (Op.equalIn 10000 27 (.agg s.V.toArray) (.agg s.V.toArray)).run Tryd.prog W = .ok true W := eq_slot 9996 hs W
def easySL : SL := ⟨40, 8, 0, 0, 0, z32, z32, 10, 0, z32, 11, 2⟩
theorem easy_ok : easySL.Ok := ⟨z32_ok.1, z32_ok.1, z32_ok.1, z32_ok.2, z32_ok.2, z32_ok.2⟩
theorem easy_may : mayM easySL = true := by kernel_rfl
set_option maxRecDepth 100000 in
theorem easy_ref1 : Tryd.prog.built 25 [(1, .int .i64 10), (2, .int .i64 0)] = some (refV z32 10 0).toArray := by kernel_rfl
set_option maxRecDepth 100000 in
theorem easy_ref2 : Tryd.prog.built 25 [(1, .int .i64 11), (2, .int .i64 2)] = some (refV z32 11 2).toArray := by kernel_rfl
set_option maxRecDepth 100000 in
theorem easy_built : Tryd.prog.built 27 [(0, .int .i64 40), (1, .int .i64 8), (2, .int .i64 0), (3, .int .i64 0), (4, .int .i64 0), (6, .agg (refV z32 10 0).toArray), (7, .agg (refV z32 11 2).toArray)] = some easySL.V.toArray := by kernel_rfl
set_option maxHeartbeats 8000000 in
set_option maxRecDepth 100000 in
theorem Sep.easy {w0 w : World} {L : List Th} (h : Sep w0 w L) : Calls Tryd.prog 55 #[.int .i64 0] w fun e w' => e = .returned (.agg easySL.V.toArray) ∧ Sep w0 w' L := by
  have HS0 := Aside0.mk h
  have HR1 := Aside0.mk easy_ref1
  have HR2 := Aside0.mk easy_ref2
  have HBE := Aside0.mk easy_built
  generalize (refV z32 10 0).toArray = R1 at HR1 HBE
  generalize (refV z32 11 2).toArray = R2 at HR2 HBE
  have HSZ := Aside0.mk (show (Tryd.prog.info? 27).map (·.size) = some easySL.V.toArray.size from size27 (by simpa using SL.V_len easy_ok))
  have hz := (zero_of_info (P := Tryd.prog) (t := 27) (v := .agg noSL.V.toArray) (n := 105) (by kernel_rfl)).1
  have HQ := Aside0.mk (show noSL.V.toArray.size = easySL.V.toArray.size from by simp only [List.size_toArray]; rw [SL.V_len noSL_ok, SL.V_len easy_ok])
  have HA := Aside0.mk (SL.V_all easySL)
  generalize easySL.V.toArray = E at HBE HSZ HQ HA ⊢
  generalize noSL.V.toArray = Z at hz HQ
  clear h
  go_enter Tryd.func55, Tryd.ntmps55
  go_upto_region 1 with (fail)
  have HS1 := Aside0.mk (HS0.out.push_alloc Z 27)
  generalize w.alloc (.cells Z 27) = w1 at HS1 ⊢
  generalize w.heap.size = gr at HS1 ⊢
  go_wp2_with (first
    | ((with_reducible refine gate_build (ty := 25) rfl ?_); refine wpList_buildTo rfl 25 _ rfl (some 13) rfl R1 ?aB ?_; (case aB => (simp only [List.map_toArray, List.map_cons, List.map_nil]; exact HR1.out)))
    | ((with_reducible refine gate_build (ty := 25) rfl ?_); refine wpList_buildTo rfl 25 _ rfl (some 14) rfl R2 ?aB ?_; (case aB => (simp only [List.map_toArray, List.map_cons, List.map_nil]; exact HR2.out)))
    | ((with_reducible refine gate_build (ty := 27) rfl ?_); refine wpList_buildTo rfl 27 _ rfl (some 15) rfl E ?aB ?_; (case aB => (simp only [List.map_toArray, List.map_cons, List.map_nil]; exact HBE.out)))
    | ((with_reducible refine gate_store (ty := 27) rfl ?_); refine Sep.store_own rfl 27 _ _ rfl rfl rfl HS1.out HSZ.out HQ.out HA.out ?_; intro w3 h3; have HS2 := Aside0.mk h3; clear h3))
  refine bodyPost_ret (results_cell_row (p := 2) (ty := 27) rfl _ _ gr 27 E (0, 0) _ rfl HS2.out.cells.1 Tryd.underlying27 rfl HSZ.out) rfl ⟨rfl, ?_⟩
  exact HS2.out.drop
end Go.Proofs.YtaflofcnjakaaaaDoor.M

namespace Go.Proofs.YtaflofcnjakaaaaDoor.M
open Go.RowKit Go.Maps Go.Proofs.YtaflofcnjakaaaaDoorW.PrintWords Go.Proofs.YtaflofcnjakaaaaDoorW.PrintLast Go.Proofs.YtaflofcnjakaaaaDoorW.PrintMore Go.Proofs.YtaflofcnjakaaaaDoor.Wr Go.Proofs.YtaflofcnjakaaaaDoor.Pl Go.Proofs.YtaflofcnjakaaaaDoor.P Go.Proofs.YtaflofcnjakaaaaDoor.A
set_option linter.unusedVariables false
set_option linter.unusedSimpArgs false
section
variable {P : Program} {ops : Array Oper} {rest : List Oper} {o : Oper} {a : Act} {w : World} {Q : Exit → Act → World → Prop}
theorem gate_eql {t t2 : TypeId} {x y : Operand} (_ho : o.op = .binOp .eql t x y t2) (h : wpList P ops Q (o :: rest) a w) : wpList P ops Q (o :: rest) a w := h
theorem wpList_eqlw (hw : Region.wanted o (yielded ops a.tmps) = true) (t t2 : TypeId) (x y : Operand) (ho : o.op = .binOp .eql t x y t2) (cs : Array Value) (hx : a.eval x = .agg cs) (hy : a.eval y = .agg cs) (hg : P.eqGuardType P.depth t = false)
    (he : (Op.equalIn 10000 t (.agg cs) (.agg cs)).run P w = .ok true w) (h : wpList P ops Q rest (a.put o.dst (.bool true)) w) : wpList P ops Q (o :: rest) a w :=
  wpList_step fun K hK => by
    rw [if_pos hw]
    unfold Oper.wp execOp
    have hb : (binOp .eql t (.agg cs) (.agg cs)).run P w = .ok (.bool true) w := by rw [run_eql_struct, he]; rfl
    have hgd : (eqGuard .eql t x y (.agg cs) (.agg cs)).run P w = .ok () w := run_eqGuard_agg w .eql t x y cs cs hg
    simp only [ho, hx, hy, Sem.run_bind, hgd, hb, Result.andThen_ok, Sem.run_pure]
    exact hK _ _ h
end
theorem guard27 : Tryd.prog.eqGuardType Tryd.prog.depth 27 = false := by kernel_rfl
theorem zeros_bytes : bytes_ zeros := fun x hx => by rw [List.eq_of_mem_replicate hx]; omega
theorem zeros_no : decB zeros = none := by
  have h : (readL zeros).a = 0 := by kernel_rfl
  unfold decB
  rw [if_neg]
  rintro ⟨_, h2, _⟩
  have := ((may_iff _).1 h2).a1
  omega
theorem bytes_nil : bytes_ [] := fun x hx => by simp at hx
theorem getD_rep_bytes (n j : Nat) : bytes_ ((List.replicate n zeros).getD j []) := by
  rw [List.getD_eq_getElem?_getD]
  by_cases h : j < n
  · rw [List.getElem?_replicate_of_lt h]; exact zeros_bytes
  · rw [List.getElem?_eq_none (by simpa using h)]; exact bytes_nil
theorem getD_rep {n j : Nat} (h : j < n) : (List.replicate n zeros).getD j [] = zeros := by
  rw [List.getD_eq_getElem?_getD, List.getElem?_replicate_of_lt h]
  rfl
def easyD : DS := DS.fresh 40 (List.replicate 40 zeros)
def easyD2 : DS := (easyD.put 0 (encB easySL)).flush
theorem flush_cur (s : DS) {j : Nat} (h : j < s.n) : s.flush.cur j = s.cur j := by
  unfold DS.flush
  show (match ([] : List (List Int)).getLast? with | some b => b | none => ((List.range s.n).map s.cur).getD j []) = _
  rw [List.getD_eq_getElem?_getD]
  simp [h]
theorem flush_cur_no (s : DS) {j : Nat} (h : ¬ j < s.n) : s.flush.cur j = [] := by
  unfold DS.flush
  show (match ([] : List (List Int)).getLast? with | some b => b | none => ((List.range s.n).map s.cur).getD j []) = _
  rw [List.getD_eq_getElem?_getD]
  simp [h]
theorem put_cur (s : DS) (i : Nat) (b : List Int) : (s.put i b).cur i = b := by
  unfold DS.put DS.cur
  simp
theorem put_cur_ne (s : DS) {i j : Nat} (b : List Int) (h : j ≠ i) : (s.put i b).cur j = s.cur j := by
  unfold DS.put DS.cur
  simp [h]
theorem fresh_cur {n j : Nat} (h : j < n) : (DS.fresh n (List.replicate n zeros)).cur j = zeros := by
  show (List.replicate n zeros).getD j [] = _
  exact getD_rep h
theorem easy_cur0 : easyD2.cur 0 = encB easySL := by
  unfold easyD2
  rw [flush_cur _ (show 0 < 40 by decide), put_cur]
theorem easy_cur1 : easyD2.cur 1 = zeros := by
  unfold easyD2
  rw [flush_cur _ (show 1 < 40 by decide), put_cur_ne _ _ (by decide)]
  exact fresh_cur (by decide)
theorem easy_bytes (j : Nat) : bytes_ (easyD2.cur j) := by
  by_cases h : j < 40
  · by_cases h0 : j = 0
    · subst h0; rw [easy_cur0]; exact bytes_encB easy_ok
    · unfold easyD2
      rw [flush_cur _ (show j < 40 from h), put_cur_ne _ _ h0]
      show bytes_ ((DS.fresh 40 (List.replicate 40 zeros)).cur j)
      rw [fresh_cur h]
      exact zeros_bytes
  · unfold easyD2
    rw [flush_cur_no _ (show ¬ j < 40 from h)]
    exact bytes_nil
theorem easy_len (j : Nat) (hj : j < 2) : (easyD2.cur j).length = 512 := by
  rcases (show j = 0 ∨ j = 1 by omega) with rfl | rfl
  · rw [easy_cur0]; exact encB_len easy_ok
  · rw [easy_cur1]; exact zeros_len
theorem easy_best : bestJ 40 easyD2.cur 2 = easySL := by
  have h0 := decS_yes (dec_enc easy_ok ((may_iff _).1 easy_may))
  have h1 := decS_no zeros_no
  unfold bestJ bestJ bestJ
  rw [easy_cur0, easy_cur1, h0.1, h0.2, h1.1, h1.2]
  unfold pickS
  rw [if_neg (by decide), if_pos (by decide)]
theorem easy_read : readS 40 easyD2.cur = easySL ∧ readE 40 easyD2.cur = 0 := by
  unfold readS readE
  rw [easy_best]
  exact ⟨if_neg (by decide), if_neg (by decide)⟩
set_option maxHeartbeats 8000000 in
set_option maxRecDepth 100000 in
theorem Sep.started {w0 w : World} {L : List Th} (h : Sep w0 w L) (hH : Wr.Half w0) : Calls Tryd.prog 31 #[] w fun e w' => e = .returned (.bool true) ∧ Sep w0 w' L := by
  have HS0 := Aside0.mk h
  have HNW := Aside0.mk (fun W (M : List Th) (h : Sep w0 W M) => (show Calls Tryd.prog 15 #[.int .i64 40] W (fun e w' => ∃ g, e = .returned (.tuple #[.pointer (some ⟨g, 0, none⟩), .int .i64 0]) ∧ Sep w0 w' (dkT g easyD :: M)) from Sep.new h 40 (by decide) (by decide)))
  have HWR := Aside0.mk (fun W (M : List Th) gd (h : Sep w0 W (dkT gd easyD :: M)) => (show Calls Tryd.prog 17 #[.pointer (some ⟨gd, 0, none⟩), .agg easySL.V.toArray] W (fun e w' => ∃ gx ge, e = .returned (.tuple #[.pointer (some ⟨gx, 0, none⟩), .int .i64 0]) ∧ Sep w0 w' (wrT gx ge gd 0 (encB easySL) 0 ++ dkT gd easyD :: M)) from Sep.writer h hH easySL easy_ok easy_may rfl))
  have HT0 := Aside0.mk (fun W (M : List Th) gx ge gd (h : Sep w0 W (wrT gx ge gd 0 (encB easySL) 0 ++ dkT gd easyD :: M)) => Sep.step0 (i := 0) h rfl (show 0 < 40 by decide) (show 0 < 1073741824 by decide) (encB_len easy_ok))
  have HT1 := Aside0.mk (fun W (M : List Th) gx ge gd (h : Sep w0 W (wrT gx ge gd 0 (encB easySL) 1 ++ dkT gd (easyD.put 0 (encB easySL)) :: M)) => Sep.step1 h)
  have HRS := Aside0.mk (fun W (M : List Th) gd (h : Sep w0 W (dkT gd easyD2 :: M)) => (show Calls Tryd.prog 28 #[.pointer (some ⟨gd, 0, none⟩)] W (fun e w' => e = .returned (.tuple #[.agg easySL.V.toArray, .int .i64 0]) ∧ Sep w0 w' (dkT gd (easyD2.readsJ 2) :: M)) from by
    have h3 := Sep.readSlot h hH (show 2 ≤ 40 by decide) easy_bytes easy_len
    rw [show ((easyD2.n : Nat) : Int) = 40 from rfl, easy_read.1, easy_read.2] at h3
    exact h3))
  have HSZ := Aside0.mk (show (Tryd.prog.info? 27).map (·.size) = some easySL.V.toArray.size from size27 (by simpa using SL.V_len easy_ok))
  have hz := (zero_of_info (P := Tryd.prog) (t := 27) (v := .agg noSL.V.toArray) (n := 105) (by kernel_rfl)).1
  have HQ := Aside0.mk (show noSL.V.toArray.size = easySL.V.toArray.size from by simp only [List.size_toArray]; rw [SL.V_len noSL_ok, SL.V_len easy_ok])
  have HA := Aside0.mk (SL.V_all easySL)
  have HES := Aside0.mk (fun W (M : List Th) (h : Sep w0 W M) => Sep.easy h)
  have HEQ := Aside0.mk (fun W => eql_slot easy_ok W)
  have HLV := Aside0.mk (fun W (M : List Th) g (h : Sep w0 W (cellsT g easySL.V.toArray 27 :: M)) => (show ∀ j v, easySL.V.toArray.toList[j]? = some v → W.cell? ((⟨g, 0, none⟩ : Addr).add j) = some v from fun j v hv => seg_at h.cells.1 0 easySL.V (by rw [List.drop_zero]; exact List.take_of_length_le (Nat.le_refl _)) j v (by simpa using hv)))
  clear h hH
  generalize easySL.V.toArray = E at HWR HRS HSZ HQ HA HES HEQ HLV ⊢
  generalize noSL.V.toArray = Z at hz HQ
  generalize hEB : encB easySL = eb at HWR HT0 HT1
  have HEB := Aside0.mk hEB
  clear hEB
  generalize hD0 : easyD = D0 at HNW HWR HT0 HT1
  have HD0 := Aside0.mk hD0
  clear hD0
  have HD2 := Aside0.mk (show (D0.put 0 eb).flush = easyD2 from by rw [← HD0.out, ← HEB.out]; rfl)
  generalize easyD2 = D2 at HRS HD2
  generalize D0.put 0 eb = D1 at HT0 HT1 HD2
  generalize D1.flush = D1f at HT1 HD2
  have hd2 := HD2.out
  clear HD2
  subst hd2
  go_enter Tryd.func31, Tryd.ntmps31
  go_upto_region 2 with (go_at_call 15; (with_reducible refine (HNW.out _ _ HS0.out).mono ?_); rintro e w1 ⟨gd, rfl, h1⟩; have HS1 := Aside0.mk h1; clear h1 HS0)
  go_upto_region 3 with (first
    | (go_at_call 55; (with_reducible refine (HES.out _ _ HS1.out).mono ?_); rintro e w2 ⟨rfl, h2⟩; have HS2 := Aside0.mk h2; clear h2 HS1)
    | ((with_reducible refine gate_store (ty := 27) rfl ?_); refine Sep.store_own rfl 27 _ _ rfl rfl rfl (HS2.out.push_alloc Z 27) HSZ.out HQ.out HA.out ?_; intro w3 h3; have HS3 := Aside0.mk h3; clear h3))
  generalize w2.heap.size = g3 at HS3 ⊢
  clear HS2
  go_upto_region 4 with (first
    | ((with_reducible refine gate_load (ty := 27) rfl ?_); refine wpList_ldw ?_ 27 _ rfl ⟨g3, 0, none⟩ ?_ E _ (HLV.out _ _ _ HS3.out) Tryd.underlying27 rfl HSZ.out ?_; exact rfl; exact rfl; skip)
    | (go_at_call 17; (with_reducible refine (HWR.out _ _ _ HS3.out.up1).mono ?_); rintro e w4 ⟨gx, ge, rfl, h4⟩; have HS4 := Aside0.mk h4; clear h4 HS3))
  go_upto_region 7 with (go_at_call 19; (with_reducible refine (HT0.out _ _ _ _ _ HS4.out).mono ?_); rintro e w5 ⟨rfl, h5⟩; have HS5 := Aside0.mk h5; clear h5 HS4)
  go_upto_region 8 with (go_at_call 19; (with_reducible refine (HT1.out _ _ _ _ _ HS5.out).mono ?_); rintro e w6 ⟨rfl, h6⟩; have HS6 := Aside0.mk (show Sep w0 w6 (dkT gd D1f :: cellsT g3 E 27 :: L) from h6.drop.drop); clear h6 HS5)
  go_upto_region 9 with (first
    | (go_at_call 28; (with_reducible refine (HRS.out _ _ _ HS6.out).mono ?_); rintro e w7 ⟨rfl, h7⟩; have HS7 := Aside0.mk h7; clear h7 HS6)
    | ((with_reducible refine gate_store (ty := 27) rfl ?_); refine Sep.store_own rfl 27 _ _ rfl rfl rfl (HS7.out.push_alloc Z 27) HSZ.out HQ.out HA.out ?_; intro w8 h8; have HS8 := Aside0.mk h8; clear h8))
  generalize w7.heap.size = g6 at HS8 ⊢
  clear HS7
  go_wp2_with (first
    | ((with_reducible refine gate_load (ty := 27) rfl ?_); refine wpList_ldw ?_ 27 _ rfl ⟨g6, 0, none⟩ ?_ E _ (HLV.out _ _ _ HS8.out) Tryd.underlying27 rfl HSZ.out ?_; exact rfl; exact rfl; skip)
    | ((with_reducible refine gate_load (ty := 27) rfl ?_); refine wpList_ldw ?_ 27 _ rfl ⟨g3, 0, none⟩ ?_ E _ (HLV.out _ _ _ HS8.out.up2) Tryd.underlying27 rfl HSZ.out ?_; exact rfl; exact rfl; skip)
    | ((with_reducible refine gate_eql (t := 27) rfl ?_); refine wpList_eqlw ?_ 27 27 _ _ rfl E ?_ ?_ guard27 (HEQ.out _) ?_; exact rfl; exact rfl; exact rfl; skip))
  go_ret
  exact ⟨rfl, HS8.out.drop.drop.drop⟩
end Go.Proofs.YtaflofcnjakaaaaDoor.M

namespace Go.Proofs.YtaflofcnjakaaaaDoor.M
open Go.RowKit Go.Maps Go.Proofs.YtaflofcnjakaaaaDoorW.PrintWords Go.Proofs.YtaflofcnjakaaaaDoorW.PrintLast Go.Proofs.YtaflofcnjakaaaaDoorW.PrintMore Go.Proofs.YtaflofcnjakaaaaDoor.Wr Go.Proofs.YtaflofcnjakaaaaDoor.Pl Go.Proofs.YtaflofcnjakaaaaDoor.P Go.Proofs.YtaflofcnjakaaaaDoor.A
set_option linter.unusedVariables false
set_option linter.unusedSimpArgs false
theorem ReadsB.cells {w0 : World} {L : List Th} {ge ty : Nat} {b : List Int} (hl : b.length = 512) : ReadsB w0 (cellsT ge (nums .u8 b).toArray ty :: L) (some ⟨ge, 0, none⟩) b := fun W M hs h =>
  C_segn (hs.sep h).cells.1 0 b 512 hl (by rw [List.drop_zero]; exact List.take_of_length_le (by rw [nums_length, hl]; exact Nat.le_refl _)) (by decide)
end Go.Proofs.YtaflofcnjakaaaaDoor.M

namespace Go.Proofs.YtaflofcnjakaaaaDoor.M
open Go.RowKit Go.Maps Go.Proofs.YtaflofcnjakaaaaDoorW.PrintWords Go.Proofs.YtaflofcnjakaaaaDoorW.PrintLast Go.Proofs.YtaflofcnjakaaaaDoorW.PrintMore Go.Proofs.YtaflofcnjakaaaaDoor.Wr Go.Proofs.YtaflofcnjakaaaaDoor.Pl Go.Proofs.YtaflofcnjakaaaaDoor.P Go.Proofs.YtaflofcnjakaaaaDoor.A
set_option linter.unusedVariables false
set_option linter.unusedSimpArgs false
theorem take_snoc {α : Type} (l : List α) {i : Nat} (d : α) (h : i < l.length) : l.take (i + 1) = l.take i ++ [l.getD i d] := by
  rw [List.take_add_one, List.getElem?_eq_getElem h, List.getD_eq_getElem?_getD, List.getElem?_eq_getElem h]; rfl
theorem shr8i (v i : Nat) (hi : i ≤ 8) : shr .i64 (v : Int) (wrap64 (8 * (i : Int))) = ((v / 256 ^ i : Nat) : Int) := by
  rw [w64 (by omega) (by omega)]
  unfold shr
  rw [show (8 * (i : Int)).toNat = 8 * i by omega, Nat.min_eq_left (show 8 * i ≤ IntKind.i64.bits from by show 8 * i ≤ 64; omega), p256]
  simp
theorem number_l0 : ∀ (m v n i k : Nat), i + m = n → n ≤ 8 → m < k →
    kilnref18_number.l0 k (v : Int) (n : Int) (fixL v i ++ List.replicate m 0) (i : Int) = some (fixL v n) := by
  intro m
  induction m with
  | zero =>
    intro v n i k h hn hk
    obtain ⟨k, rfl⟩ : ∃ q, k = q + 1 := ⟨k - 1, by omega⟩
    simp only [kilnref18_number.l0]
    rw [if_neg (by omega), show i = n by omega]; simp
  | succ m ih =>
    intro v n i k h hn hk
    obtain ⟨k, rfl⟩ : ∃ q, k = q + 1 := ⟨k - 1, by omega⟩
    simp only [kilnref18_number.l0]
    rw [if_pos (by omega), if_pos (show 0 ≤ wrap64 (8 * (i : Int)) by rw [w64 (by omega) (by omega)]; omega), if_pos (by omega), if_pos (by simp [fixL_len]; omega), shr8i v i (by omega), w64 (x := (i : Int) + 1) (by omega) (by omega)]
    have e : (fixL v i ++ List.replicate (m + 1) 0).set (i : Int).toNat (((v / 256 ^ i : Nat) : Int) % 256) = fixL v (i + 1) ++ List.replicate m 0 := by
      rw [Int.toNat_natCast, List.set_append_right _ _ (by rw [fixL_len]; exact Nat.le_refl _), fixL_len, Nat.sub_self, List.replicate_succ, List.set_cons_zero, fixL_snoc, List.append_assoc]
      simp
    rw [e]
    exact ih v n (i + 1) k (by omega) hn (by omega)
theorem number_f (v n : Nat) (h8 : n ≤ 8) : kilnref18_number.f 9 (v : Int) (n : Int) = some (fixL v n) := by
  unfold kilnref18_number.f
  rw [if_pos (by omega), if_pos (by omega), Int.toNat_natCast]
  exact number_l0 n v n 0 9 (Nat.zero_add _) h8 (by omega)
theorem sumR_f {b : List Int} (hb : bytes_ b) (hl : b.length ≤ 1000000) : ∃ k, kilnref1_Sum.f k b = some ((crc b : Nat) : Int) := by
  obtain ⟨K, hK⟩ := rSum_ev [b] (by simp) (fun x hx => by rw [List.mem_singleton.1 hx]; exact ⟨by omega, hb⟩)
  refine ⟨K, ?_⟩
  have h2 : kilnref1_SumAll.f K [b] = some ((sumP 4294967295 [b] ^^^ 4294967295 : Nat) : Int) := hK K (Nat.le_refl _)
  unfold kilnref1_Sum.f
  rw [h2]
  rfl
section
variable {w0 w : World} {L : List Th}
theorem Sep.numR (h : Sep w0 w L) (x : Int) (n : Nat) (h8 : n ≤ 8) (h0 : 0 ≤ x) :
    Calls Tryd.prog 41 #[.int .i64 x, .int .i64 (n : Int)] w fun e w' => ∃ v, e = .returned v ∧ Sep w0 w' (ownT (Kd.int .u8) 5 v (fixL x.toNat n) :: L) := by
  obtain ⟨v, rfl⟩ : ∃ v : Nat, x = (v : Int) := ⟨x.toNat, by omega⟩
  rw [Int.toNat_natCast]
  refine (kilnref18_number.calls 9 (v : Int) (n : Int) _ w (number_f v n h8)).mono ?_
  rintro e w' ⟨v1, he, hr, hb⟩
  exact ⟨v1, he, h.push_own hr hb⟩
theorem Sep.numR4 (h : Sep w0 w L) (x : Int) (h0 : 0 ≤ x) :
    Calls Tryd.prog 41 #[.int .i64 x, .int .i64 4] w fun e w' => ∃ v, e = .returned v ∧ Sep w0 w' (ownT (Kd.int .u8) 5 v (fixL x.toNat 4) :: L) := h.numR x 4 (by decide) h0
theorem Sep.numR8 (h : Sep w0 w L) (x : Int) (h0 : 0 ≤ x) :
    Calls Tryd.prog 41 #[.int .i64 x, .int .i64 8] w fun e w' => ∃ v, e = .returned v ∧ Sep w0 w' (ownT (Kd.int .u8) 5 v (fixL x.toNat 8) :: L) := h.numR x 8 (by decide) h0
theorem Sep.sumR {v : Value} {b : List Int} (h : Sep w0 w (ownT (Kd.int .u8) 5 v b :: L)) (hb : bytes_ b) (hl : b.length ≤ 1000000) :
    Calls Tryd.prog 43 #[v] w fun e w' => e = .returned (.int .u32 ((crc b : Nat) : Int)) ∧ Sep w0 w' (ownT (Kd.int .u8) 5 v b :: L) := by
  obtain ⟨k, hk⟩ := sumR_f hb hl
  obtain ⟨base, ok, hr⟩ := h.own
  obtain ⟨A, c, rfl⟩ := Kd.R_slice hr
  refine (kilnref1_Sum.calls k ok A c b _ w (Kd.R_V hr) hk).mono ?_
  rintro e w' ⟨he, hbl⟩
  exact ⟨he, h.step hbl⟩
end
set_option maxHeartbeats 8000000 in
set_option maxRecDepth 100000 in
theorem Sep.refR {w0 w : World} {L : List Th} (hsep : Sep w0 w L) (h : List Int) (f l : Int) (hh : h.length = 32) (hf : 0 ≤ f) (hl : 0 ≤ l) :
    Calls Tryd.prog 42 #[.agg (refV h f l).toArray] w fun e w' => ∃ v', e = .returned v' ∧ Sep w0 w' (ownT (Kd.int .u8) 5 v' (refB h f l) :: L) := by
  have HS0 := Aside0.mk ((hsep.push_alloc (refV h f l).toArray 25).push_nil (Kd.int .u8) 5)
  have HH := Aside0.mk hh
  have HF := Aside0.mk (And.intro hf hl)
  have HRf := Aside0.mk (show (refV h f l)[32]? = some (.int .i64 f) from by have := refV_f hh f l []; rwa [List.append_nil] at this)
  have HRl := Aside0.mk (show (refV h f l)[33]? = some (.int .i64 l) from by have := refV_l hh f l []; rwa [List.append_nil] at this)
  have HRh := Aside0.mk (fun (i : Nat) (hi : i < 32) => (show (refV h f l)[i]? = some (.int .u8 (h.getD i 0)) from by unfold refV nums; rw [List.getElem?_append_left (by rw [List.length_map]; omega), List.getElem?_map, List.getElem?_eq_getElem (by omega)]; simp [List.getD_eq_getElem?_getD, List.getElem?_eq_getElem (show i < h.length by omega)]))
  clear hsep hh hf hl
  generalize hcr : refV h f l = cr at HS0 HRf HRl HRh ⊢
  clear hcr
  go_enter Tryd.func42, Tryd.ntmps42
  go_upto_region 2 with (fail)
  generalize w.alloc (.cells cr.toArray 25) = w1 at HS0 ⊢
  generalize w.heap.size = gr at HS0 ⊢
  go_wp2
  go_loopg [3, 4] 32 (fun kq v3 v4 wr => ∃ i : Nat, v4 = .int .i64 i ∧ Aside0 (i + kq = 32) ∧ Aside0 (Sep w0 wr (ownT (Kd.int .u8) 5 v3 (h.take i) :: cellsT gr cr.toArray 25 :: L)))
  case atStart => exact ⟨0, rfl, ⟨rfl⟩, HS0⟩
  case round =>
    obtain ⟨i, rfl, HJ, hS⟩ := hrel
    clear HS0
    by_cases hi : i < 32
    · have hi1 : (i : Int) < 32 := by omega
      have t0 : decide ((i : Int) < 32) = true := decide_eq_true hi1
      have x0 : wr.cell? ⟨gr, i, none⟩ = some (.int .u8 (h.getD i 0)) := cell_at hS.out.up1.cells.1 i (HRh.out i hi)
      have HI := Aside0.mk hi
      go_wp2_with ((with_reducible refine gate_builtin (b := .append) (xs := #[.tmp 9, .tmp 14]) rfl ?_); refine Sep.app_one rfl _ _ rfl (h.getD i 0) rfl rfl hS.out ?aL1 ?_; (case aL1 => have := HI.out; have := HH.out; rw [List.length_take]; omega); intro v1 w2 h1; have HS1 := Aside0.mk h1; clear h1)
      go_roundg (gk - 1)
      case measure => have := HJ.out; omega
      case rel => exact ⟨i + 1, rfl, ⟨by have := HJ.out; omega⟩, ⟨by have := HS1.out; rwa [← take_snoc h 0 (show i < h.length by have := HH.out; have := HI.out; omega)] at this⟩⟩
    · have hi3 : i = 32 := by have := HJ.out; omega
      subst hi3
      have HSa := Aside0.mk (show Sep w0 wr (ownT (Kd.int .u8) 5 _ h :: cellsT gr cr.toArray 25 :: L) from by have := hS.out; rwa [List.take_of_length_le (by have := HH.out; omega)] at this)
      clear hS HRh
      have x1 : wr.cell? ⟨gr, 32, none⟩ = some (.int .i64 f) := cell_at HSa.out.up1.cells.1 32 HRf.out
      go_upto_region 7 with (first
        | (go_at_call 41; (with_reducible refine (Sep.numR4 HSa.out f HF.out.1).mono ?_); rintro e w3 ⟨v2, rfl, h2⟩; have HS2 := Aside0.mk h2; clear h2 x1)
        | ((with_reducible refine gate_builtin (b := .append) (xs := #[.tmp 16, .tmp 19]) rfl ?_); refine Sep.app_own rfl _ _ rfl rfl rfl HS2.out.up1 ?aL2 ?_; (case aL2 => have := HH.out; rw [fixL_len]; omega); intro v3 w4 h3; have HS3 := Aside0.mk h3; clear h3))
      have HS5 := Aside0.mk HS3.out.up1.drop
      clear HS3 HS2 HSa
      have x2 : w4.cell? ⟨gr, 33, none⟩ = some (.int .i64 l) := cell_at HS5.out.up1.cells.1 33 HRl.out
      go_wp2_with (first
        | (go_at_call 41; (with_reducible refine (Sep.numR4 HS5.out l HF.out.2).mono ?_); rintro e w5 ⟨v4, rfl, h4⟩; have HS6 := Aside0.mk h4; clear h4 x2)
        | ((with_reducible refine gate_builtin (b := .append) (xs := #[.tmp 21, .tmp 24]) rfl ?_); refine Sep.app_own rfl _ _ rfl rfl rfl HS6.out.up1 ?aL3 ?_; (case aL3 => have := HH.out; rw [fixL_len, List.length_append, fixL_len]; omega); intro v5 w6 h5; have HS7 := Aside0.mk h5; clear h5))
      go_ret
      exact ⟨_, rfl, by have := HS7.out.up1.drop.up1.drop; unfold refB; rwa [List.append_assoc] at this⟩
end Go.Proofs.YtaflofcnjakaaaaDoor.M

namespace Go.Proofs.YtaflofcnjakaaaaDoor.M
open Go.RowKit Go.Maps Go.Proofs.YtaflofcnjakaaaaDoorW.PrintWords Go.Proofs.YtaflofcnjakaaaaDoorW.PrintLast Go.Proofs.YtaflofcnjakaaaaDoorW.PrintMore Go.Proofs.YtaflofcnjakaaaaDoor.Wr Go.Proofs.YtaflofcnjakaaaaDoor.Pl Go.Proofs.YtaflofcnjakaaaaDoor.P Go.Proofs.YtaflofcnjakaaaaDoor.A
set_option linter.unusedVariables false
set_option linter.unusedSimpArgs false
def inB (a lo hi : Int) : Bool := decide (lo ≤ a) && decide (a ≤ hi)
theorem within_calls (a lo hi : Int) (w : World) : Calls Tryd.prog 64 #[.int .i64 a, .int .i64 lo, .int .i64 hi] w fun e w' => e = .returned (.bool (inB a lo hi)) ∧ Below w.heap.size w w' := by
  refine (kilnref18_within.calls a lo hi (inB a lo hi) w (by unfold kilnref18_within.f inB; by_cases h : lo ≤ a; · rw [if_pos h, decide_eq_true h]; simp
                                                             · rw [if_neg h, decide_eq_false h]; rfl)).mono ?_
  rintro e w' ⟨rfl, hd⟩
  exact ⟨rfl, hd.below⟩
set_option maxHeartbeats 8000000 in
set_option maxRecDepth 100000 in
theorem refs65_calls (s : SL) (hs : s.Ok) (h : List Int) (f l : Int) (hh : h.length = 32) (w : World) (hb : -1000000 ≤ s.b ∧ s.b ≤ 1000000) (ha : -1000000 ≤ s.a ∧ s.a ≤ 1000000) :
    Calls Tryd.prog 65 #[.agg s.V.toArray, .agg (refV h f l).toArray] w fun e w' => e = .returned (.bool (refM s f l)) ∧ Below w.heap.size w w' := by
  have HS := Aside0.mk (SlAt.mk (heap_alloc_new w (.cells s.V.toArray 27)) hs)
  have HB0 := Aside0.mk (below_alloc (Below.refl w.heap.size w) (.cells s.V.toArray 27))
  have HR := Aside0.mk (fun W => heap_alloc_new W (.cells (refV h f l).toArray 25))
  have HF := Aside0.mk (show ∀ (W : World) (g : Nat), W.heap[g]? = some (.cells (refV h f l).toArray 25 (0, 0)) → W.cell? ⟨g, 32, none⟩ = some (.int .i64 f) ∧ W.cell? ⟨g, 33, none⟩ = some (.int .i64 l) from fun W g hg => by
    have r32 := refV_f hh f l []
    have r33 := refV_l hh f l []
    rw [List.append_nil] at r32 r33
    exact ⟨cell_at hg 32 r32, cell_at hg 33 r33⟩)
  have hb1 := hb.1
  have hb2 := hb.2
  have ha1 := ha.1
  have ha2 := ha.2
  have HM := Aside0.mk (show refM s f l = (inB f (2 + s.b) (s.a - 1) && inB l 0 1048576) from by
    unfold refM inB
    rw [show decide (f ≤ s.a - 1) = decide (f < s.a) from decide_eq_decide.2 (by omega), Bool.and_assoc])
  have HW1 := Aside0.mk (fun W => within_calls f (2 + s.b) (s.a - 1) W)
  have HW2 := Aside0.mk (fun W => within_calls l 0 1048576 W)
  clear hb ha hh hs
  generalize (refV h f l).toArray = cr at HR HF ⊢
  generalize hV : s.V.toArray = V at HB0 ⊢
  rw [hV] at HS
  clear hV
  generalize refM s f l = rm at HM ⊢
  generalize inB f (2 + s.b) (s.a - 1) = b1 at HM HW1
  generalize inB l 0 1048576 = b2 at HM HW2
  go_enter Tryd.func65, Tryd.ntmps65
  go_upto_region 1 with (fail)
  have HB := Aside0.mk (below_alloc HB0.out (.cells cr 25))
  have x0 := (HS.out.below (below_alloc (Below.refl _ _) (.cells cr 25))).c0
  have x1 := (HS.out.below (below_alloc (Below.refl _ _) (.cells cr 25))).c1
  have x2 := (HF.out _ _ (HR.out (w.alloc (.cells V 27)))).1
  have x3 := (HF.out _ _ (HR.out (w.alloc (.cells V 27)))).2
  have hsz : (w.alloc (.cells V 27)).heap.size = w.heap.size + 1 := by show (w.heap.push _).size = _; simp
  rw [hsz] at x2 x3
  generalize (w.alloc (.cells V 27)).alloc (.cells cr 25) = w1 at HB x0 x1 x2 x3 ⊢
  clear hsz HS HB0 HR HF
  cases b1 with
  | false =>
    go_wp2_with (go_at_call 64; (with_reducible refine (HW1.out _).mono ?_); rintro e w2 ⟨rfl, hb⟩; have HB2 := Aside0.mk (below_step HB.out hb); clear hb)
    go_ret
    exact ⟨by rw [HM.out]; rfl, HB2.out⟩
  | true =>
    go_wp2_with (first
      | (go_at_call 64; (with_reducible refine (HW1.out _).mono ?_); rintro e w2 ⟨rfl, hb⟩; have HB2 := Aside0.mk (below_step HB.out hb); have y3 := pw_cell_below hb x3; clear hb x0 x1 x2 x3 HW1)
      | (go_at_call 64; (with_reducible refine (HW2.out _).mono ?_); rintro e w3 ⟨rfl, hb⟩; have HB3 := Aside0.mk (below_step HB2.out hb); clear hb))
    go_ret
    exact ⟨by rw [HM.out]; rfl, HB3.out⟩
set_option maxHeartbeats 16000000 in
set_option maxRecDepth 100000 in
theorem may40_calls (s : SL) (hs : s.Ok) (w : World) : Calls Tryd.prog 40 #[.agg s.V.toArray] w fun e w' => e = .returned (.bool (mayM s)) ∧ Below w.heap.size w w' := by
  have HB := Aside0.mk (below_alloc (Below.refl w.heap.size w) (.cells s.V.toArray 27))
  have HS := Aside0.mk (SlAt.mk (heap_alloc_new w (.cells s.V.toArray 27)) hs)
  have HM := Aside0.mk (show mayM s = (inB s.a 2 65536 && (inB s.b 8 1024 && (!(decide (s.a < 4 + s.b)) && (inB s.c 0 1099511627776 && (inB s.d 0 1099511627776 && (inB s.e 0 1099511627776 && (refM s s.rf s.rl && refM s s.mf s.ml))))))) from by
    unfold mayM headM cntM inB
    rw [show (!(decide (s.a < 4 + s.b))) = decide (4 + s.b ≤ s.a) from by rw [← decide_not]; exact decide_eq_decide.2 (by omega)]
    simp only [Bool.and_assoc])
  have HA := Aside0.mk (show inB s.a 2 65536 = true → 2 ≤ s.a ∧ s.a ≤ 65536 from fun h => by unfold inB at h; simpa using h)
  have HBB := Aside0.mk (show inB s.b 8 1024 = true → 8 ≤ s.b ∧ s.b ≤ 1024 from fun h => by unfold inB at h; simpa using h)
  have HF1 := Aside0.mk (fun (hb : -1000000 ≤ s.b ∧ s.b ≤ 1000000) (ha : -1000000 ≤ s.a ∧ s.a ≤ 1000000) W => refs65_calls s hs s.rh s.rf s.rl hs.r W hb ha)
  have HF2 := Aside0.mk (fun (hb : -1000000 ≤ s.b ∧ s.b ≤ 1000000) (ha : -1000000 ≤ s.a ∧ s.a ≤ 1000000) W => refs65_calls s hs s.mh s.mf s.ml hs.m W hb ha)
  have HW1 := Aside0.mk (fun W => within_calls s.a 2 65536 W)
  have HW2 := Aside0.mk (fun W => within_calls s.b 8 1024 W)
  have HW3 := Aside0.mk (fun W => within_calls s.c 0 1099511627776 W)
  have HW4 := Aside0.mk (fun W => within_calls s.d 0 1099511627776 W)
  have HW5 := Aside0.mk (fun W => within_calls s.e 0 1099511627776 W)
  have HSA := Aside0.mk (SlAt.sa hs)
  have HSR := Aside0.mk (SlAt.sr hs)
  have HSM := Aside0.mk (SlAt.sm hs)
  clear hs
  have HCUT := Aside0.mk (show ∀ (e : Ending) (w' : World) (b : Bool), e = .returned (.bool b) → b = mayM s → Below w.heap.size w w' → e = .returned (.bool (mayM s)) ∧ Below w.heap.size w w' from fun e w' b he hb hw => ⟨by rw [he, hb], hw⟩)
  generalize hV : s.V.toArray = V at HB HF1 HF2 HSA ⊢
  rw [hV] at HS
  have HLD := Aside0.mk (fun W (h : SlAt W w.heap.size s) => (show ∀ j v, V.toList[j]? = some v → W.cell? ((⟨w.heap.size, 0, none⟩ : Addr).add j) = some v from by rw [← hV]; exact h.all))
  go_enter Tryd.func40, Tryd.ntmps40
  go_upto_region 1 with (fail)
  clear hV
  generalize w.alloc (.cells V 27) = w1 at HB HS ⊢
  generalize w.heap.size = gb at HS HLD ⊢

  generalize inB s.a 2 65536 = c1 at HM HA HW1
  generalize inB s.b 8 1024 = c2 at HM HBB HW2
  generalize inB s.c 0 1099511627776 = c3 at HM HW3
  generalize inB s.d 0 1099511627776 = c4 at HM HW4
  generalize inB s.e 0 1099511627776 = c5 at HM HW5
  generalize refM s s.rf s.rl = r1 at HM HF1
  generalize refM s s.mf s.ml = r2 at HM HF2
  have x0 := HS.out.c0
  cases c1 with
  | false =>
    go_wp2_with (go_at_call 64; (with_reducible refine (HW1.out _).mono ?_); rintro e w2 ⟨rfl, hb⟩; have HB1 := Aside0.mk (below_step HB.out hb); have HS1 := Aside0.mk (HS.out.below hb); have x1 := HS1.out.c1; clear hb HW1 HB HS x0)
    go_ret
    exact HCUT.out _ _ false rfl (by rw [HM.out]; rfl) HB1.out
  | true =>
    cases c2 with
    | false =>
      go_wp2_with (first | (go_at_call 64; (with_reducible refine (HW1.out _).mono ?_); rintro e w2 ⟨rfl, hb⟩; have HB1 := Aside0.mk (below_step HB.out hb); have HS1 := Aside0.mk (HS.out.below hb); have x1 := HS1.out.c1; clear hb HW1 HB HS x0) | (go_at_call 64; (with_reducible refine (HW2.out _).mono ?_); rintro e w3 ⟨rfl, hb⟩; have HB2 := Aside0.mk (below_step HB1.out hb); have HS2 := Aside0.mk (HS1.out.below hb); have x2 := HS2.out.c0; have x3 := HS2.out.c1; clear hb HW2 HB1 HS1 x1))
      go_ret
      exact HCUT.out _ _ false rfl (by rw [HM.out]; rfl) HB2.out
    | true =>
      obtain ⟨hb1, hb2⟩ := HBB.out rfl
      obtain ⟨ha1, ha2⟩ := HA.out rfl
      have HG1 := Aside0.mk (HF1.out (by omega) (by omega))
      have HG2 := Aside0.mk (HF2.out (by omega) (by omega))
      clear HF1 HF2 HA HBB
      by_cases h4 : s.a < 4 + s.b
      · have t4 : decide (s.a < 4 + s.b) = true := decide_eq_true h4
        rw [t4] at HM
        go_wp2_with (first | (go_at_call 64; (with_reducible refine (HW1.out _).mono ?_); rintro e w2 ⟨rfl, hb⟩; have HB1 := Aside0.mk (below_step HB.out hb); have HS1 := Aside0.mk (HS.out.below hb); have x1 := HS1.out.c1; clear hb HW1 HB HS x0) | (go_at_call 64; (with_reducible refine (HW2.out _).mono ?_); rintro e w3 ⟨rfl, hb⟩; have HB2 := Aside0.mk (below_step HB1.out hb); have HS2 := Aside0.mk (HS1.out.below hb); have x2 := HS2.out.c0; have x3 := HS2.out.c1; clear hb HW2 HB1 HS1 x1))
        go_ret
        exact HCUT.out _ _ false rfl (by rw [HM.out]; rfl) HB2.out
      · have t4 : decide (s.a < 4 + s.b) = false := decide_eq_false h4
        rw [t4] at HM
        go_upto_region 3 with (first | (go_at_call 64; (with_reducible refine (HW1.out _).mono ?_); rintro e w2 ⟨rfl, hb⟩; have HB1 := Aside0.mk (below_step HB.out hb); have HS1 := Aside0.mk (HS.out.below hb); have x1 := HS1.out.c1; clear hb HW1 HB HS x0) | (go_at_call 64; (with_reducible refine (HW2.out _).mono ?_); rintro e w3 ⟨rfl, hb⟩; have HB2 := Aside0.mk (below_step HB1.out hb); have HS2 := Aside0.mk (HS1.out.below hb); have x2 := HS2.out.c0; have x3 := HS2.out.c1; clear hb HW2 HB1 HS1 x1))
        clear x2 x3 t4 h4
        have x4 := HS2.out.c2
        cases c3 with
        | false =>
          go_wp2_with (go_at_call 64; (with_reducible refine (HW3.out _).mono ?_); rintro e w4 ⟨rfl, hb⟩; have HB3 := Aside0.mk (below_step HB2.out hb); have HS3 := Aside0.mk (HS2.out.below hb); have x5 := HS3.out.c3; clear hb HW3 HB2 HS2 x4)
          go_ret
          exact HCUT.out _ _ false rfl (by rw [HM.out]; rfl) HB3.out
        | true =>
          cases c4 with
          | false =>
            go_wp2_with (first | (go_at_call 64; (with_reducible refine (HW3.out _).mono ?_); rintro e w4 ⟨rfl, hb⟩; have HB3 := Aside0.mk (below_step HB2.out hb); have HS3 := Aside0.mk (HS2.out.below hb); have x5 := HS3.out.c3; clear hb HW3 HB2 HS2 x4) | (go_at_call 64; (with_reducible refine (HW4.out _).mono ?_); rintro e w5 ⟨rfl, hb⟩; have HB4 := Aside0.mk (below_step HB3.out hb); have HS4 := Aside0.mk (HS3.out.below hb); have x6 := HS4.out.c4; clear hb HW4 HB3 HS3 x5))
            go_ret
            exact HCUT.out _ _ false rfl (by rw [HM.out]; rfl) HB4.out
          | true =>
            cases c5 with
            | false =>
              go_wp2_with (first | (go_at_call 64; (with_reducible refine (HW3.out _).mono ?_); rintro e w4 ⟨rfl, hb⟩; have HB3 := Aside0.mk (below_step HB2.out hb); have HS3 := Aside0.mk (HS2.out.below hb); have x5 := HS3.out.c3; clear hb HW3 HB2 HS2 x4) | (go_at_call 64; (with_reducible refine (HW4.out _).mono ?_); rintro e w5 ⟨rfl, hb⟩; have HB4 := Aside0.mk (below_step HB3.out hb); have HS4 := Aside0.mk (HS3.out.below hb); have x6 := HS4.out.c4; clear hb HW4 HB3 HS3 x5) | (go_at_call 64; (with_reducible refine (HW5.out _).mono ?_); rintro e w6 ⟨rfl, hb⟩; have HB5 := Aside0.mk (below_step HB4.out hb); have HS5 := Aside0.mk (HS4.out.below hb); clear hb HW5 HB4 HS4 x6))
              go_ret
              exact HCUT.out _ _ false rfl (by rw [HM.out]; rfl) HB5.out
            | true =>
              go_upto_region 5 with (first | (go_at_call 64; (with_reducible refine (HW3.out _).mono ?_); rintro e w4 ⟨rfl, hb⟩; have HB3 := Aside0.mk (below_step HB2.out hb); have HS3 := Aside0.mk (HS2.out.below hb); have x5 := HS3.out.c3; clear hb HW3 HB2 HS2 x4) | (go_at_call 64; (with_reducible refine (HW4.out _).mono ?_); rintro e w5 ⟨rfl, hb⟩; have HB4 := Aside0.mk (below_step HB3.out hb); have HS4 := Aside0.mk (HS3.out.below hb); have x6 := HS4.out.c4; clear hb HW4 HB3 HS3 x5) | (go_at_call 64; (with_reducible refine (HW5.out _).mono ?_); rintro e w6 ⟨rfl, hb⟩; have HB5 := Aside0.mk (below_step HB4.out hb); have HS5 := Aside0.mk (HS4.out.below hb); clear hb HW5 HB4 HS4 x6))
              cases r1 with
              | false =>
                go_wp2_with (first | ((with_reducible refine gate_load (ty := 27) rfl ?_); refine wpList_ldw ?_ 27 _ rfl ⟨gb, 0, none⟩ ?_ V _ (HLD.out _ HS5.out) Tryd.underlying27 rfl HSA.out ?_; exact rfl; exact rfl; skip) | ((with_reducible refine gate_load (ty := 25) rfl ?_); refine wpList_ldw ?_ 25 _ rfl ⟨gb, 37, none⟩ ?_ (refV s.rh s.rf s.rl).toArray _ HS5.out.root Tryd.underlying25 rfl HSR.out ?_; exact rfl; exact rfl; skip) | (go_at_call 65; (with_reducible refine (HG1.out _).mono ?_); rintro e w7 ⟨rfl, hb⟩; have HB6 := Aside0.mk (below_step HB5.out hb); have HS6 := Aside0.mk (HS5.out.below hb); clear hb HG1))
                go_ret
                exact HCUT.out _ _ false rfl (by rw [HM.out]; rfl) HB6.out
              | true =>
                go_wp2_with (first | ((with_reducible refine gate_load (ty := 27) rfl ?_); refine wpList_ldw ?_ 27 _ rfl ⟨gb, 0, none⟩ ?_ V _ (HLD.out _ HS5.out) Tryd.underlying27 rfl HSA.out ?_; exact rfl; exact rfl; skip) | ((with_reducible refine gate_load (ty := 25) rfl ?_); refine wpList_ldw ?_ 25 _ rfl ⟨gb, 37, none⟩ ?_ (refV s.rh s.rf s.rl).toArray _ HS5.out.root Tryd.underlying25 rfl HSR.out ?_; exact rfl; exact rfl; skip) | (go_at_call 65; (with_reducible refine (HG1.out _).mono ?_); rintro e w7 ⟨rfl, hb⟩; have HB6 := Aside0.mk (below_step HB5.out hb); have HS6 := Aside0.mk (HS5.out.below hb); clear hb HG1) | ((with_reducible refine gate_load (ty := 27) rfl ?_); refine wpList_ldw ?_ 27 _ rfl ⟨gb, 0, none⟩ ?_ V _ (HLD.out _ HS6.out) Tryd.underlying27 rfl HSA.out ?_; exact rfl; exact rfl; skip) | ((with_reducible refine gate_load (ty := 25) rfl ?_); refine wpList_ldw ?_ 25 _ rfl ⟨gb, 71, none⟩ ?_ (refV s.mh s.mf s.ml).toArray _ HS6.out.memo Tryd.underlying25 rfl HSM.out ?_; exact rfl; exact rfl; skip) | (go_at_call 65; (with_reducible refine (HG2.out _).mono ?_); rintro e w8 ⟨rfl, hb⟩; have HB7 := Aside0.mk (below_step HB6.out hb); clear hb))
                go_ret
                exact HCUT.out _ _ r2 rfl (by rw [HM.out]; rfl) HB7.out
end Go.Proofs.YtaflofcnjakaaaaDoor.M

namespace Go.Proofs.YtaflofcnjakaaaaDoor.M
open Go.RowKit Go.Maps Go.Proofs.YtaflofcnjakaaaaDoorW.PrintWords Go.Proofs.YtaflofcnjakaaaaDoorW.PrintLast Go.Proofs.YtaflofcnjakaaaaDoorW.PrintMore Go.Proofs.YtaflofcnjakaaaaDoor.Wr Go.Proofs.YtaflofcnjakaaaaDoor.Pl Go.Proofs.YtaflofcnjakaaaaDoor.P Go.Proofs.YtaflofcnjakaaaaDoor.A
set_option linter.unusedVariables false
set_option linter.unusedSimpArgs false
theorem Sep.push_lit {w0 w : World} {L : List Th} (h : Sep w0 w L) (xs : List Int) (n : Nat) (hn : xs.length = n) (hl : n ≤ 9223372036854775807) : Sep w0 (w.alloc (.cells (nums .u8 xs).toArray 5)) (ownT (Kd.int .u8) 5 (.slice (some ⟨w.heap.size, 0, none⟩) n n) xs :: L) := by
  subst hn
  refine h.push_own (ok := fun _ => True) (Kd.R_of_own ?_ (fun _ _ => trivial)) (below_alloc (Below.refl _ _) _)
  have h2 := World.ownsRow_lit (base := w.heap.size) (e := 5) (size := 1) w (nums .u8 xs).toArray xs.length (Nat.le_refl _) (by simpa [maxLen] using hl) (by simp [nums_length])
  have h3 : (w.alloc (.cells (nums .u8 xs).toArray 5)).ownsRow w.heap.size 5 1 (.slice (some ⟨w.heap.size, 0, none⟩) xs.length xs.length) xs.length (nums .u8 xs) := by simpa using h2
  exact h3
theorem getD_key {s : SL} (hs : s.Ok) (i : Nat) (hi : i < 32) : s.V[5 + i]? = some (.int .u8 (s.key.getD i 0)) := by
  rw [get_drop, s.V_d5, List.getElem?_append_left (by rw [nums_length, hs.k]; exact hi)]
  unfold nums
  rw [List.getElem?_map, List.getElem?_eq_getElem (by rw [hs.k]; exact hi), List.getD_eq_getElem?_getD, List.getElem?_eq_getElem (by rw [hs.k]; exact hi)]
  rfl
set_option maxHeartbeats 8000000 in
set_option maxRecDepth 100000 in
theorem encodeR_no (s : SL) (hs : s.Ok) (hm : mayM s = false) (w : World) : Calls Tryd.prog 13 #[.agg s.V.toArray] w fun e w' => e = .returned (.tuple #[.slice none 0 0, .int .i64 180]) ∧ Below w.heap.size w w' := by
  have HS0 := Aside0.mk ((Sep.refl w).push_alloc s.V.toArray 27)
  have HMY := Aside0.mk (fun W => (show Calls Tryd.prog 40 #[.agg s.V.toArray] W (fun e w' => e = .returned (.bool false) ∧ Below W.heap.size W w') from by have h := may40_calls s hs W; rw [hm] at h; exact h))
  have HSZ := Aside0.mk (SlAt.sa hs)
  have HLV := Aside0.mk (fun W (M : List Th) g (h : Sep w W (cellsT g s.V.toArray 27 :: M)) => (show ∀ j v, s.V.toArray.toList[j]? = some v → W.cell? ((⟨g, 0, none⟩ : Addr).add j) = some v from fun j v hv => seg_at h.cells.1 0 s.V (by rw [List.drop_zero]; exact List.take_of_length_le (Nat.le_refl _)) j v (by simpa using hv)))
  clear hs hm
  generalize s.V.toArray = V at HS0 HMY HSZ HLV ⊢
  go_enter Tryd.func13, Tryd.ntmps13
  go_upto_region 1 with (fail)
  generalize w.alloc (.cells V 27) = w1 at HS0 ⊢
  generalize w.heap.size = g0 at HS0 ⊢
  go_wp2_with (first
    | ((with_reducible refine gate_load (ty := 27) rfl ?_); refine wpList_ldw ?_ 27 _ rfl ⟨g0, 0, none⟩ ?_ V _ (HLV.out _ _ _ HS0.out) Tryd.underlying27 rfl HSZ.out ?_; exact rfl; exact rfl; skip)
    | (go_at_call 40; (with_reducible refine (HMY.out _).mono ?_); rintro e w2 ⟨rfl, hb⟩; have HS2 := Aside0.mk (HS0.out.step hb); clear hb HS0))
  go_ret2
  exact ⟨rfl, HS2.out.below⟩
set_option maxHeartbeats 8000000 in
set_option maxRecDepth 100000 in
theorem Sep.encodeR {w0 w : World} {L : List Th} (hsep : Sep w0 w L) (s : SL) (hs : s.Ok) (hm : mayM s = true) :
    Calls Tryd.prog 13 #[.agg s.V.toArray] w fun e w' => ∃ A c, e = .returned (.tuple #[.slice A 512 c, .int .i64 0]) ∧ Sep w0 w' (ownT (Kd.int .u8) 5 (.slice A 512 c) (encB s) :: L) := by
  have HS0 := Aside0.mk (hsep.push_alloc s.V.toArray 27)
  have HOK := Aside0.mk hs
  have HMR := Aside0.mk ((may_iff s).1 hm)
  have HMY := Aside0.mk (fun W => (show Calls Tryd.prog 40 #[.agg s.V.toArray] W (fun e w' => e = .returned (.bool true) ∧ Below W.heap.size W w') from by have h := may40_calls s hs W; rw [hm] at h; exact h))
  have HSZ := Aside0.mk (SlAt.sa hs)
  have HLV := Aside0.mk (fun W (M : List Th) g (h : Sep w0 W (cellsT g s.V.toArray 27 :: M)) => (show ∀ j v, s.V.toArray.toList[j]? = some v → W.cell? ((⟨g, 0, none⟩ : Addr).add j) = some v from fun j v hv => seg_at h.cells.1 0 s.V (by rw [List.drop_zero]; exact List.take_of_length_le (Nat.le_refl _)) j v (by simpa using hv)))
  have HLF := Aside0.mk (fun W (M : List Th) g (h : Sep w0 W (cellsT g s.V.toArray 27 :: M)) => (show W.cell? ⟨g, 0, none⟩ = some (.int .i64 s.a) ∧ W.cell? ⟨g, 1, none⟩ = some (.int .i64 s.b) ∧ W.cell? ⟨g, 2, none⟩ = some (.int .i64 s.c) ∧ W.cell? ⟨g, 3, none⟩ = some (.int .i64 s.d) ∧ W.cell? ⟨g, 4, none⟩ = some (.int .i64 s.e) from
    have k := SlAt.mk h.cells.1 hs; ⟨k.c0, k.c1, k.c2, k.c3, k.c4⟩))
  have HLR := Aside0.mk (fun W (M : List Th) g (h : Sep w0 W (cellsT g s.V.toArray 27 :: M)) => (SlAt.mk h.cells.1 hs).root)
  have HLM := Aside0.mk (fun W (M : List Th) g (h : Sep w0 W (cellsT g s.V.toArray 27 :: M)) => (SlAt.mk h.cells.1 hs).memo)
  have HLK := Aside0.mk (fun W (M : List Th) g i (hi : i < 32) (h : Sep w0 W (cellsT g s.V.toArray 27 :: M)) => (show W.cell? ⟨g, 5 + i, none⟩ = some (.int .u8 (s.key.getD i 0)) from cell_at h.cells.1 (5 + i) (getD_key hs i hi)))
  have HSR := Aside0.mk (SlAt.sr hs)
  have HSM := Aside0.mk (SlAt.sm hs)
  have HPL := Aside0.mk (preB_len s)
  have HPB := Aside0.mk (preB_body s)
  have HBL := Aside0.mk (bodyB_len hs)
  have HCL := Aside0.mk (crc_lt (padB s))
  have HBY := Aside0.mk (bytes_padB hs)
  clear hsep hs hm
  generalize s.V.toArray = V at HS0 HMY HSZ HLV HLF HLR HLM HLK ⊢
  go_enter Tryd.func13, Tryd.ntmps13
  go_upto_region 1 with (fail)
  generalize w.alloc (.cells V 27) = w1 at HS0 ⊢
  generalize w.heap.size = g0 at HS0 ⊢
  go_upto_region 4 with (first
    | ((with_reducible refine gate_load (ty := 27) rfl ?_); refine wpList_ldw ?_ 27 _ rfl ⟨g0, 0, none⟩ ?_ V _ (HLV.out _ _ _ HS0.out) Tryd.underlying27 rfl HSZ.out ?_; exact rfl; exact rfl; skip)
    | (go_at_call 40; (with_reducible refine (HMY.out _).mono ?_); rintro e w2 ⟨rfl, hb⟩; have HS1 := Aside0.mk (HS0.out.step hb); clear hb HS0))
  have HSa := Aside0.mk (HS1.out.push_lit (preB s 0) 4 HPL.out.1 (by decide))
  clear HS1
  generalize w2.heap.size = g1 at HSa ⊢
  generalize hw3 : w2.alloc (.cells (nums .u8 (preB s 0)).toArray 5) = w3 at HSa
  have hw3' : w2.alloc (.cells #[.int .u8 107, .int .u8 105, .int .u8 108, .int .u8 110] 5) = w3 := hw3
  rw [hw3']
  clear hw3 hw3'
  have xf := (HLF.out _ _ _ HSa.out.up1).1
  go_upto_region 5 with (first
    | (go_at_call 41; (with_reducible refine (Sep.numR4 HSa.out s.a (by have := HMR.out.a1; omega)).mono ?_); rintro e w4a ⟨w4v, rfl, h2⟩; have HSab := Aside0.mk h2; clear h2 xf)
    | ((with_reducible refine gate_builtin (b := .append) (xs := #[.tmp 10, .tmp 13]) rfl ?_); refine Sep.app_own rfl _ _ rfl rfl rfl HSab.out.up1 ?aL ?_; (case aL => have := HPL.out.1; rw [fixL_len]; omega); intro w4u w4 h3; have HSac := Aside0.mk h3; clear h3))
  have HSb := Aside0.mk (show Sep w0 w4 (ownT (Kd.int .u8) 5 w4u (preB s 1) :: cellsT g0 V 27 :: L) from HSac.out.up1.drop)
  clear HSa HSab HSac
  have xf := (HLF.out _ _ _ HSb.out.up1).2.1
  go_upto_region 6 with (first
    | (go_at_call 41; (with_reducible refine (Sep.numR4 HSb.out s.b (by have := HMR.out.b1; omega)).mono ?_); rintro e w5a ⟨w5v, rfl, h2⟩; have HSbb := Aside0.mk h2; clear h2 xf)
    | ((with_reducible refine gate_builtin (b := .append) (xs := #[.tmp 15, .tmp 18]) rfl ?_); refine Sep.app_own rfl _ _ rfl rfl rfl HSbb.out.up1 ?aL ?_; (case aL => have := HPL.out.2.1; rw [fixL_len]; omega); intro w5u w5 h3; have HSbc := Aside0.mk h3; clear h3))
  have HSc := Aside0.mk (show Sep w0 w5 (ownT (Kd.int .u8) 5 w5u (preB s 2) :: cellsT g0 V 27 :: L) from HSbc.out.up1.drop)
  clear HSb HSbb HSbc
  have xf := (HLF.out _ _ _ HSc.out.up1).2.2.1
  go_upto_region 7 with (first
    | (go_at_call 41; (with_reducible refine (Sep.numR8 HSc.out s.c (by have := HMR.out.c.1; omega)).mono ?_); rintro e w6a ⟨w6v, rfl, h2⟩; have HScb := Aside0.mk h2; clear h2 xf)
    | ((with_reducible refine gate_builtin (b := .append) (xs := #[.tmp 20, .tmp 23]) rfl ?_); refine Sep.app_own rfl _ _ rfl rfl rfl HScb.out.up1 ?aL ?_; (case aL => have := HPL.out.2.2.1; rw [fixL_len]; omega); intro w6u w6 h3; have HScc := Aside0.mk h3; clear h3))
  have HSd := Aside0.mk (show Sep w0 w6 (ownT (Kd.int .u8) 5 w6u (preB s 3) :: cellsT g0 V 27 :: L) from HScc.out.up1.drop)
  clear HSc HScb HScc
  have xf := (HLF.out _ _ _ HSd.out.up1).2.2.2.1
  go_upto_region 8 with (first
    | (go_at_call 41; (with_reducible refine (Sep.numR8 HSd.out s.d (by have := HMR.out.d.1; omega)).mono ?_); rintro e w7a ⟨w7v, rfl, h2⟩; have HSdb := Aside0.mk h2; clear h2 xf)
    | ((with_reducible refine gate_builtin (b := .append) (xs := #[.tmp 25, .tmp 28]) rfl ?_); refine Sep.app_own rfl _ _ rfl rfl rfl HSdb.out.up1 ?aL ?_; (case aL => have := HPL.out.2.2.2.1; rw [fixL_len]; omega); intro w7u w7 h3; have HSdc := Aside0.mk h3; clear h3))
  have HSe := Aside0.mk (show Sep w0 w7 (ownT (Kd.int .u8) 5 w7u (preB s 4) :: cellsT g0 V 27 :: L) from HSdc.out.up1.drop)
  clear HSd HSdb HSdc
  have xf := (HLF.out _ _ _ HSe.out.up1).2.2.2.2
  go_upto_region 9 with (first
    | (go_at_call 41; (with_reducible refine (Sep.numR8 HSe.out s.e (by have := HMR.out.e.1; omega)).mono ?_); rintro e w8a ⟨w8v, rfl, h2⟩; have HSeb := Aside0.mk h2; clear h2 xf)
    | ((with_reducible refine gate_builtin (b := .append) (xs := #[.tmp 30, .tmp 33]) rfl ?_); refine Sep.app_own rfl _ _ rfl rfl rfl HSeb.out.up1 ?aL ?_; (case aL => have := HPL.out.2.2.2.2.1; rw [fixL_len]; omega); intro w8u w8 h3; have HSec := Aside0.mk h3; clear h3))
  have HSf := Aside0.mk (show Sep w0 w8 (ownT (Kd.int .u8) 5 w8u (preB s 5) :: cellsT g0 V 27 :: L) from HSec.out.up1.drop)
  clear HSe HSeb HSec
  clear HLF
  go_upto_region 9 with (fail)
  go_upto_region 10 with (fail)
  go_loopg [4, 5] 32 (fun kq v4 v5 wr => ∃ i : Nat, v5 = .int .i64 i ∧ Aside0 (i + kq = 32) ∧ Aside0 (Sep w0 wr (ownT (Kd.int .u8) 5 v4 (preB s 5 ++ s.key.take i) :: cellsT g0 V 27 :: L)))
  case atStart => exact ⟨0, rfl, ⟨rfl⟩, ⟨by rw [List.take_zero, List.append_nil]; exact HSf.out⟩⟩
  case round =>
    obtain ⟨i, rfl, HJ, hS⟩ := hrel
    clear HSf
    by_cases hi : i < 32
    · have hi1 : (i : Int) < 32 := by omega
      have t0 : decide ((i : Int) < 32) = true := decide_eq_true hi1
      have x0 : wr.cell? ⟨g0, 5 + i, none⟩ = some (.int .u8 (s.key.getD i 0)) := HLK.out _ _ _ i hi hS.out.up1
      have HI := Aside0.mk hi
      go_wp2_with ((with_reducible refine gate_builtin (b := .append) (xs := #[.tmp 39, .tmp 44]) rfl ?_); refine Sep.app_one rfl _ _ rfl (s.key.getD i 0) rfl rfl hS.out ?aL1 ?_; (case aL1 => have := HI.out; have := HOK.out.k; have := HPL.out.2.2.2.2.2; rw [List.length_append, List.length_take]; omega); intro v1 wk h1; have HS1 := Aside0.mk h1; clear h1)
      go_roundg (gk - 1)
      case measure => have := HJ.out; omega
      case rel => exact ⟨i + 1, rfl, ⟨by have := HJ.out; omega⟩, ⟨by have := HS1.out; rwa [List.append_assoc, ← take_snoc s.key 0 (show i < s.key.length by have := HOK.out.k; have := HI.out; omega)] at this⟩⟩
    · have hi3 : i = 32 := by have := HJ.out; omega
      subst hi3
      have HSg := Aside0.mk (show Sep w0 wr (ownT (Kd.int .u8) 5 _ (preB s 5 ++ s.key) :: cellsT g0 V 27 :: L) from by have := hS.out; rwa [List.take_of_length_le (show s.key.length ≤ 32 by have := HOK.out.k; omega)] at this)
      clear hS HLK
      go_upto_region 14 with (first
        | ((with_reducible refine gate_load (ty := 25) rfl ?_); refine wpList_ldw ?_ 25 _ rfl ⟨g0, 37, none⟩ ?_ (refV s.rh s.rf s.rl).toArray _ (HLR.out _ _ _ HSg.out.up1) Tryd.underlying25 rfl HSR.out ?_; exact rfl; exact rfl; skip)
        | (go_at_call 42; (with_reducible refine (Sep.refR HSg.out s.rh s.rf s.rl HOK.out.r (by have := HMR.out.r; have := HMR.out.b1; omega) (by have := HMR.out.r; have := HMR.out.b1; omega)).mono ?_); rintro e wa ⟨va, rfl, h2⟩; have HSh := Aside0.mk h2; clear h2)
        | ((with_reducible refine gate_builtin (b := .append) (xs := #[.tmp 46, .tmp 49]) rfl ?_); refine Sep.app_own rfl _ _ rfl rfl rfl HSh.out.up1 ?aL ?_; (case aL => have := HPL.out.2.2.2.2.2; have := HOK.out.k; rw [refB_len HOK.out.r, List.length_append]; omega); intro vb wb h3; have HSi := Aside0.mk h3.up1.drop; clear h3 HSg HSh))
      go_upto_region 15 with (first
        | ((with_reducible refine gate_load (ty := 25) rfl ?_); refine wpList_ldw ?_ 25 _ rfl ⟨g0, 71, none⟩ ?_ (refV s.mh s.mf s.ml).toArray _ (HLM.out _ _ _ HSi.out.up1) Tryd.underlying25 rfl HSM.out ?_; exact rfl; exact rfl; skip)
        | (go_at_call 42; (with_reducible refine (Sep.refR HSi.out s.mh s.mf s.ml HOK.out.m (by have := HMR.out.m; have := HMR.out.b1; omega) (by have := HMR.out.m; have := HMR.out.b1; omega)).mono ?_); rintro e wc ⟨vc, rfl, h2⟩; have HSj := Aside0.mk h2; clear h2)
        | ((with_reducible refine gate_builtin (b := .append) (xs := #[.tmp 51, .tmp 54]) rfl ?_); refine Sep.app_own rfl _ _ rfl rfl rfl HSj.out.up1 ?aL ?_; (case aL => have := HPL.out.2.2.2.2.2; have := HOK.out.k; rw [refB_len HOK.out.m, List.length_append, List.length_append, refB_len HOK.out.r]; omega); intro vd we h3; have HSk := Aside0.mk (show Sep w0 we (ownT (Kd.int .u8) 5 vd (bodyB s) :: cellsT g0 V 27 :: L) from by have := h3.up1.drop; rwa [HPB.out] at this); clear h3 HSi HSj))
      go_loopg [4] 360 (fun kq v4 wp => ∃ (j : Nat) (A : Option Addr) (c : Nat), v4 = .slice A (148 + j) c ∧ Aside0 (j + kq = 360) ∧ Aside0 (Sep w0 wp (ownT (Kd.int .u8) 5 (.slice A (148 + j) c) (bodyB s ++ List.replicate j 0) :: cellsT g0 V 27 :: L)))
      case atStart =>
        obtain ⟨A, c, hv⟩ := HSk.out.own_slice
        rw [HBL.out] at hv
        subst hv
        exact ⟨0, A, c, rfl, ⟨rfl⟩, ⟨by rw [List.replicate_zero, List.append_nil]; exact HSk.out⟩⟩
      case round =>
        obtain ⟨j, A, c, rfl, HJ, hS⟩ := hrel
        clear HSk
        by_cases hj : j < 360
        · have hj1 : (148 : Int) + (j : Int) < 508 := by omega
          have t0 : decide (((148 + j : Nat) : Int) < 508) = true := decide_eq_true (by omega)
          have t1 : decide ((148 : Int) + (j : Int) < 508) = true := decide_eq_true hj1
          have HI := Aside0.mk hj
          go_wp2_with ((with_reducible refine gate_builtin (b := .append) (xs := #[.tmp 59, .tmp 60]) rfl ?_); refine Sep.app_one rfl _ _ rfl 0 rfl rfl hS.out ?aL1 ?_; (case aL1 => have := HI.out; have := HBL.out; rw [List.length_append, List.length_replicate]; omega); intro v1 wk h1; have HS1 := Aside0.mk h1; clear h1)
          go_roundg (gk - 1)
          case measure => have := HJ.out; have := HI.out; omega
          case rel =>
            obtain ⟨A1, c1, hv⟩ := HS1.out.own_slice
            have hl : (bodyB s ++ List.replicate j 0 ++ [0]).length = 148 + (j + 1) := by rw [List.length_append, List.length_append, HBL.out, List.length_replicate]; rfl
            rw [hl] at hv
            subst hv
            exact ⟨j + 1, A1, c1, rfl, ⟨by have := HJ.out; have := HI.out; omega⟩, ⟨by have := HS1.out; rwa [List.append_assoc, ← List.replicate_succ'] at this⟩⟩
        · have hj3 : j = 360 := by have := HJ.out; omega
          subst hj3
          have HSl := Aside0.mk (show Sep w0 _ (ownT (Kd.int .u8) 5 (.slice A 508 c) (padB s) :: cellsT g0 V 27 :: L) from hS.out)
          clear hS
          have hc0 : (0 : Int) ≤ ((crc (padB s) : Nat) : Int) := by omega
          have hc1 : ((crc (padB s) : Nat) : Int) < 4294967296 := by have := HCL.out; omega
          go_wp2_with (first
            | (go_at_call 43; (with_reducible refine (Sep.sumR HSl.out HBY.out (by rw [padB_len HOK.out]; decide)).mono ?_); rintro e wq ⟨rfl, h2⟩; have HSm := Aside0.mk h2; clear h2 HSl)
            | (go_at_call 41; (with_reducible refine (Sep.numR4 HSm.out ((crc (padB s) : Nat) : Int) (by omega)).mono ?_); rintro e wq2 ⟨vq, rfl, h2⟩; have HSn := Aside0.mk h2; clear h2 HSm)
            | ((with_reducible refine gate_builtin (b := .append) (xs := #[.tmp 62, .tmp 66]) rfl ?_); refine Sep.app_own rfl _ _ rfl rfl rfl HSn.out.up1 ?aL ?_; (case aL => rw [fixL_len, padB_len HOK.out]; decide); intro vz wz h3; have HSo := Aside0.mk h3.up1.drop.up1.drop; clear h3 HSn))
          obtain ⟨A2, c2, hv⟩ := HSo.out.own_slice
          rw [List.length_append, padB_len HOK.out, fixL_len] at hv
          subst hv
          go_ret2
          exact ⟨A2, c2, rfl, HSo.out⟩
end Go.Proofs.YtaflofcnjakaaaaDoor.M

namespace Go.Proofs.YtaflofcnjakaaaaDoor.M
open Go.RowKit Go.Maps Go.Proofs.YtaflofcnjakaaaaDoorW.PrintWords Go.Proofs.YtaflofcnjakaaaaDoorW.PrintLast Go.Proofs.YtaflofcnjakaaaaDoorW.PrintMore Go.Proofs.YtaflofcnjakaaaaDoor.Wr Go.Proofs.YtaflofcnjakaaaaDoor.Pl Go.Proofs.YtaflofcnjakaaaaDoor.P Go.Proofs.YtaflofcnjakaaaaDoor.A
set_option linter.unusedVariables false
set_option linter.unusedSimpArgs false
theorem or8i {x : Nat} {c : Int} (hx : x < 256 ^ 7) (h0 : 0 ≤ c) (h1 : c < 256) : Go.bits .or .i64 (wrap64 (wrap64 (x : Int) * 256)) (wrap64 c) = wrap64 ((c.toNat + 256 * x : Nat) : Int) := by
  have hx : x < 72057594037927936 := hx
  have e1 : (BitVec.ofInt 64 (wrap64 (wrap64 (x : Int) * 256))).toNat = 256 * x := by
    rw [BitVec.toNat_ofInt]; unfold wrap64; omega
  have e2 : (BitVec.ofInt 64 (wrap64 c)).toNat = c.toNat := by
    rw [BitVec.toNat_ofInt]; unfold wrap64; omega
  have h2 := Nat.two_pow_add_eq_or_of_lt (b := c.toNat) (i := 8) (by omega) x
  simp only [show (2 : Nat) ^ 8 = 256 from rfl] at h2
  have key : (BitVec.ofInt 64 (wrap64 (wrap64 (x : Int) * 256)) ||| BitVec.ofInt 64 (wrap64 c)).toNat = c.toNat + 256 * x := by
    rw [BitVec.toNat_or, e1, e2, ← h2, Nat.add_comm]
  show IntKind.i64.wrap ((BitVec.ofInt 64 (wrap64 (wrap64 (x : Int) * 256)) ||| BitVec.ofInt 64 (wrap64 c)).toNat : Nat) = _
  rw [key, IntKind.wrap_i64]
  unfold wrap64
  omega
theorem readR_l0 : ∀ (i : Nat) (b : List Int) (at_ n k : Nat), bytes_ b → b.length ≤ 4611686018427387904 → at_ + n ≤ b.length → i ≤ n → n ≤ 8 → i < k →
    kilnref18_read.l0 k b (at_ : Int) (wrap64 ((leV ((b.drop (at_ + i)).take (n - i)) : Nat) : Int)) ((i : Int) - 1) = some (wrap64 ((leV ((b.drop at_).take n) : Nat) : Int)) := by
  intro i
  induction i with
  | zero =>
    intro b at_ n k hb hl hat hi hn hk
    obtain ⟨k, rfl⟩ : ∃ q, k = q + 1 := ⟨k - 1, by omega⟩
    simp only [kilnref18_read.l0]
    rw [if_neg (by omega)]; simp
  | succ i ih =>
    intro b at_ n k hb hl hat hi hn hk
    obtain ⟨k, rfl⟩ : ∃ q, k = q + 1 := ⟨k - 1, by omega⟩
    simp only [kilnref18_read.l0]
    obtain ⟨c, hd, hr, hc⟩ := rd_drop (show at_ + i < b.length by omega)
    have hc := hb c hc
    rw [show (((i + 1 : Nat) : Int) - 1) = (i : Int) by omega, w64 (x := (at_ : Int) + (i : Int)) (by omega) (by omega), if_pos (by omega), if_pos (by omega), if_pos (by omega), show ((at_ : Int) + (i : Int)) = ((at_ + i : Nat) : Int) by omega, hr, w64 (x := (i : Int) - 1) (by omega) (by omega)]
    have hlt : leV ((b.drop (at_ + (i + 1))).take (n - (i + 1))) < 256 ^ 7 := by
      have h1 := leV_lt _ (bytes_take (bytes_drop hb (at_ + (i + 1))) (n - (i + 1)))
      have h2 : ((b.drop (at_ + (i + 1))).take (n - (i + 1))).length ≤ 7 := by simp; omega
      exact Nat.lt_of_lt_of_le h1 (Nat.pow_le_pow_right (by decide) h2)
    rw [or8i hlt hc.1 hc.2]
    have e : c.toNat + 256 * leV ((b.drop (at_ + (i + 1))).take (n - (i + 1))) = leV ((b.drop (at_ + i)).take (n - i)) := by
      rw [hd, show n - i = (n - (i + 1)) + 1 by omega, List.take_succ_cons]; rfl
    rw [e]
    exact ih b at_ n k hb hl hat (by omega) hn (by omega)
theorem readR_f {b : List Int} (hb : bytes_ b) (hl : b.length = 512) (p n : Nat) (h8 : n ≤ 8) (hp : p + n ≤ 512) : kilnref18_read.f 9 b (p : Int) (n : Int) = some (numAt b p n) := by
  unfold kilnref18_read.f numAt
  have h := readR_l0 n b p n 9 hb (by omega) (by omega) (Nat.le_refl _) h8 (by omega)
  rw [w64 (by omega) (by omega)]
  have e : wrap64 ((leV ((b.drop (p + n)).take (n - n)) : Nat) : Int) = 0 := by rw [Nat.sub_self, List.take_zero]; simp [leV, wrap64]
  rw [e] at h
  exact h
section
variable {w0 w : World} {L M : List Th} {A : Option Addr} {c : Nat} {b : List Int}
theorem Sep.readR (h : Sep w0 w M) (hs : Sub L M) (hR : ReadsB w0 L A b) (hb : bytes_ b) (hl : b.length = 512) (hc : 512 ≤ c) (p n : Nat) (P N : Int) (hP : (p : Int) = P) (hN : (n : Int) = N) (h8 : n ≤ 8) (hp : p + n ≤ 512) :
    Calls Tryd.prog 67 #[.slice A 512 c, .int .i64 P, .int .i64 N] w fun e w' => e = .returned (.int .i64 (numAt b p n)) ∧ Sep w0 w' M := by
  subst hP hN
  have h1 := kilnref18_read.calls 9 A c b (p : Int) (n : Int) (numAt b p n) w (by rw [hl]; exact hR w M hs h) (by omega) (readR_f hb hl p n h8 hp)
  rw [hl] at h1
  refine h1.mono ?_
  rintro e w' ⟨rfl, hd⟩
  exact ⟨rfl, h.step hd.below⟩
end
theorem cell_any0 {w : World} {g ty : Nat} {cs : Array Value} (h : w.heap[g]? = some (.cells cs ty (0, 0))) (k : Nat) (hk : k < cs.size) : ∃ v, w.cell? ⟨g, k, none⟩ = some v :=
  ⟨cs[k], cell_at (cs := cs.toList) (by rw [Array.toArray_toList]; exact h) k (by rw [Array.getElem?_toList, Array.getElem?_eq_getElem hk])⟩
theorem fill_step (l : List Int) (n i : Nat) (hl : l.length = n) (hi : i < n) : (nums .u8 (l.take i ++ List.replicate (n - i) 0)).toArray.setIfInBounds i (.int .u8 (l.getD i 0)) = (nums .u8 (l.take (i + 1) ++ List.replicate (n - (i + 1)) 0)).toArray := by
  rw [List.setIfInBounds_toArray]
  congr 1
  unfold nums
  rw [← List.map_set, List.set_append_right _ _ (by rw [List.length_take]; omega), List.length_take, Nat.min_eq_left (by omega), Nat.sub_self, show n - i = (n - (i + 1)) + 1 by omega, List.replicate_succ, List.set_cons_zero, take_snoc l 0 (by omega), List.append_assoc]
  rfl
set_option maxHeartbeats 8000000 in
set_option maxRecDepth 100000 in
theorem Sep.keyR {w0 w : World} {L M : List Th} {A : Option Addr} {c : Nat} {b : List Int} (h : Sep w0 w M) (hs : Sub L M) (hR : ReadsB w0 L A b) (hl : b.length = 512) (hc : 512 ≤ c) (p : Nat) (P : Int) (hP : (p : Int) = P) (hp : p + 32 ≤ 512) :
    Calls Tryd.prog 68 #[.slice A 512 c, .int .i64 P] w fun e w' => e = .returned (.agg (nums .u8 (keyAt b p)).toArray) ∧ Sep w0 w' M := by
  subst hP
  obtain ⟨ad, rfl, _⟩ := (hR w M hs h).2.2 (by decide)
  have HCK := Aside0.mk (fun W (N : List Th) (hs : Sub L N) (h : Sep w0 W N) (i : Nat) (hi : i < 32) => (show W.cell? (ad.add (p + i)) = some (.int .u8 ((keyAt b p).getD i 0)) from by
    refine C_cells (hR W N hs h) (p + i) _ ?_
    unfold keyAt nums
    rw [List.getElem?_map, List.getElem?_eq_getElem (by omega), List.getD_eq_getElem?_getD, List.getElem?_take, if_pos hi, List.getElem?_drop, List.getElem?_eq_getElem (by omega)]
    rfl))
  have HKL := Aside0.mk (keyAt_len hl hp)
  have HPp := Aside0.mk hp
  have HCc := Aside0.mk hc
  generalize keyAt b p = ky at HCK HKL ⊢
  have HSZ := Aside0.mk (show (Tryd.prog.info? 23).map (·.size) = some (nums .u8 ky).toArray.size from size23 (by simpa [nums_length] using HKL.out))
  have HS0 := Aside0.mk h
  have HSub := Aside0.mk hs
  have hp1 : (p : Int) + 32 ≤ 512 := by omega
  clear h hR hl hs hc hp
  have hz := (zero_of_info (P := Tryd.prog) (t := 23) (v := .agg (nums .u8 (List.replicate 32 0)).toArray) (n := 32) (by kernel_rfl)).1
  generalize hZ : (nums .u8 (List.replicate 32 0)).toArray = Z at hz
  have HZ := Aside0.mk hZ
  clear hZ
  go_enter Tryd.func68, Tryd.ntmps68
  go_upto_region 2 with (fail)
  have HSa := Aside0.mk ((HS0.out.push_alloc Z 23).push_alloc Z 23)
  have hsz : (w.alloc (.cells Z 23)).heap.size = w.heap.size + 1 := by show (w.heap.push _).size = _; simp
  rw [hsz] at HSa
  generalize (w.alloc (.cells Z 23)).alloc (.cells Z 23) = w1 at HSa ⊢
  generalize hga : w.heap.size + 1 = ga at HSa ⊢
  generalize w.heap.size = gr at HSa ⊢
  clear hga hsz HS0 hz
  go_upto_region 3 with (fail)
  go_loopg [6] 32 (fun kq v6 wr => ∃ i : Nat, v6 = .int .i64 i ∧ Aside0 (i + kq = 32) ∧ Aside0 (Sep w0 wr (cellsT ga (nums .u8 (ky.take i ++ List.replicate (32 - i) 0)).toArray 23 :: cellsT gr Z 23 :: M)))
  case atStart => exact ⟨0, rfl, ⟨rfl⟩, ⟨by rw [List.take_zero, List.nil_append, HZ.out]; exact HSa.out⟩⟩
  case round =>
    obtain ⟨i, rfl, HJ, hS⟩ := hrel
    clear HSa
    by_cases hi : i < 32
    · have hi1 : (i : Int) < 32 := by omega
      have t0 : decide ((i : Int) < 32) = true := decide_eq_true hi1
      have x0 : wr.cell? (ad.add (p + i)) = some (.int .u8 (ky.getD i 0)) := HCK.out _ _ (Sub.c (Sub.c HSub.out)) hS.out i hi
      have x1 : wr.frozen? ⟨ga, i, none⟩ = false := blk_frozen hS.out.cells.1 i
      obtain ⟨u, x2⟩ := cell_any0 hS.out.cells.1 i (by simp [nums_length]; have := HKL.out; omega)
      have HI := Aside0.mk hi
      go_wp2
      go_roundg (gk - 1)
      case measure => have := HJ.out; omega
      case rel => exact ⟨i + 1, rfl, ⟨by have := HJ.out; omega⟩, ⟨by have := hS.out.cset i (.int .u8 (ky.getD i 0)); rwa [fill_step ky 32 i HKL.out HI.out] at this⟩⟩
    · have hi3 : i = 32 := by have := HJ.out; omega
      subst hi3
      have HSb := Aside0.mk (show Sep w0 wr (cellsT ga (nums .u8 ky).toArray 23 :: cellsT gr Z 23 :: M) from by have := hS.out; rwa [List.take_of_length_le (by have := HKL.out; omega), show 32 - 32 = 0 from rfl, List.replicate_zero, List.append_nil] at this)
      clear hS HCK
      go_wp2_with (first
        | ((with_reducible refine gate_load (ty := 23) rfl ?_); refine wpList_ldw ?_ 23 _ rfl ⟨ga, 0, none⟩ ?_ (nums .u8 ky).toArray _ (fun j v hv => seg_at HSb.out.cells.1 0 (nums .u8 ky) (by rw [List.drop_zero]; exact List.take_of_length_le (Nat.le_refl _)) j v (by simpa using hv)) Tryd.underlying23 rfl HSZ.out ?_; exact rfl; exact rfl; skip)
        | ((with_reducible refine gate_store (ty := 23) rfl ?_); refine Sep.store_own rfl 23 _ _ rfl rfl rfl HSb.out.up1 HSZ.out (show Z.size = (nums .u8 ky).toArray.size from by rw [← HZ.out]; simp [nums_length, HKL.out]) (nums_all ky) ?_; intro w4 h4; have HS4 := Aside0.mk h4; clear h4))
      refine bodyPost_ret (results_cell_row (p := 4) (ty := 23) rfl _ _ gr 23 (nums .u8 ky).toArray (0, 0) _ rfl HS4.out.cells.1 Tryd.underlying23 rfl HSZ.out) rfl ⟨rfl, ?_⟩
      exact HS4.out.drop.drop
end Go.Proofs.YtaflofcnjakaaaaDoor.M

namespace Go.Proofs.YtaflofcnjakaaaaDoor.M
open Go.RowKit Go.Maps Go.Proofs.YtaflofcnjakaaaaDoorW.PrintWords Go.Proofs.YtaflofcnjakaaaaDoorW.PrintLast Go.Proofs.YtaflofcnjakaaaaDoorW.PrintMore Go.Proofs.YtaflofcnjakaaaaDoor.Wr Go.Proofs.YtaflofcnjakaaaaDoor.Pl Go.Proofs.YtaflofcnjakaaaaDoor.P Go.Proofs.YtaflofcnjakaaaaDoor.A
set_option linter.unusedVariables false
set_option linter.unusedSimpArgs false
set_option maxHeartbeats 8000000 in
set_option maxRecDepth 100000 in
theorem Sep.refAt {w0 w : World} {L M : List Th} {A : Option Addr} {c : Nat} {b : List Int} (h : Sep w0 w M) (hs : Sub L M) (hR : ReadsB w0 L A b) (hb : bytes_ b) (hl : b.length = 512) (hc : 512 ≤ c) (p : Nat) (P : Int) (hP : (p : Int) = P) (hp : p + 40 ≤ 512) :
    Calls Tryd.prog 69 #[.slice A 512 c, .int .i64 P] w fun e w' => e = .returned (.agg (refV (keyAt b p) (numAt b (p + 32) 4) (numAt b (p + 36) 4)).toArray) ∧ Sep w0 w' M := by
  subst hP
  have HKY := Aside0.mk (fun W (N : List Th) (hs : Sub L N) (h : Sep w0 W N) => Sep.keyR h hs hR hl hc p (p : Int) rfl (by omega))
  have HN1 := Aside0.mk (fun W (N : List Th) (hs : Sub L N) (h : Sep w0 W N) => Sep.readR h hs hR hb hl hc (p + 32) 4 ((p : Int) + 32) 4 (by omega) rfl (by decide) (by omega))
  have HN2 := Aside0.mk (fun W (N : List Th) (hs : Sub L N) (h : Sep w0 W N) => Sep.readR h hs hR hb hl hc (p + 36) 4 ((p : Int) + 36) 4 (by omega) rfl (by decide) (by omega))
  have HKL := Aside0.mk (keyAt_len (b := b) hl (p := p) (by omega))
  generalize keyAt b p = ky at HKY HKL ⊢
  generalize numAt b (p + 32) 4 = n1 at HN1 ⊢
  generalize numAt b (p + 36) 4 = n2 at HN2 ⊢
  have HSZ := Aside0.mk (show (Tryd.prog.info? 25).map (·.size) = some (refV ky n1 n2).toArray.size from size25 (by simpa using refV_len HKL.out n1 n2))
  have HBL := Aside0.mk (built25 ky HKL.out n1 n2)
  have HAL := Aside0.mk (refV_all ky n1 n2)
  have hz := (zero_of_info (P := Tryd.prog) (t := 25) (v := .agg (refV z32 0 0).toArray) (n := 34) (by kernel_rfl)).1
  generalize hZ : (refV z32 0 0).toArray = Z at hz
  have HZs := Aside0.mk (show Z.size = (refV ky n1 n2).toArray.size from by rw [← hZ]; simp only [List.size_toArray]; rw [refV_len HKL.out, refV_len (by rfl)])
  have HS0 := Aside0.mk h
  have HSub := Aside0.mk hs
  have hp1 : (p : Int) + 40 ≤ 512 := by omega
  clear h hR hb hl hZ hs hp
  go_enter Tryd.func69, Tryd.ntmps69
  go_upto_region 1 with (fail)
  have HSa := Aside0.mk (HS0.out.push_alloc Z 25)
  generalize w.alloc (.cells Z 25) = w2 at HSa ⊢
  generalize w.heap.size = gr at HSa ⊢
  clear HS0 hz
  go_wp2_with (first
    | (go_at_call 68; (with_reducible refine (HKY.out _ _ (Sub.c HSub.out) HSa.out).mono ?_); rintro e w3 ⟨rfl, h3⟩; have HS3 := Aside0.mk h3; clear h3)
    | (go_at_call 67; (with_reducible refine (HN1.out _ _ (Sub.c HSub.out) HS3.out).mono ?_); rintro e w4 ⟨rfl, h4⟩; have HS4 := Aside0.mk h4; clear h4 HS3)
    | (go_at_call 67; (with_reducible refine (HN2.out _ _ (Sub.c HSub.out) HS4.out).mono ?_); rintro e w5 ⟨rfl, h5⟩; have HS5 := Aside0.mk h5; clear h5 HS4; rename_i hKK; refine hKK _ _ ?_; clear hKK; refine wpList_buildTo rfl 25 _ rfl (some 16) rfl (refV ky n1 n2).toArray ?aB ?_; (case aB => (simp only [List.map_toArray, List.map_cons, List.map_nil]; exact HBL.out)))
    | ((with_reducible refine gate_build (ty := 25) rfl ?_); refine wpList_buildTo rfl 25 _ rfl (some 16) rfl (refV ky n1 n2).toArray ?aB ?_; (case aB => (simp only [List.map_toArray, List.map_cons, List.map_nil]; exact HBL.out)))
    | ((with_reducible refine gate_store (ty := 25) rfl ?_); refine Sep.store_own rfl 25 _ _ rfl rfl rfl HS5.out HSZ.out HZs.out HAL.out ?_; intro w6 h6; have HS6 := Aside0.mk h6; clear h6))
  refine bodyPost_ret (results_cell_row (p := 4) (ty := 25) rfl _ _ gr 25 (refV ky n1 n2).toArray (0, 0) _ rfl HS6.out.cells.1 Tryd.underlying25 rfl HSZ.out) rfl ⟨rfl, ?_⟩
  exact HS6.out.drop
set_option maxRecDepth 100000 in
theorem built27f (ky : List Int) (h : ky.length = 32) (a b c d e : Int) (rh : List Int) (hr : rh.length = 32) (rf rl : Int) (mh : List Int) (hm : mh.length = 32) (mf ml : Int) : Tryd.prog.built 27 [(0, .int .i64 a), (1, .int .i64 b), (2, .int .i64 c), (3, .int .i64 d), (4, .int .i64 e), (5, .agg (nums .u8 ky).toArray), (6, .agg (refV rh rf rl).toArray), (7, .agg (refV mh mf ml).toArray)] = some (SL.V ⟨a, b, c, d, e, ky, rh, rf, rl, mh, mf, ml⟩).toArray := by
  obtain ⟨x0, x1, x2, x3, x4, x5, x6, x7, x8, x9, x10, x11, x12, x13, x14, x15, x16, x17, x18, x19, x20, x21, x22, x23, x24, x25, x26, x27, x28, x29, x30, x31, rfl⟩ := list32 ky h
  obtain ⟨y0, y1, y2, y3, y4, y5, y6, y7, y8, y9, y10, y11, y12, y13, y14, y15, y16, y17, y18, y19, y20, y21, y22, y23, y24, y25, y26, y27, y28, y29, y30, y31, rfl⟩ := list32 rh hr
  obtain ⟨z0, z1, z2, z3, z4, z5, z6, z7, z8, z9, z10, z11, z12, z13, z14, z15, z16, z17, z18, z19, z20, z21, z22, z23, z24, z25, z26, z27, z28, z29, z30, z31, rfl⟩ := list32 mh hm
  kernel_rfl
set_option maxHeartbeats 16000000 in
set_option maxRecDepth 100000 in
theorem Sep.decodeR {w0 w : World} {L M : List Th} {A : Option Addr} {c : Nat} {b : List Int} (h : Sep w0 w M) (hs : Sub L M) (hR : ReadsB w0 L A b) (hb : bytes_ b) (hl : b.length = 512) (hc : 512 ≤ c) :
    Calls Tryd.prog 45 #[.slice A 512 c] w fun e w' => e = .returned (.tuple #[.agg (decS b).V.toArray, .int .i64 (decE b)]) ∧ Sep w0 w' M := by
  have HN0 := Aside0.mk (fun W (N : List Th) (hs : Sub L N) (h : Sep w0 W N) => (show Calls Tryd.prog 67 #[.slice A 512 c, .int .i64 4, .int .i64 4] W (fun e w' => e = .returned (.int .i64 (numAt b 4 4)) ∧ Sep w0 w' N) from Sep.readR h hs hR hb hl hc 4 4 4 4 rfl rfl (by decide) (by decide)))
  have HN1 := Aside0.mk (fun W (N : List Th) (hs : Sub L N) (h : Sep w0 W N) => (show Calls Tryd.prog 67 #[.slice A 512 c, .int .i64 8, .int .i64 4] W (fun e w' => e = .returned (.int .i64 (numAt b 8 4)) ∧ Sep w0 w' N) from Sep.readR h hs hR hb hl hc 8 4 8 4 rfl rfl (by decide) (by decide)))
  have HN2 := Aside0.mk (fun W (N : List Th) (hs : Sub L N) (h : Sep w0 W N) => (show Calls Tryd.prog 67 #[.slice A 512 c, .int .i64 12, .int .i64 8] W (fun e w' => e = .returned (.int .i64 (numAt b 12 8)) ∧ Sep w0 w' N) from Sep.readR h hs hR hb hl hc 12 8 12 8 rfl rfl (by decide) (by decide)))
  have HN3 := Aside0.mk (fun W (N : List Th) (hs : Sub L N) (h : Sep w0 W N) => (show Calls Tryd.prog 67 #[.slice A 512 c, .int .i64 20, .int .i64 8] W (fun e w' => e = .returned (.int .i64 (numAt b 20 8)) ∧ Sep w0 w' N) from Sep.readR h hs hR hb hl hc 20 8 20 8 rfl rfl (by decide) (by decide)))
  have HN4 := Aside0.mk (fun W (N : List Th) (hs : Sub L N) (h : Sep w0 W N) => (show Calls Tryd.prog 67 #[.slice A 512 c, .int .i64 28, .int .i64 8] W (fun e w' => e = .returned (.int .i64 (numAt b 28 8)) ∧ Sep w0 w' N) from Sep.readR h hs hR hb hl hc 28 8 28 8 rfl rfl (by decide) (by decide)))
  have HKY := Aside0.mk (fun W (N : List Th) (hs : Sub L N) (h : Sep w0 W N) => (show Calls Tryd.prog 68 #[.slice A 512 c, .int .i64 36] W (fun e w' => e = .returned (.agg (nums .u8 (keyAt b 36)).toArray) ∧ Sep w0 w' N) from Sep.keyR h hs hR hl hc 36 36 rfl (by decide)))
  have HRR := Aside0.mk (fun W (N : List Th) (hs : Sub L N) (h : Sep w0 W N) => (show Calls Tryd.prog 69 #[.slice A 512 c, .int .i64 68] W (fun e w' => e = .returned (.agg (refV (keyAt b 68) (numAt b 100 4) (numAt b 104 4)).toArray) ∧ Sep w0 w' N) from Sep.refAt h hs hR hb hl hc 68 68 rfl (by decide)))
  have HRM := Aside0.mk (fun W (N : List Th) (hs : Sub L N) (h : Sep w0 W N) => (show Calls Tryd.prog 69 #[.slice A 512 c, .int .i64 108] W (fun e w' => e = .returned (.agg (refV (keyAt b 108) (numAt b 140 4) (numAt b 144 4)).toArray) ∧ Sep w0 w' N) from Sep.refAt h hs hR hb hl hc 108 108 rfl (by decide)))
  have HR0 := Aside0.mk (read_ok hl hb)
  have HDS := Aside0.mk (show mayM (readL b) = true → encB (readL b) = b → decS b = readL b ∧ decE b = 0 from fun h1 h2 => decS_yes (by unfold decB; rw [if_pos ⟨hl, h1, h2⟩]))
  have HDN := Aside0.mk (show (mayM (readL b) = true → encB (readL b) ≠ b) → decS b = noSL ∧ decE b = 180 from fun h1 => decS_no (by unfold decB; rw [if_neg (fun h2 => h1 h2.2.1 h2.2.2)]))
  have HRD := Aside0.mk (show readL b = ⟨numAt b 4 4, numAt b 8 4, numAt b 12 8, numAt b 20 8, numAt b 28 8, keyAt b 36, keyAt b 68, numAt b 100 4, numAt b 104 4, keyAt b 108, numAt b 140 4, numAt b 144 4⟩ from rfl)
  have HKL := Aside0.mk (show (keyAt b 36).length = 32 ∧ (keyAt b 68).length = 32 ∧ (keyAt b 108).length = 32 from ⟨keyAt_len hl (by decide), keyAt_len hl (by decide), keyAt_len hl (by decide)⟩)
  have HS0 := Aside0.mk h
  have HSub := Aside0.mk hs
  have HCV := Aside0.mk (fun W (N : List Th) (hs : Sub L N) (h : Sep w0 W N) => (show (convert 28 9 (.slice A 512 c)).run Tryd.prog W = .ok (.string (strOfNums b)) W from Kd.C_string (P := Tryd.prog) Tryd.underlying28 Tryd.underlying5 Tryd.underlying9 (hR W N hs h)))
  generalize numAt b 4 4 = n0 at HN0 HRD
  generalize numAt b 8 4 = n1 at HN1 HRD
  generalize numAt b 12 8 = n2 at HN2 HRD
  generalize numAt b 20 8 = n3 at HN3 HRD
  generalize numAt b 28 8 = n4 at HN4 HRD
  generalize keyAt b 36 = k at HKY HRD HKL
  generalize keyAt b 68 = rh at HRR HRD HKL
  generalize numAt b 100 4 = rf at HRR HRD
  generalize numAt b 104 4 = rl at HRR HRD
  generalize keyAt b 108 = mh at HRM HRD HKL
  generalize numAt b 140 4 = mf at HRM HRD
  generalize numAt b 144 4 = ml at HRM HRD
  have HEN := Aside0.mk (fun W (N : List Th) (hm : mayM (readL b) = true) (h : Sep w0 W N) => Sep.encodeR h (readL b) HR0.out hm)
  have HEX := Aside0.mk (fun W (hm : mayM (readL b) = false) => encodeR_no (readL b) HR0.out hm W)
  have HSI := Aside0.mk (str_inj (bytes_encB HR0.out) hb)
  have HEL := Aside0.mk (encB_len HR0.out)
  have HCE := Aside0.mk (fun W A2 c2 (N : List Th) (h : Sep w0 W (ownT (Kd.int .u8) 5 (.slice A2 512 c2) (encB (readL b)) :: N)) => (show (convert 28 9 (.slice A2 512 c2)).run Tryd.prog W = .ok (.string (strOfNums (encB (readL b)))) W from by
    have hC := (ReadsB.own (w0 := w0) (L := N) HEL.out) W _ (Sub.r _) h
    exact Kd.C_string (P := Tryd.prog) Tryd.underlying28 Tryd.underlying5 Tryd.underlying9 hC))
  have HBF := Aside0.mk (built27f k HKL.out.1 n0 n1 n2 n3 n4 rh HKL.out.2.1 rf rl mh HKL.out.2.2 mf ml)
  rw [← HRD.out] at HBF
  generalize readL b = sr at *
  generalize encB sr = eb at *
  generalize strOfNums b = sb at HCV HSI
  generalize strOfNums eb = se at HCE HSI
  have HOK := Aside0.mk (SL.V_len HR0.out)
  have HAV := Aside0.mk (SL.V_all sr)
  have hz := (zero_of_info (P := Tryd.prog) (t := 27) (v := .agg noSL.V.toArray) (n := 105) (by kernel_rfl)).1
  have HBZ := Aside0.mk (show Tryd.prog.built 27 [] = some noSL.V.toArray from built27z)
  have HSZ := Aside0.mk (show (Tryd.prog.info? 27).map (·.size) = some noSL.V.toArray.size from size27 (by simpa using SL.V_len noSL_ok))
  have HSV := Aside0.mk (show (Tryd.prog.info? 27).map (·.size) = some sr.V.toArray.size from size27 (by simpa using HOK.out))
  have HZA := Aside0.mk (SL.V_all noSL)
  have HZN := Aside0.mk (show noSL.V.toArray.size = 105 from by simpa using SL.V_len noSL_ok)
  have HVN := Aside0.mk (show sr.V.toArray.size = 105 from by simpa using HOK.out)
  generalize hV : sr.V = V at HEN HEX HSV HAV HVN HOK HBF
  have HV := Aside0.mk hV
  clear hV
  generalize hZ : noSL.V.toArray = Z at hz HBZ HSZ HZA HZN
  have HZ := Aside0.mk hZ
  clear hZ
  clear h hR hb hl hc HKL hs HRD
  generalize (refV rh rf rl).toArray = VR at HBF HRR
  generalize (refV mh mf ml).toArray = VM at HBF HRM
  generalize (nums .u8 k).toArray = VK at HBF HKY
  generalize decS b = ds at *
  generalize decE b = de at *
  have HZV := Aside0.mk (show Z.size = V.toArray.size from by rw [HZN.out, HVN.out])
  go_enter Tryd.func45, Tryd.ntmps45
  go_upto_region 1 with (fail)
  have HS1 := Aside0.mk (HS0.out.push_alloc Z 27)
  generalize w.alloc (.cells Z 27) = w1 at HS1 ⊢
  generalize w.heap.size = gr at HS1 ⊢
  clear HS0
  go_upto_region 4 with (first
    | (go_at_call 67; (with_reducible refine (HN0.out _ _ (Sub.c HSub.out) HS1.out).mono ?_); rintro e w3 ⟨rfl, h3⟩; have HS3 := Aside0.mk h3; clear h3 HS1)
    | (go_at_call 67; (with_reducible refine (HN1.out _ _ (Sub.c HSub.out) HS3.out).mono ?_); rintro e w4 ⟨rfl, h4⟩; have HS4 := Aside0.mk h4; clear h4 HS3)
    | (go_at_call 67; (with_reducible refine (HN2.out _ _ (Sub.c HSub.out) HS4.out).mono ?_); rintro e w5 ⟨rfl, h5⟩; have HS5 := Aside0.mk h5; clear h5 HS4)
    | (go_at_call 67; (with_reducible refine (HN3.out _ _ (Sub.c HSub.out) HS5.out).mono ?_); rintro e w6 ⟨rfl, h6⟩; have HS6 := Aside0.mk h6; clear h6 HS5)
    | (go_at_call 67; (with_reducible refine (HN4.out _ _ (Sub.c HSub.out) HS6.out).mono ?_); rintro e w7 ⟨rfl, h7⟩; have HS7 := Aside0.mk h7; clear h7 HS6)
    | (go_at_call 68; (with_reducible refine (HKY.out _ _ (Sub.c HSub.out) HS7.out).mono ?_); rintro e w8 ⟨rfl, h8⟩; have HS8 := Aside0.mk h8; clear h8 HS7)
    | (go_at_call 69; (with_reducible refine (HRR.out _ _ (Sub.c HSub.out) HS8.out).mono ?_); rintro e w8a ⟨rfl, h8⟩; have HS8a := Aside0.mk h8; clear h8 HS8)
    | (go_at_call 69; (with_reducible refine (HRM.out _ _ (Sub.c HSub.out) HS8a.out).mono ?_); rintro e w8b ⟨rfl, h8⟩; have HS8b := Aside0.mk h8; clear h8 HS8a)
    | ((with_reducible refine gate_build (ty := 27) rfl ?_); refine wpList_buildTo rfl 27 _ rfl (some 27) rfl V.toArray ?aB ?_; (case aB => (simp only [List.map_toArray, List.map_cons, List.map_nil]; exact HBF.out)))
    | ((with_reducible refine gate_store (ty := 27) rfl ?_); refine Sep.store_own rfl 27 _ _ rfl rfl rfl (HS8b.out.push_alloc Z 27) HSV.out HZV.out HAV.out ?_; intro w9 h9; have HS9 := Aside0.mk h9; clear h9))
  generalize w8b.heap.size = gs at HS9 ⊢
  clear HS8b HN0 HN1 HN2 HN3 HN4 HKY HRR HRM
  have HLD := Aside0.mk (fun W (M : List Th) (h : Sep w0 W (cellsT gs V.toArray 27 :: M)) => (show ∀ j v, V.toArray.toList[j]? = some v → W.cell? ((⟨gs, 0, none⟩ : Addr).add j) = some v from fun j v hv => seg_at h.cells.1 0 V (by rw [List.drop_zero]; exact List.take_of_length_le (Nat.le_refl _)) j v (by simpa using hv)))
  cases hm : mayM sr with
  | false =>
    go_upto_region 5 with (first
      | ((with_reducible refine gate_load (ty := 27) rfl ?_); refine wpList_ldw ?_ 27 _ rfl ⟨gs, 0, none⟩ ?_ V.toArray _ (HLD.out _ _ HS9.out) Tryd.underlying27 rfl HSV.out ?_; exact rfl; exact rfl; skip)
      | (go_at_call 13; (with_reducible refine (HEX.out _ hm).mono ?_); rintro e w14 ⟨rfl, hb⟩; have HS14 := Aside0.mk (HS9.out.step hb); clear hb))
    go_wp2_with (first
      | ((with_reducible refine gate_build (ty := 27) rfl ?_); refine wpList_buildTo rfl 27 _ rfl (some 42) rfl Z ?aB ?_; (case aB => (simp only [List.map_toArray, List.map_nil]; exact HBZ.out)))
      | ((with_reducible refine gate_store (ty := 27) rfl ?_); refine Sep.store_own rfl 27 _ _ rfl rfl rfl HS14.out.up1 HSZ.out rfl HZA.out ?_; intro w15 h15; have HS15 := Aside0.mk h15; clear h15))
    obtain ⟨rfl, rfl⟩ := HDN.out (fun h => by rw [hm] at h; cases h)
    rw [HZ.out]
    refine bodyPost_ret (results_row_tmp (p := 2) (u := 3) (ty := 27) rfl _ _ gr 27 Z (0, 0) _ _ rfl rfl HS15.out.cells.1 Tryd.underlying27 rfl HSZ.out) rfl ⟨rfl, ?_⟩
    exact HS15.out.drop.drop
  | true =>
    go_upto_region 5 with (first
      | ((with_reducible refine gate_load (ty := 27) rfl ?_); refine wpList_ldw ?_ 27 _ rfl ⟨gs, 0, none⟩ ?_ V.toArray _ (HLD.out _ _ HS9.out) Tryd.underlying27 rfl HSV.out ?_; exact rfl; exact rfl; skip)
      | (go_at_call 13; (with_reducible refine (HEN.out _ _ hm HS9.out).mono ?_); rintro e w14 ⟨A2, c2, rfl, h14⟩; have HS14 := Aside0.mk h14; clear h14))
    have hc1 := HCE.out _ _ _ _ HS14.out
    have hc2 := HCV.out _ _ (Sub.c (Sub.c (Sub.c HSub.out))) HS14.out
    have hsi := HSI.out
    by_cases hq : eb = b
    · have hsi2 : (se.toList != sb.toList) = false := by rw [hsi, hq]; simp
      have hsi3 : (se.toList == sb.toList) = true := by cases h : (se.toList == sb.toList) with
        | true => rfl
        | false => rw [bne, h] at hsi2; cases hsi2
      clear hsi
      go_upto_region 7 with (fail)
      clear hc1 hc2 HCV
      go_wp2_with (first
        | ((with_reducible refine gate_load (ty := 27) rfl ?_); refine wpList_ldw ?_ 27 _ rfl ⟨gs, 0, none⟩ ?_ V.toArray _ (HLD.out _ _ HS14.out.up1) Tryd.underlying27 rfl HSV.out ?_; exact rfl; exact rfl; skip)
        | ((with_reducible refine gate_store (ty := 27) rfl ?_); refine Sep.store_own rfl 27 _ _ rfl rfl rfl HS14.out.up2 HSV.out HZV.out HAV.out ?_; intro w15 h15; have HS15 := Aside0.mk h15; clear h15))
      obtain ⟨rfl, rfl⟩ := HDS.out hm hq
      rw [HV.out]
      refine bodyPost_ret (results_row_tmp (p := 2) (u := 3) (ty := 27) rfl _ _ gr 27 V.toArray (0, 0) _ _ rfl rfl HS15.out.cells.1 Tryd.underlying27 rfl HSV.out) rfl ⟨rfl, ?_⟩
      exact HS15.out.drop.drop.drop
    · have hsi2 : (se.toList != sb.toList) = true := by rw [hsi]; simp [hq]
      have hsi3 : (se.toList == sb.toList) = false := by cases h : (se.toList == sb.toList) with
        | false => rfl
        | true => rw [bne, h] at hsi2; cases hsi2
      clear hsi
      go_upto_region 6 with (fail)
      clear hc1 hc2 HCV
      go_wp2_with (first
        | ((with_reducible refine gate_build (ty := 27) rfl ?_); refine wpList_buildTo rfl 27 _ rfl (some 42) rfl Z ?aB ?_; (case aB => (simp only [List.map_toArray, List.map_nil]; exact HBZ.out)))
        | ((with_reducible refine gate_store (ty := 27) rfl ?_); refine Sep.store_own rfl 27 _ _ rfl rfl rfl HS14.out.up2 HSZ.out rfl HZA.out ?_; intro w15 h15; have HS15 := Aside0.mk h15; clear h15))
      obtain ⟨rfl, rfl⟩ := HDN.out (fun _ => hq)
      rw [HZ.out]
      refine bodyPost_ret (results_row_tmp (p := 2) (u := 3) (ty := 27) rfl _ _ gr 27 Z (0, 0) _ _ rfl rfl HS15.out.cells.1 Tryd.underlying27 rfl HSZ.out) rfl ⟨rfl, ?_⟩
      exact HS15.out.drop.drop.drop
end Go.Proofs.YtaflofcnjakaaaaDoor.M

namespace Go.Proofs.YtaflofcnjakaaaaDoor.M
open Go.RowKit Go.Maps Go.Proofs.YtaflofcnjakaaaaDoorW.PrintWords Go.Proofs.YtaflofcnjakaaaaDoorW.PrintLast Go.Proofs.YtaflofcnjakaaaaDoorW.PrintMore Go.Proofs.YtaflofcnjakaaaaDoor.Pl Go.Proofs.YtaflofcnjakaaaaDoor.Z Go.Proofs.YtaflofcnjakaaaaDoor.A
set_option linter.unusedVariables false
set_option linter.unusedSimpArgs false
def refT (v1 v2 : Value) (l1 l2 : List S106) : Th where
  P := fun w F => Kd.V k106 106 w 0 F v1 l1 ∧ Kd.V k106 106 w 0 F v2 l2 ∧ ∀ b, F b → b < w.heap.size
  foot := fun h => h.2.2
  step := by
    rintro w w' F ⟨h1, h2, h3⟩ h
    exact ⟨Kd.V_step h1 (fun k hk _ => h k hk), Kd.V_step h2 (fun k hk _ => h k hk), fun b hb => same_lt (h b hb) (h3 b hb)⟩
section
variable {w0 w w' : World} {L : List Th} {A1 A2 : Option Addr} {c1 c2 : Nat} {l1 l2 : List S106}
theorem Sep.ref_put {v1 v2 : Value} (h : Sep w0 w (refT v1 v2 l1 l2 :: L)) : ∃ F : Nat → Prop, Kd.V k106 106 w 0 F v1 l1 ∧ Kd.V k106 106 w 0 F v2 l2 ∧ (∀ b, F b → b < w.heap.size) ∧
    ∀ (w' : World) (b1 b2 : Nat) (ok1 ok2 : Nat → Prop) (v1' v2' : Value) (l1' l2' : List S106), Kd.V k106 106 w' b1 ok1 v1' l1' → Kd.V k106 106 w' b2 ok2 v2' l2' → (∀ k, ok1 k → F k ∨ w.heap.size ≤ k) → (∀ k, ok2 k → F k ∨ w.heap.size ≤ k) → Below w.heap.size w w' → Sep w0 w' (refT v1' v2' l1' l2' :: L) := by
  obtain ⟨F, ⟨h1, h2, h3⟩, _, h4⟩ := h.open1
  refine ⟨F, h1, h2, h3, fun w' b1 b2 ok1 ok2 v1' v2' l1' l2' g1 g2 e1 e2 hb => ?_⟩
  exact h4 (refT v1' v2' l1' l2') w' (fun k => (F k ∨ w.heap.size ≤ k) ∧ k < w'.heap.size) ⟨Kd.V_mono (Kd.V_bound (Kd.V_mono g1 (fun _ h => h))) (fun k hk => ⟨e1 k hk.1, hk.2⟩), Kd.V_mono (Kd.V_bound (Kd.V_mono g2 (fun _ h => h))) (fun k hk => ⟨e2 k hk.1, hk.2⟩), fun b hb => hb.2⟩ (fun b hb => hb.1) (Chg.of_below hb)
theorem Sep.ref_new {b1 b2 : Nat} {ok1 ok2 : Nat → Prop} {v1 v2 : Value} (h : Sep w0 w L) (h1 : Kd.S k106 106 w' w.heap.size ok1 v1 l1) (h2 : Kd.S k106 106 w' w.heap.size ok2 v2 l2) (hb : Below w.heap.size w w') : Sep w0 w' (refT v1 v2 l1 l2 :: L) :=
  h.push (t := refT v1 v2 l1 l2) hb (F := fun k => w.heap.size ≤ k ∧ k < w'.heap.size) ⟨Kd.S_V (Kd.S_mono (Kd.S_bound h1) (fun k hk => ⟨hk.2.1, hk.2.2.1⟩)), Kd.S_V (Kd.S_mono (Kd.S_bound h2) (fun k hk => ⟨hk.2.1, hk.2.2.1⟩)), fun b hb => hb.2⟩ (fun b hb => hb.1)
theorem Sep.ref_C (h : Sep w0 w (refT (.slice A1 l1.length c1) (.slice A2 l2.length c2) l1 l2 :: L)) : Kd.C k106 w A1 l1.length l1 ∧ l1.length ≤ c1 ∧ Kd.C k106 w A2 l2.length l2 ∧ l2.length ≤ c2 := by
  obtain ⟨F, ⟨h1, h2, _⟩, _⟩ := h.get
  exact ⟨(Kd.V_reads' h1).2.2, (Kd.V_reads' h1).2.1, (Kd.V_reads' h2).2.2, (Kd.V_reads' h2).2.1⟩
theorem Sep.rWrite (h : Sep w0 w (refT (.slice A1 l1.length c1) (.slice A2 l2.length c2) l1 l2 :: L)) (k : Nat) (n r wr fl : Int) (a1 : Int) (A0 : Option Addr) (c0 : Nat) (l0 : List Int) (n' : Int) (l1' l2' : List S106) (r' wr' fl' : Int) (e7 : Int) (hC : Kd.C (Kd.int .u8) w A0 l0.length l0) (hc : l0.length ≤ c0) (hf : kilnref3_Write.f k n l1 l2 r wr fl a1 l0 = some (n', l1', l2', r', wr', fl', e7)) :
    Calls Tryd.prog 20 #[.agg #[.int .i64 n, .slice A1 l1.length c1, .slice A2 l2.length c2, .int .i64 r, .int .i64 wr, .int .i64 fl], .int .i64 a1, .slice A0 l0.length c0] w fun e w' => ∃ A1' c1' A2' c2', e = .returned (.tuple #[.agg #[.int .i64 n', .slice A1' l1'.length c1', .slice A2' l2'.length c2', .int .i64 r', .int .i64 wr', .int .i64 fl'], .int .i64 e7]) ∧ Sep w0 w' (refT (.slice A1' l1'.length c1') (.slice A2' l2'.length c2') l1' l2' :: L) := by
  obtain ⟨F, g1, g2, g3, put⟩ := h.ref_put
  refine (kilnref3_Write.calls k n F A1 c1 l1 F A2 c2 l2 r wr fl a1 A0 c0 l0 n' l1' l2' r' wr' fl' e7 w (Kd.V_mono g1 (fun _ h => h)) (Kd.V_mono g2 (fun _ h => h)) hC hc hf).mono ?_
  rintro e w' ⟨v1, v2, he, h1, h2, hb⟩
  obtain ⟨A1', c1', rfl⟩ := Kd.V_slice h1
  have h2 := h2
  obtain ⟨A2', c2', rfl⟩ := Kd.V_slice h2
  exact ⟨A1', c1', A2', c2', he, put w' _ _ _ _ _ _ _ _ h1 h2 (fun k hk => hk.imp (fun h => h.elim id id) id) (fun k hk => hk.imp (fun h => h.elim id id) id) hb⟩
theorem Sep.rFlush (h : Sep w0 w (refT (.slice A1 l1.length c1) (.slice A2 l2.length c2) l1 l2 :: L)) (k : Nat) (n r wr fl : Int) (n' : Int) (l1' l2' : List S106) (r' wr' fl' : Int) (hf : kilnref3_Flush.f k n l1 l2 r wr fl = some (n', l1', l2', r', wr', fl')) :
    Calls Tryd.prog 21 #[.agg #[.int .i64 n, .slice A1 l1.length c1, .slice A2 l2.length c2, .int .i64 r, .int .i64 wr, .int .i64 fl]] w fun e w' => ∃ A1' c1' A2' c2', e = .returned (.agg #[.int .i64 n', .slice A1' l1'.length c1', .slice A2' l2'.length c2', .int .i64 r', .int .i64 wr', .int .i64 fl']) ∧ Sep w0 w' (refT (.slice A1' l1'.length c1') (.slice A2' l2'.length c2') l1' l2' :: L) := by
  obtain ⟨F, g1, g2, g3, put⟩ := h.ref_put
  refine (kilnref3_Flush.calls k n F A1 c1 l1 F A2 c2 l2 r wr fl n' l1' l2' r' wr' fl' w (Kd.V_mono g1 (fun _ h => h)) (Kd.V_mono g2 (fun _ h => h)) hf).mono ?_
  rintro e w' ⟨v1, v2, he, h1, h2, hb⟩
  obtain ⟨A1', c1', rfl⟩ := Kd.V_slice h1
  have h2 := Kd.N_V (base' := 0) h2
  obtain ⟨A2', c2', rfl⟩ := Kd.V_slice h2
  exact ⟨A1', c1', A2', c2', he, put w' _ _ _ _ _ _ _ _ h1 h2 (fun k hk => hk.1.imp (fun h => h.elim id id) id) (fun k hk => hk.imp (fun h => h.elim id id) id) hb⟩
theorem Sep.rNew (h : Sep w0 w L) (a : Int) (n' : Int) (l1' l2' : List S106) (r' wr' fl' e7 : Int) (hf : kilnref3_New.f a = some (n', l1', l2', r', wr', fl', e7)) :
    Calls Tryd.prog 16 #[.int .i64 a] w fun e w' => ∃ A1' c1' A2' c2', e = .returned (.tuple #[.agg #[.int .i64 n', .slice A1' l1'.length c1', .slice A2' l2'.length c2', .int .i64 r', .int .i64 wr', .int .i64 fl'], .int .i64 e7]) ∧ Sep w0 w' (refT (.slice A1' l1'.length c1') (.slice A2' l2'.length c2') l1' l2' :: L) := by
  refine (kilnref3_New.calls a n' l1' l2' r' wr' fl' e7 w hf).mono ?_
  rintro e w' ⟨v1, v2, he, h1, h2, hb⟩
  obtain ⟨A1', c1', rfl⟩ := Kd.S_slice h1
  obtain ⟨A2', c2', rfl⟩ := Kd.S_slice h2
  exact ⟨A1', c1', A2', c2', he, h.ref_new (b1 := 0) (b2 := 0) h1 h2 hb⟩
end
end Go.Proofs.YtaflofcnjakaaaaDoor.M
