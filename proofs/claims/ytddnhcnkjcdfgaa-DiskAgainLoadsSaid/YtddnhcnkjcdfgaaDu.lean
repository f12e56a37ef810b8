-- DiskAgainLoads: the walk
import Derived.Test.YtddnhcnkjcdfgaaDt
namespace Go.Proofs.Ytddnhcnkjcdfgaa.M
open Go.RowKit Go.Maps Go.Proofs.YtddnhcnkjcdfgaaW.PrintWords Go.Proofs.YtddnhcnkjcdfgaaW.PrintLast Go.Proofs.YtddnhcnkjcdfgaaW.PrintMore
open Go.Proofs.Ytddnhcnkjcdfgaa.P
attribute [local go_sem] max2_int min2_int max_two min_two max_three min_three max_four min_four
set_option linter.unusedVariables false
set_option linter.unusedSimpArgs false
def again_T16 : Bool × List (List Nat × List Nat) := (true, [([], []), ([], []), ([], []), ([], []), ([3], [3]), ([0, 1, 2, 4], [0, 1, 2, 4]), ([5, 5], [5]), ([6], [6]), ([6], [6]), ([6], [6]), ([6], [6]), ([9, 10, 6, 6], [6, 9, 10]), ([6], [6]), ([6], [6]), ([13, 6], [6, 13]), ([14, 11, 6], [6, 14]), ([12, 15, 6], [6, 12, 15]), ([16, 6], [6, 16]), ([11, 17, 15, 6], [6, 11, 17]), ([6], [6]), ([19, 6], [6, 19]), ([20, 6], [6, 20]), ([7, 8, 18, 21, 18, 6], [6, 7, 8, 18, 21]), ([6, 22], [6, 22]), ([23, 22, 0, 1, 2, 3, 4, 5, 6, 7, 8, 9, 10, 11, 12, 13, 14, 15, 16, 17, 18, 19, 20, 21, 22, 23], [23])])
def again_B16 : List Nat := [0, 0, 0, 0, 8, 31, 63, 127, 127, 127, 127, 1663, 127, 127, 8319, 28287, 65151, 130687, 261759, 127, 524415, 1572991, 4194303, 8388607, 16777215]
theorem again_tab16 : rtab .any (opsOf Try.f5 16) = again_T16 := by kernel_rfl
theorem again_bits16 : waitsOk again_T16.2 again_B16 = true := by kernel_rfl
set_option maxHeartbeats 8000000 in
set_option maxRecDepth 100000 in
theorem again_calls (k kB : Nat) (a0 : Int) (A1 : Option Addr) (c1 : Nat) (l1 : List S30) (x0 : Int) (A2 : Option Addr) (c2 : Nat) (l2 : List Int) (w : World)
    (hr1 : Kd.C k30 w A1 l1.length l1) (hc1 : l1.length ≤ c1) (hr2 : Kd.C (Kd.int .u8) w A2 l2.length l2) (hc2 : l2.length ≤ c2)
    (n : Nat) (out : List S30) (h : kilnlaw3_made.f k a0 l1 = some (0, (n : Int), out)) (hn2 : 2 ≤ n) (hnm : n ≤ 64) (hlen : out.length ≤ 100) (hgo : Good n out)
    (i0 : Nat) (hmd : kilnlaw3_mod.f x0 (n : Int) = some (i0 : Int)) (hi0 : i0 < n) (t322 : List Int) (hsec : kilnlaw3_sector.f kB l2 = some t322) (h512 : t322.length = 512)
    (s1 : DS) (hs1 : s1 = (runD n out (-1) out.length).flush)
    (hcur : ∀ i, i < n → ∃ kl, kilnlaw3_last.f kl out (i : Int) (out.length : Int) = some (s1.L.getD i []))
    (hcur2 : ∀ i, i < n → ∃ kl, kilnlaw3_last.f kl (out ++ [⟨(i0 : Int), t322⟩]) (i : Int) (wrap64 ((out.length : Int) + 1)) = some (((DS.fresh n s1.L).put i0 t322).flush.cur i)) :
    Calls Try.prog 5 #[.int .i64 a0, .slice A1 l1.length c1, .agg #[.int .i64 x0, .slice A2 l2.length c2]] w fun e w' => e = .returned (.bool true) ∧ Below w.heap.size w w' := by
  have hn1 : s1.n = n := by rw [hs1]; exact runD_n n out (-1) out.length
  have hl1 : s1.L.length = n := by rw [hs1]; show ((List.range (runD n out (-1) out.length).n).map _).length = n; rw [List.length_map, List.length_range, runD_n]
  have hMADE := Aside0.mk (fun W (hW : Below w.heap.size w W) => kilnlaw3_made.calls k a0 A1 c1 l1 0 (n : Int) out n hn2 hnm rfl W (Kd.C_below hr1 hW) hc1 h)
  have HOUT := Aside0.mk hgo
  have HCUR := Aside0.mk hcur
  have HCUR2 := Aside0.mk hcur2
  have HR2 := Aside0.mk hr2
  have HC2 := Aside0.mk hc2
  have HSEC := Aside0.mk hsec
  have HMD := Aside0.mk hmd
  have H5 := Aside0.mk h512
  have HI0 := Aside0.mk hi0
  have HS1 := Aside0.mk hs1
  have HN1 := Aside0.mk hn1
  have HL1 := Aside0.mk hl1
  have HN2 := Aside0.mk hn2
  have HNM := Aside0.mk hnm
  clear hr1 hc1 hr2 hc2 h hgo hmd hi0 hsec h512 hs1 hcur hcur2 hn1 hl1
  go_enter Try.func5, Try.ntmps5
  go_upto_region 4 with (first
    | ((with_reducible refine gate_dst (N := 5) rfl ?_); (try (refine gate_guard (by rfl) ?_; dsimp only)); refine box_event ?hg (N := 5) ?hd (cs := #[.int .i64 x0, .slice A2 l2.length c2]) (t := 30) ?hr ?_; (case hd => rfl); (case hg => rfl); (case hr => first | (go_simp; done) | (go_simp; rfl)); intro gb hg w8 hbox hb; have HB8 := Aside0.mk hb; have BK8 := Aside0.mk hbox; clear hb hbox hg)
    | (go_at_call 15; (with_reducible refine (hMADE.out _ HB8.out).mono ?_); rintro e w1 ⟨v2, g, F0, base, rfl, hbase, hd, hs, hb⟩; obtain ⟨Ao17, co17, e2⟩ := Kd.S_slice hs; subst e2; have HD0 := Aside0.mk hd; have HS0 := Aside0.mk (Kd.S_bound hs); have HB1 := Aside0.mk hb; have HBS := Aside0.mk hbase; clear hd hs hb hbase))
  have BK1 := Aside0.mk ((HB1.out.block gb (blk_lt BK8.out)).trans BK8.out)
  have HBw := Aside0.mk (below_step HB8.out HB1.out)
  have HSZ := Aside0.mk (below_size HB8.out)
  have HGB := Aside0.mk (show gb < w8.heap.size from blk_lt BK8.out)
  clear BK8 hMADE HB8
  go_wp2
  go_loopg [9] out.length (fun kq v9 w' => ∃ (j : Nat) (F : Nat → Prop), v9 = .int .i64 j ∧ Aside0 (j + kq = out.length) ∧ Aside0 (DkAt w' base g F (runD n out (-1) j)) ∧ Aside0 (∀ x, F x → F0 x ∨ w1.heap.size ≤ x) ∧ Aside0 (Chg F0 w1 w'))
  case atStart => exact ⟨0, F0, rfl, ⟨Nat.zero_add _⟩, HD0, ⟨fun x h => .inl h⟩, ⟨Chg.refl _ _⟩⟩
  case round =>
    obtain ⟨j, F, rfl, HJ, HD, HF, HX⟩ := hrel
    have HSw := Aside0.mk (Kd.S_step HS0.out (fun k_ hk hlt => HX.out.block k_ hlt hk.1))
    by_cases hj : j < out.length
    · have hjb : decide (j < out.length) = true := decide_eq_true hj
      have hjt : (j < out.length) = True := eq_true hj
      obtain ⟨⟨i, hi, hf0⟩, h5⟩ := HOUT.out.at_ j hj
      obtain ⟨go, b1, c3, rfl, hx0, hx1, hC, hok, hog, hgo⟩ := row_at HSw.out j hj h5
      rw [hf0] at hx0
      have HRN := Aside0.mk (show (rd_T30 out (j : Int)).f0.toNat = i from by rw [hf0]; rfl)
      have HWR := Aside0.mk (fun W (hW : Below wr.heap.size wr W) => write_at g i (some ⟨b1, 0, none⟩) c3 _ W base F _ (HD.out.chg (G := fun _ => False) (Chg.of_below hW) (fun _ _ => id)) (by rw [runD_n]; exact hi) (Kd.C_below hC hW) (fun ad' e hF => by
        cases e
        rcases HF.out _ hF with h_ | h_
        · exact hok.1 h_
        · have := hok.2.2; have h2_ : w1.heap.size ≤ b1 := h_; omega) (by have := runD_c n out (-1) j; omega))
      have HGO := Aside0.mk (And.intro (show ¬ F go from fun hF => by
        rcases HF.out _ hF with h_ | h_
        · exact hog.1 h_
        · have := hog.2.2; omega) hgo)
      have HJ2 := Aside0.mk hj
      clear hj hC hok hf0 h5 hog hgo
      go_wp2
      go_region_held3 (fun W => W.cell? ⟨go, j * 2, none⟩ = some (.int .i64 (i : Int)) ∧ W.cell? ⟨go, j * 2 + 1, none⟩ = some (.slice (some ⟨b1, 0, none⟩) 512 c3)) (first | exact ⟨hx0, hx1⟩ | exact HKEEP.out) ((go_at_call 16; (with_reducible refine (HWR.out _ (by repeat (first | exact Below.refl _ _ | apply below_drew1 | apply pw_below_drewN | apply below_alloc))).mono ?_); rintro e w5 ⟨rfl, F5, hd5, hF5, hX5⟩; have HKEEP := Aside0.mk (And.intro ((Chg.cell hX5 HGO.out.1 (by first | exact HGO.out.2 | simpa using HGO.out.2) (j * 2)).trans hx0) ((Chg.cell hX5 HGO.out.1 (by first | exact HGO.out.2 | simpa using HGO.out.2) (j * 2 + 1)).trans hx1)); have HD5 := Aside0.mk hd5; have HF5 := Aside0.mk hF5; have HX5 := Aside0.mk hX5; clear hd5 hF5 hX5))
      have hX5 := Aside0.mk (show Chg F wr _ from ⟨HX5.out.os, HX5.out.tape, HX5.out.output, HX5.out.size, HX5.out.block⟩)
      have hF5 := Aside0.mk (fun x (hx : F5 x) => (show F0 x ∨ w1.heap.size ≤ x from by
        rcases HF5.out x hx with h_ | h_
        · exact HF.out x h_
        · exact .inr (Nat.le_trans HX.out.size h_)))
      have HXX := Aside0.mk (HX.out.trans hX5.out HF.out)
      clear HX5 HF5 hX5 HKEEP HWR HSw HX HF HD HGO hx0 hx1
      go_wp2
      go_roundg (gk - 1)
      case measure => have := HJ.out; have := HJ2.out; omega
      case rel => exact ⟨j + 1, F5, (by have hi_ := HJ2.out; have hl_ := hlen; first | rfl | (simp; done) | (rw [show wrap64 ((j : Int) + 1) = (j : Int) + 1 from by unfold wrap64; omega]; rfl)), ⟨by have := HJ.out; have := HJ2.out; omega⟩, ⟨by unfold runD; rw [if_neg (by omega), HRN.out]; exact HD5.out⟩, ⟨hF5.out⟩, ⟨HXX.out⟩⟩
    · have hjb : decide (j < out.length) = false := decide_eq_false hj
      obtain rfl : j = out.length := by have := HJ.out; omega
      clear hj
      have HBr := Aside0.mk (Chg.below HBw.out HX.out (below_size HBw.out) (fun x hx => Nat.le_trans (Nat.le_trans HSZ.out HBS.out) (HD0.out.foot x hx).1))
      have HSr := Aside0.mk (show Kd.S k30 30 wr w8.heap.size (fun x => ¬ F x ∧ x < wr.heap.size) _ out from Kd.S_mono HSw.out (fun k_ hk => ⟨fun hF => by
        rcases HF.out _ hF with h_ | h_
        · exact hk.1 h_
        · have := hk.2.2.1; omega, Nat.lt_of_lt_of_le hk.2.2.1 HX.out.size⟩))
      have BKr := Aside0.mk ((HX.out.block gb (blk_lt BK1.out) (fun hF => by have h1_ := (HD0.out.foot gb hF).1; have h2_ := HBS.out; have h3_ := HGB.out; omega)).trans BK1.out)
      clear HSw HX HBw HD0 HS0 HB1 BK1
      have HIMf := Aside0.mk (fun W F (hd : DkAt W base g F s1) => (show Calls Try.prog 26 #[.pointer (some ⟨g, 0, none⟩)] W (fun e w' => ∃ go c, e = .returned (.slice (some ⟨go, 0, none⟩) n c) ∧ Kd.S KB 28 w' W.heap.size (fun _ => True) (.slice (some ⟨go, 0, none⟩) n c) s1.L ∧ Below W.heap.size W w') from by
        have h_ := image_at g W base F s1 hd
        rw [HN1.out] at h_
        exact h_))
      have HLOf := Aside0.mk (fun W go c base0 (hs : Kd.S KB 28 W base0 (fun _ => True) (.slice (some ⟨go, 0, none⟩) n c) s1.L) (hL5 : ∀ x ∈ s1.L, x.length = 512) => (show Calls Try.prog 28 #[.slice (some ⟨go, 0, none⟩) n c] W (fun e w' => ∃ g F, e = .returned (.tuple #[.pointer (some ⟨g, 0, none⟩), .int .i64 0]) ∧ DkAt w' W.heap.size g F (DS.fresh n s1.L) ∧ Below W.heap.size W w') from by
        have h_ := load_calls (some ⟨go, 0, none⟩) c s1.L W (by rw [HL1.out]; exact HN2.out) (by rw [HL1.out]; have := HNM.out; omega) (Kd.S_reads' hs).2.2 (fun i hi => hL5 _ (by rw [List.getD_eq_getElem?_getD, List.getElem?_eq_getElem hi]; exact List.getElem_mem hi))
        rw [HL1.out] at h_
        exact h_))
      go_upto_region 10 with (first
        | (go_at_call 17; (with_reducible refine (flush_at _ _ _ _ _ HD.out).mono ?_); rintro e w10 ⟨⟨v10, rfl⟩, F10, hd, hF, hX⟩; rw [← HS1.out] at hd; have HD10 := Aside0.mk hd; have HF10 := Aside0.mk hF; have HX10 := Aside0.mk hX; clear hd hF hX)
        | (go_at_call 26; (with_reducible refine (HIMf.out _ _ HD10.out).mono ?_); rintro e w11 ⟨go11, c11, rfl, hs, hb⟩; have HS11 := Aside0.mk hs; have HB11 := Aside0.mk hb; clear hs hb)
        | (go_at_call 28; (with_reducible refine (HLOf.out _ _ _ _ HS11.out HD10.out.lasts.2).mono ?_); rintro e w12 ⟨g2, F2, rfl, hd, hb⟩; have HD12 := Aside0.mk hd; have HB12 := Aside0.mk hb; clear hd hb))
      have hsz0 := Aside0.mk (HX10.out.size)
      have HB10 := Aside0.mk (Chg.below HBr.out HX10.out (below_size HBr.out) (fun x hx => Nat.le_trans (Nat.le_trans HSZ.out HBS.out) (HD.out.foot x hx).1))
      have HBi := Aside0.mk (below_step HB11.out HB12.out)
      have HBq := Aside0.mk (below_step HB10.out HBi.out)
      have HDd := Aside0.mk (HD10.out.below HBi.out)
      have HFd := Aside0.mk (fun x hx => (HD10.out.foot x hx).2)
      have HSz11 := Aside0.mk (Nat.le_trans (below_size HB11.out) (Nat.le_refl w11.heap.size))
      have HSo := Aside0.mk (show Kd.S k30 30 w12 w8.heap.size (fun x => ¬ F10 x ∧ x < w10.heap.size) _ out from Kd.S_below (Kd.S_mono (Kd.S_step HSr.out (fun k_ hk hlt => HX10.out.block k_ hlt hk.1)) (fun k_ hk => ⟨fun hF => hk.1 (HF10.out k_ hF), Nat.lt_of_lt_of_le hk.2 HX10.out.size⟩)) HBi.out)
      have BKq := Aside0.mk ((HBi.out.block gb (Nat.lt_of_lt_of_le (blk_lt BKr.out) HX10.out.size)).trans ((HX10.out.block gb (blk_lt BKr.out) (fun hF => by have h1_ := (HD.out.foot gb hF).1; have h2_ := HBS.out; have h3_ := HGB.out; omega)).trans BKr.out))
      have HF2 := Aside0.mk (fun x hx => Nat.le_trans (below_size HB11.out) (HD12.out.foot x hx).1)
      have HS10 := Aside0.mk (below_size HB10.out)
      have HG10 := Aside0.mk (show gb < w10.heap.size from Nat.lt_of_lt_of_le (blk_lt BKr.out) HX10.out.size)
      have HS1012 := Aside0.mk (below_size HBi.out)
      clear HIMf HLOf HX10 HB10 HBi HD10 HSr BKr HBr HB11 HB12 HS11 HSz11 HD HF10
      have HTE := Aside0.mk (show Calls Try.prog 18 #[.pointer (some ⟨g2, 0, none⟩), .int .i64 (n : Int), .slice Ao17 out.length co17, .int .i64 (out.length : Int)] w12 _ from tells_calls g2 _ F2 (DS.fresh n s1.L) Ao17 co17 out (out.length : Int) w12 HD12.out (Kd.V_mono (Kd.S_V (base' := w12.heap.size) HSo.out) (fun k_ hk hF => by have h1_ := HF2.out k_ hF; have h2_ := hk.2; omega)) HCUR.out)
      have HSE := Aside0.mk (show Calls Try.prog 29 #[.pointer (some ⟨g2, 0, none⟩)] w12 fun e w' => e = .returned (.int .i64 (n : Int)) ∧ w' = w12 from sectors_at g2 w12 _ F2 (DS.fresh n s1.L) HD12.out)
      go_upto_region 12 with (first
        | (go_at_call 29; (with_reducible refine HSE.out.mono ?_); rintro e w' ⟨rfl, hw_⟩; subst hw_)
        | (go_at_call 18; (with_reducible refine HTE.out.mono ?_); rintro e w13 ⟨rfl, r', hd, hX⟩; have HD13 := Aside0.mk hd; have HX13 := Aside0.mk hX; clear hd hX))
      have BK13 := Aside0.mk ((HX13.out.block gb (blk_lt BKq.out) (fun hF => by have h1_ := HF2.out gb hF; have h2_ := HG10.out; omega)).trans BKq.out)
      have HB13 := Aside0.mk (Chg.below HBq.out HX13.out (below_size HBq.out) (fun x hx => Nat.le_trans HS10.out (HF2.out x hx)))
      have HDd13 := Aside0.mk (HDd.out.chg HX13.out (fun x hx hF => by have h1_ := HFd.out x hx; have h2_ := HF2.out x hF; omega))
      have HS13 := Aside0.mk (Kd.S_step HSo.out (fun k_ hk hlt => HX13.out.block k_ hlt (fun hF => by have h1_ := HF2.out k_ hF; have h2_ := hk.2; omega)))
      have hcz0 : w13.cell? ⟨gb, 0, none⟩ = some (.int .i64 x0) := (blk_cell BK13.out 0).trans rfl
      have hcz1 : w13.cell? ⟨gb, 1, none⟩ = some (.slice A2 l2.length c2) := (blk_cell BK13.out 1).trans rfl
      have HX13s := Aside0.mk HX13.out.size
      clear HTE HSE HDd HSo HX13 HBq BKq HD12
      go_upto_region 13 with (go_at_call 20; (with_reducible refine (kilnlaw3_mod.calls x0 (n : Int) (i0 : Int) _ HMD.out).mono ?_); rintro e w14 ⟨rfl, hdr⟩; have HB14 := Aside0.mk (show Below w13.heap.size w13 w14 from by obtain ⟨nd, rfl⟩ := hdr; exact pw_below_drewN (Below.refl _ _) _); clear hdr)
      have HD14 := Aside0.mk (HD13.out.below HB14.out)
      have HDd14 := Aside0.mk (HDd13.out.below HB14.out)
      have HS14 := Aside0.mk (Kd.S_below HS13.out HB14.out)
      have BK14 := Aside0.mk ((HB14.out.block gb (blk_lt BK13.out)).trans BK13.out)
      have HBw14 := Aside0.mk (below_step HB13.out HB14.out)
      have HS1014 := Aside0.mk (Nat.le_trans (Nat.le_trans HS1012.out HX13s.out) (below_size HB14.out))
      clear hcz0 hcz1 HD13 HDd13 HS13 BK13 HB13 HB14
      have hcz0 : w14.cell? ⟨gb, 0, none⟩ = some (.int .i64 x0) := (blk_cell BK14.out 0).trans rfl
      have hcz1 : w14.cell? ⟨gb, 1, none⟩ = some (.slice A2 l2.length c2) := (blk_cell BK14.out 1).trans rfl
      have HWF := Aside0.mk (fun (w3 : World) (b3 c3' : Nat) (ho : Kd.R (Kd.int .u8) 5 w3 w14.heap.size (fun _ => True) (.slice (some ⟨b3, 0, none⟩) 512 c3') t322) (hb : Below w14.heap.size w14 w3) (hb3 : w14.heap.size ≤ b3) => write_at g2 i0 (some ⟨b3, 0, none⟩) c3' t322 w3 _ F2 _ (HD14.out.below hb) HI0.out (by have h_ := (Kd.R_reads' ho).2.2; rw [H5.out] at h_; exact h_) (fun ad e hF => by
        cases e
        have h_ := (HD14.out.foot _ hF).2
        have h1_ : b3 < w14.heap.size := h_
        omega) (by show (0 : Nat) < 1073741824; decide))
      go_upto_region 16 with (first
        | (go_at_call 22; (with_reducible refine (kilnlaw3_sector.calls kB A2 c2 l2 t322 _ ?s1 HC2.out HSEC.out).mono ?_); (case s1 => exact Kd.C_below HR2.out HBw14.out); rintro e w15 ⟨v3, rfl, ho, hb⟩; obtain ⟨b3, c3', e3, hb3, _, _⟩ := Kd.R_form ho (by rw [H5.out]; decide); rw [H5.out] at e3; subst e3; have HB15 := Aside0.mk hb; have HWR := Aside0.mk (HWF.out _ _ _ ho hb hb3); clear ho hb hb3)
        | (go_at_call 16; (with_reducible refine HWR.out.mono ?_); rintro e w16 ⟨rfl, F16, hd, hF, hX⟩; have HD16 := Aside0.mk hd; have HF16 := Aside0.mk hF; have HX16 := Aside0.mk hX; clear hd hF hX)
        | (go_at_call 17; (with_reducible refine (flush_at _ _ _ _ _ HD16.out).mono ?_); rintro e w17 ⟨⟨v17, rfl⟩, F17, hd, hF, hX⟩; have HD17 := Aside0.mk hd; have HF17 := Aside0.mk hF; have HX17 := Aside0.mk hX; clear hd hF hX))
      have HFx := Aside0.mk (fun x (hx : F17 x) => (show w10.heap.size ≤ x from by
        rcases HF16.out x (HF17.out x hx) with h_ | h_
        · exact HF2.out x h_
        · have h2_ := below_size HB15.out
          have h3_ := HS1014.out
          omega))
      obtain ⟨s2, hs2⟩ : ∃ s2, s2 = (((DS.fresh n s1.L).withR r').put i0 t322).flush := ⟨_, rfl⟩
      have HD17' := Aside0.mk (show DkAt w17 w11.heap.size g2 F17 s2 from by rw [hs2]; exact HD17.out)
      have HS2 := Aside0.mk hs2
      clear hs2
      have HX1 := Aside0.mk (HX16.out.trans HX17.out HF16.out)
      have HDd17 := Aside0.mk ((HDd14.out.below HB15.out).chg HX1.out (fun x hx hF => by have h1_ := HFd.out x hx; have h2_ := HF2.out x hF; omega))
      have HO17 := Aside0.mk (show Kd.V k30 30 w17 w17.heap.size (fun k_ => (¬ F17 k_ ∧ k_ ≠ gb) ∧ ¬ F10 k_) (.slice Ao17 out.length co17) out from Kd.V_mono (Kd.V_step (Kd.S_V (base' := w17.heap.size) (Kd.S_bound (Kd.S_below HS14.out HB15.out))) (fun k_ hk hlt => HX1.out.block k_ hlt (fun hF => by have h1_ := HF2.out k_ hF; have h2_ := hk.1.2; omega))) (fun k_ hk => ⟨⟨fun hF => by have h1_ := HFx.out k_ hF; have h2_ := hk.1.2; omega, fun e_ => by have h1_ := hk.2.1; have h2_ := HGB.out; omega⟩, hk.1.1⟩))
      have BK17 := Aside0.mk ((HX1.out.block gb (Nat.lt_of_lt_of_le (blk_lt BK14.out) (below_size HB15.out)) (fun hF => by have h1_ := HF2.out gb hF; have h2_ := HG10.out; omega)).trans ((HB15.out.block gb (blk_lt BK14.out)).trans BK14.out))
      have HB17 := Aside0.mk (Chg.below (below_step HBw14.out HB15.out) HX1.out (below_size (below_step HBw14.out HB15.out)) (fun x hx => Nat.le_trans HS10.out (HF2.out x hx)))
      have HCURd := Aside0.mk (fun i (hi : i < n) => (show ∃ kl, kilnlaw3_last.f kl out (i : Int) (out.length : Int) = some (s1.cur i) from by
        obtain ⟨kl, h_⟩ := HCUR.out i hi
        refine ⟨kl, ?_⟩
        rw [h_, HS1.out]
        rfl))
      have HTd := Aside0.mk (fun W (hd : DkAt W base g F10 s1) (hV : Kd.V k30 30 W W.heap.size (fun k_ => ¬ F10 k_) (.slice Ao17 out.length co17) out) => (show Calls Try.prog 18 #[.pointer (some ⟨g, 0, none⟩), .int .i64 (n : Int), .slice Ao17 out.length co17, .int .i64 (out.length : Int)] W (fun e w' => e = .returned (.bool true) ∧ ∃ r', DkAt w' base g F10 (s1.withR r') ∧ Chg F10 W w') from by
        have h_ := tells_calls g base F10 s1 Ao17 co17 out (out.length : Int) W hd hV (by rw [HN1.out]; exact HCURd.out)
        rw [HN1.out] at h_
        exact h_))
      have HTe := Aside0.mk (fun W A6 c6 (y : List S30) (hy : y = out ++ [⟨(i0 : Int), t322⟩]) (hd : DkAt W w11.heap.size g2 F17 s2) (hV : Kd.V k30 30 W W.heap.size (fun k_ => ¬ F17 k_) (.slice A6 y.length c6) y) => (show Calls Try.prog 18 #[.pointer (some ⟨g2, 0, none⟩), .int .i64 (n : Int), .slice A6 y.length c6, .int .i64 (wrap64 ((out.length : Int) + 1))] W (fun e w' => e = .returned (.bool true) ∧ ∃ r', DkAt w' w11.heap.size g2 F17 (s2.withR r') ∧ Chg F17 W w') from by
        have hn : s2.n = n := by rw [HS2.out]; rfl
        have h_ := tells_calls g2 w11.heap.size F17 s2 A6 c6 y (wrap64 ((out.length : Int) + 1)) W hd hV (by
          rw [hn, hy]
          intro i hi
          obtain ⟨kl, h_⟩ := HCUR2.out i hi
          refine ⟨kl, ?_⟩
          rw [h_, HS2.out]
          rfl)
        rw [hn] at h_
        exact h_))
      have HF17d := Aside0.mk (fun x (hx : F17 x) (hF : F10 x) => (show False from by have h1_ := HFx.out x hx; have h2_ := HFd.out x hF; omega))
      have HF17g := HFx
      have HGF := Aside0.mk (show ¬ F10 gb from fun hF => by have h1_ := (HDd17.out.foot gb hF).1; have h2_ := HBS.out; have h3_ := HGB.out; omega)
      have HGE := Aside0.mk (show ¬ F17 gb from fun hF => by have h1_ := HFx.out gb hF; have h2_ := HG10.out; omega)
      obtain ⟨y187, hy187⟩ : ∃ y_ : List (S30), y_ = (([] : List (S30))) := ⟨_, rfl⟩
      have Ny187 := Aside0.mk hy187
      obtain ⟨y190, hy190⟩ : ∃ y_ : List (S30), y_ = (y187 ++ out) := ⟨_, rfl⟩
      have Ny190 := Aside0.mk hy190
      obtain ⟨y196, hy196⟩ : ∃ y_ : List (S30), y_ = (y190 ++ [(⟨(i0 : Int), t322⟩ : S30)]) := ⟨_, rfl⟩
      have Ny196 := Aside0.mk hy196
      have LMc26 := Aside0.mk (show y187.length + out.length < 4398046511104 from by rw [hy187]; simp; omega)
      have LMc28 := Aside0.mk (show y190.length < 4398046511104 from by rw [hy190, hy187]; simp; omega)
      clear hy187 hy190 hy196
      go_wp2
      have HO_1 := Aside0.mk (Kd.V_drew HO17.out)
      have HDd := Aside0.mk (HDd17.out.below (below_drew1 (Below.refl _ _)))
      have HDe := Aside0.mk (HD17'.out.below (below_drew1 (Below.refl _ _)))
      have BK171 := Aside0.mk (show w17.drew.heap[gb]? = some (.cells #[.int .i64 x0, .slice A2 l2.length c2] 30 (0, 0)) from BK17.out)
      have HBw := Aside0.mk (below_drew1 HB17.out)
      clear HO17 HDd17 HD17' BK17 HB17 HD17 HX1 HX16 HX17 HDd14 HS14 BK14 HBw14 HB15 HWR HWF HD16 HF16
      refine start_ (n := 25) (S := fun w' => w'.cell? ⟨gb, 0, none⟩ = some (.int .i64 x0) ∧ w'.cell? ⟨gb, 1, none⟩ = some (.slice A2 l2.length c2)) (ds := []) #[false, false, false, false, false, false, false, false, false, false, false, false, false, false, false, false, false, false, false, false, false, false, false, false, false] (by kernel_rfl) rfl rfl ⟨(blk_cell BK171.out 0).trans rfl, (blk_cell BK171.out 1).trans rfl⟩ (fun hHeld => ?_); refine with_tabW again_tab16 again_bits16 (fun HT_ HW_ => ?_)
      generalize w17.drew = w32 at HO_1 HDd HDe BK171 HBw hHeld ⊢
      refine pure_ (i := 0) (N := some 82) (v := ?_) (a' := ?_) #[true, false, false, false, false, false, false, false, false, false, false, false, false, false, false, false, false, false, false, false, false, false, false, false, false] rfl rfl (any_of HT_.out (by kernel_rfl)) (fun _ _ _ h => h) (Or.inl ⟨by rfl, ?_⟩) ?_ ?_
      rotate_left
      · intro w'
        go_simp
        with_reducible rfl
      rotate_left
      · simp only [Act.put, List.setIfInBounds_toArray, List.set_cons_zero, List.set_cons_succ, i64_w, i32_w]
        rfl
      refine pure_ (i := 1) (N := some 83) (v := ?_) (a' := ?_) #[true, true, false, false, false, false, false, false, false, false, false, false, false, false, false, false, false, false, false, false, false, false, false, false, false] rfl rfl (any_of HT_.out (by kernel_rfl)) (fun _ _ _ h => h) (Or.inl ⟨by rfl, ?_⟩) ?_ ?_
      rotate_left
      · intro w'
        go_simp
        with_reducible rfl
      rotate_left
      · simp only [Act.put, List.setIfInBounds_toArray, List.set_cons_zero, List.set_cons_succ, i64_w, i32_w]
        rfl
      refine pure_ (i := 2) (N := some 84) (v := ?_) (a' := ?_) #[true, true, true, false, false, false, false, false, false, false, false, false, false, false, false, false, false, false, false, false, false, false, false, false, false] rfl rfl (any_of HT_.out (by kernel_rfl)) (fun _ _ _ h => h) (Or.inl ⟨by rfl, ?_⟩) ?_ ?_
      rotate_left
      · intro w'
        go_simp
        with_reducible rfl
      rotate_left
      · simp only [Act.put, List.setIfInBounds_toArray, List.set_cons_zero, List.set_cons_succ, i64_w, i32_w]
        rfl
      refine pure_ (i := 3) (N := some 85) (v := ?_) (a' := ?_) #[true, true, true, true, false, false, false, false, false, false, false, false, false, false, false, false, false, false, false, false, false, false, false, false, false] rfl rfl (any_of HT_.out (by kernel_rfl)) (fun _ _ _ h => h) (Or.inl ⟨by rfl, ?_⟩) ?_ ?_
      rotate_left
      · intro w'
        go_simp
        with_reducible rfl
      rotate_left
      · simp only [Act.put, List.setIfInBounds_toArray, List.set_cons_zero, List.set_cons_succ, i64_w, i32_w]
        rfl
      refine pure_ (i := 4) (N := some 86) (v := ?_) (a' := ?_) #[true, true, true, true, true, false, false, false, false, false, false, false, false, false, false, false, false, false, false, false, false, false, false, false, false] rfl rfl (any_of HT_.out (by kernel_rfl)) (fun _ _ _ h => h) (Or.inl ⟨by rfl, ?_⟩) ?_ ?_
      rotate_left
      · intro w'
        go_simp
        with_reducible rfl
      rotate_left
      · simp only [Act.put, List.setIfInBounds_toArray, List.set_cons_zero, List.set_cons_succ, i64_w, i32_w]
        rfl
      refine one_ (i := 5) (N := some 87) #[true, true, true, true, true, true, false, false, false, false, false, false, false, false, false, false, false, false, false, false, false, false, false, false, false] rfl rfl (one_of HT_.out (by kernel_rfl)) (by decide) (fun K hK => ?_)
      refine goes_ Try.func18 (by kernel_rfl) rfl #[.pointer (some ⟨g, 0, none⟩), .int .i64 (n : Int), .slice Ao17 out.length co17, .int .i64 (out.length : Int)] (by rfl) rfl rfl (by (try simp only [List.map_toArray, List.map_cons, List.map_nil]); first | done | rfl | (simp only [List.length_drop, List.length_take]; rfl)) ?_
      refine (HTd.out w32 HDd.out (Kd.V_mono HO_1.out (fun k_ hk => hk.2))).mono ?_
      rintro e w33 ⟨rfl, r9, hd9, hX9⟩
      refine ⟨_, rfl, ?_⟩
      have hFF := HF17d.out
      have n0_ := Aside0.mk (Kd.V_mono (ok' := (fun k_ => ¬ F17 k_ ∧ k_ ≠ gb)) (Kd.V_step HO_1.out (fun k_ hk hlt => hX9.block k_ hlt hk.2)) (fun k_ hk => hk.1))
      have n1_ := Aside0.mk (HDe.out.chg hX9 (fun x hx hF => hFF x hx hF))
      have n2_ := Aside0.mk ((hX9.block gb (blk_lt BK171.out) HGF.out).trans BK171.out)
      have n3_ := Aside0.mk (Chg.below HBw.out hX9 (below_size HBw.out) (fun x hx => Nat.le_trans (Nat.le_trans HSZ.out HBS.out) (hd9.foot x hx).1))
      clear HO_1 HDe BK171 HBw HDd hd9 hX9 hFF
      have HO_1 := n0_
      have HDe := n1_
      have BK171 := n2_
      have HBw := n3_
      have HR2w := Aside0.mk (Kd.C_below HR2.out HBw.out)
      have HB := Aside0.mk (Below.refl w33.heap.size w33)
      clear HR2
      have HR2 := HR2w
      have HFW := Aside0.mk (fun x hx => (HDe.out.foot x hx).2)
      have HGW := Aside0.mk (blk_lt BK171.out)
      clear n0_ n1_ n2_ n3_ HR2w
      refine hK.out _ _ ⟨(blk_cell BK171.out 0).trans rfl, (blk_cell BK171.out 1).trans rfl⟩ (fun hHeld => ?_)
      clear hK K
      refine norm_ (a' := ?_) ?_ ?_
      rotate_left
      · show Act.put _ (some 87) _ = _
        simp only [Act.put, List.setIfInBounds_toArray, List.set_cons_zero, List.set_cons_succ, i64_w, i32_w]
        rfl
      refine pure_ (i := 6) (N := some 88) (v := ?_) (a' := ?_) #[true, true, true, true, true, true, true, false, false, false, false, false, false, false, false, false, false, false, false, false, false, false, false, false, false] rfl rfl (any_of HT_.out (by kernel_rfl)) (fun _ _ _ h => h) (Or.inl ⟨by rfl, ?_⟩) ?_ ?_
      rotate_left
      · intro w'
        go_simp
        with_reducible rfl
      rotate_left
      · simp only [Act.put, List.setIfInBounds_toArray, List.set_cons_zero, List.set_cons_succ, i64_w, i32_w]
        rfl
      refine pure_ (i := 7) (N := some 89) (v := ?_) (a' := ?_) #[true, true, true, true, true, true, true, true, false, false, false, false, false, false, false, false, false, false, false, false, false, false, false, false, false] rfl rfl (any_of HT_.out (by kernel_rfl)) (fun _ _ _ h => h) (Or.inl ⟨by rfl, ?_⟩) ?_ ?_
      rotate_left
      · intro w'
        go_simp
        with_reducible rfl
      rotate_left
      · simp only [Act.put, List.setIfInBounds_toArray, List.set_cons_zero, List.set_cons_succ, i64_w, i32_w]
        rfl
      refine pure_ (i := 8) (N := some 90) (v := ?_) (a' := ?_) #[true, true, true, true, true, true, true, true, true, false, false, false, false, false, false, false, false, false, false, false, false, false, false, false, false] rfl rfl (any_of HT_.out (by kernel_rfl)) (fun _ _ _ h => h) (Or.inl ⟨by rfl, ?_⟩) ?_ ?_
      rotate_left
      · intro w'
        go_simp
        with_reducible rfl
      rotate_left
      · simp only [Act.put, List.setIfInBounds_toArray, List.set_cons_zero, List.set_cons_succ, i64_w, i32_w]
        rfl
      refine pure_ (i := 10) (N := some 92) (v := ?_) (a' := ?_) #[true, true, true, true, true, true, true, true, true, false, true, false, false, false, false, false, false, false, false, false, false, false, false, false, false] rfl rfl (any_of HT_.out (by kernel_rfl)) (fun _ _ _ h => h) (Or.inl ⟨by rfl, ?_⟩) ?_ ?_
      rotate_left
      · intro w'
        go_simp
        with_reducible rfl
      rotate_left
      · simp only [Act.put, List.setIfInBounds_toArray, List.set_cons_zero, List.set_cons_succ, i64_w, i32_w]
        rfl
      refine pure_ (i := 12) (N := some 94) (v := ?_) (a' := ?_) #[true, true, true, true, true, true, true, true, true, false, true, false, true, false, false, false, false, false, false, false, false, false, false, false, false] rfl rfl (any_of HT_.out (by kernel_rfl)) (fun _ _ _ h => h) (Or.inl ⟨by rfl, ?_⟩) ?_ ?_
      rotate_left
      · intro w'
        go_simp
        with_reducible rfl
      rotate_left
      · simp only [Act.put, List.setIfInBounds_toArray, List.set_cons_zero, List.set_cons_succ, i64_w, i32_w]
        rfl
      refine pure_ (i := 13) (N := some 95) (v := ?_) (a' := ?_) #[true, true, true, true, true, true, true, true, true, false, true, false, true, true, false, false, false, false, false, false, false, false, false, false, false] rfl rfl (any_of HT_.out (by kernel_rfl)) (fun _ _ _ h => h) (Or.inl ⟨by rfl, ?_⟩) ?_ ?_
      rotate_left
      · intro w'
        go_simp
        with_reducible rfl
      rotate_left
      · simp only [Act.put, List.setIfInBounds_toArray, List.set_cons_zero, List.set_cons_succ, i64_w, i32_w]
        rfl
      refine pure_ (i := 19) (N := some 101) (v := ?_) (a' := ?_) #[true, true, true, true, true, true, true, true, true, false, true, false, true, true, false, false, false, false, false, true, false, false, false, false, false] rfl rfl (any_of HT_.out (by kernel_rfl)) (fun _ _ _ h => h) (Or.inl ⟨by rfl, ?_⟩) ?_ ?_
      rotate_left
      · intro w'
        go_simp
        with_reducible rfl
      rotate_left
      · simp only [Act.put, List.setIfInBounds_toArray, List.set_cons_zero, List.set_cons_succ, i64_w, i32_w]
        rfl
      refine pure_ (i := 20) (N := some 102) (v := ?_) (a' := ?_) #[true, true, true, true, true, true, true, true, true, false, true, false, true, true, false, false, false, false, false, true, true, false, false, false, false] rfl rfl (any_of HT_.out (by kernel_rfl)) (fun _ _ _ h => h) (Or.inl ⟨by rfl, ?_⟩) ?_ ?_
      rotate_left
      · intro w'
        go_simp
        with_reducible rfl
      rotate_left
      · simp only [Act.put, List.setIfInBounds_toArray, List.set_cons_zero, List.set_cons_succ, i64_w, i32_w]
        rfl
      refine pure_ (i := 21) (N := some 103) (v := ?_) (a' := ?_) #[true, true, true, true, true, true, true, true, true, false, true, false, true, true, false, false, false, false, false, true, true, true, false, false, false] rfl rfl (any_of HT_.out (by kernel_rfl)) (fun _ _ _ h => h) (Or.inl ⟨by rfl, ?_⟩) ?_ ?_
      rotate_left
      · intro w'
        go_simp
        with_reducible rfl
      rotate_left
      · simp only [Act.put, List.setIfInBounds_toArray, List.set_cons_zero, List.set_cons_succ, i64_w, i32_w]
        rfl
      refine take_ (i := 14) (N := some 96) (v := ?_) (a' := ?_) #[true, true, true, true, true, true, true, true, true, false, true, false, true, true, true, false, false, false, false, true, true, true, false, false, false] rfl rfl (take_ofW HT_.out HW_.out (by kernel_rfl)) (fun _ _ _ h => h) (Or.inl ⟨by rfl, ?_⟩) hHeld ?_ ?_
      rotate_left
      · rintro w' ⟨s0, s1⟩
        go_simp
        with_reducible rfl
      rotate_left
      · simp only [Act.put, List.setIfInBounds_toArray, List.set_cons_zero, List.set_cons_succ, i64_w, i32_w]
        rfl
      refine one_ (i := 9) (N := some 91) #[true, true, true, true, true, true, true, true, true, true, true, false, true, true, true, false, false, false, false, true, true, true, false, false, false] rfl rfl (one_of HT_.out (by kernel_rfl)) (by decide) (fun K hK => ?_)
      refine Kd.N_lit_step k30 _ 30 ?hg (N' := 91) ?hd (xs := ([] : List (S30))) (inner := []) (ok := (fun k_ => ¬ F17 k_ ∧ k_ ≠ gb)) (okp := (fun k_ => ¬ F17 k_ ∧ k_ ≠ gb)) ?hr ?hp (fun _ hk => hk) ((show ∀ k_, w33.heap.size ≤ k_ → (fun k_ => ¬ F17 k_ ∧ k_ ≠ gb) k_ from fun k_ hk => ⟨fun hF_ => by have h1_ := HFW.out k_ hF_; omega, fun e_ => by have h1_ := HGW.out; omega⟩) _ (Nat.le_refl _)) (Below.refl _ _) (Nat.le_refl _) (by simp) ?_; (case hd => rfl); (case hg => rfl); (case hr => first | (go_simp; done) | (go_simp; rfl)); (case hp => exact (Reps.none _ _))
      intro v188 w34 ho35 hb hg_ hnew_
      clear hg_ hnew_
      (first | rw [← Ny187.out] at ho35 | (simp only [Int.reduceToNat] at ho35; rw [← Ny187.out] at ho35))
      have n0_ := Aside0.mk (Kd.V_elder' HO_1.out (Kd.N_base ho35) hb)
      have n1_ := Aside0.mk trivial
      have n2_ := Aside0.mk (Kd.N_lower ho35 (below_size (by repeat (first | (with_reducible first | exact HB.out | apply below_alloc | apply pw_below_drewN | apply below_drew1 | refine below_set ?_ GE171.out) | exact HB.out))))
      have n3_ := Aside0.mk (blk_below (g := gb) (o := .cells #[.int .i64 x0, .slice A2 l2.length c2] 30 (0, 0)) (by (with_reducible repeat (first | refine blk_drewN ?_ _ | refine blk_drew ?_ | refine blk_alloc ?_ _)); exact BK171.out) hb)
      have n4_ := Aside0.mk (below_step (by repeat (first | (with_reducible first | exact HB.out | apply below_alloc | apply pw_below_drewN | apply below_drew1 | refine below_set ?_ GE171.out) | exact HB.out)) hb)
      clear HO_1
      try clear HO184
      clear BK171
      clear HB
      have HO_1 := n0_
      have HO184 := n1_
      have HO189 := n2_
      have BK171 := n3_
      have HB := n4_
      clear n0_ n1_ n2_ n3_ n4_
      clear hb ho35
      refine hK.out _ _ ⟨(blk_cell BK171.out 0).trans rfl, (blk_cell BK171.out 1).trans rfl⟩ (fun hHeld => ?_)
      clear hK K
      refine norm_ (a' := ?_) ?_ ?_
      rotate_left
      · show Act.put _ (some 91) _ = _
        simp only [Act.put, List.setIfInBounds_toArray, List.set_cons_zero, List.set_cons_succ, i64_w, i32_w]
        rfl
      refine one_ (i := 11) (N := some 93) #[true, true, true, true, true, true, true, true, true, true, true, true, true, true, true, false, false, false, false, true, true, true, false, false, false] rfl rfl (one_of HT_.out (by kernel_rfl)) (by decide) (fun K hK => ?_)
      refine Kd.N_append_rows_step k30 (w0 := w33) w33.heap.size (by rfl) (.tmp 91) (.tmp 92) 22 30 (.agg #[(.int .i64 0), (.slice none 0 0)]) 32 rfl Try.underlying22 info30 rfl (by decide) (by omega) v188 y187 out _ _ _ (fun k_ => ¬ F17 k_ ∧ k_ ≠ gb) (fun k_ => ((fun k_ => ¬ F17 k_ ∧ k_ ≠ gb)) k_ ∧ some k_ ≠ (v188 : Value).ownBlock) rfl rfl ?aO ?aR (fun _ hk => hk) ?aF ?aB ?aS ?aL ?_
      (case aR => exact (Kd.V_F HO_1.out))
      (case aB => exact (by repeat (first | (with_reducible first | exact HB.out | apply below_alloc | apply pw_below_drewN | apply below_drew1 | refine below_set ?_ GE171.out) | exact HB.out)))
      (case aF => exact (fun k_ hk => ⟨fun hF_ => by have h1_ := HFW.out k_ hF_; have h2_ := below_size HB.out; omega, fun e_ => by have h1_ := HGW.out; have h2_ := below_size HB.out; omega⟩))
      (case aO => exact (by (with_reducible repeat (first | apply Kd.N_alloc | apply Kd.N_drewN | apply Kd.N_drew)); exact HO189.out))
      (case aS => exact (below_size (by repeat (first | (with_reducible first | exact HB.out | apply below_alloc | apply pw_below_drewN | apply below_drew1 | refine below_set ?_ GE171.out) | exact HB.out))))
      (case aL => have := LMc26.out; omega)
      intro v191 w36 ho hb hg hat
      rw [← Ny190.out] at ho
      have n0_ := Aside0.mk trivial
      have n1_ := Aside0.mk (blk_grown (g := gb) (o := .cells #[.int .i64 x0, .slice A2 l2.length c2] 30 (0, 0)) (by (with_reducible repeat (first | refine blk_drewN ?_ _ | refine blk_drew ?_ | refine blk_alloc ?_ _)); exact BK171.out) hg (Kd.N_away HO189.out (fun _ hk => hk.2)))
      have n2_ := Aside0.mk trivial
      have n3_ := Aside0.mk (hb)
      have n4_ := Aside0.mk (ho)
      clear HO_1
      clear BK171
      try clear HO184
      clear HB
      clear HO189
      have HO_1 := n0_
      have BK171 := n1_
      have HO184 := n2_
      have HB := n3_
      have HO192 := n4_
      clear n0_ n1_ n2_ n3_ n4_
      clear ho hb hg hat
      refine hK.out _ _ ⟨(blk_cell BK171.out 0).trans rfl, (blk_cell BK171.out 1).trans rfl⟩ (fun hHeld => ?_)
      clear hK K
      refine norm_ (a' := ?_) ?_ ?_
      rotate_left
      · show Act.put _ (some 93) _ = _
        simp only [Act.put, List.setIfInBounds_toArray, List.set_cons_zero, List.set_cons_succ, i64_w, i32_w]
        rfl
      refine one_ (i := 15) (N := some 97) #[true, true, true, true, true, true, true, true, true, true, true, true, true, true, true, true, false, false, false, true, true, true, false, false, false] rfl rfl (one_of HT_.out (by kernel_rfl)) (by decide) (fun K hK => ?_)
      refine goes_ Try.func22 (by kernel_rfl) rfl #[.slice A2 l2.length c2] (by rfl) rfl rfl (by (try simp only [List.map_toArray, List.map_cons, List.map_nil]); first | done | rfl | (simp only [List.length_drop, List.length_take]; rfl)) ?_
      with_reducible refine (kilnlaw3_sector.calls kB _ _ l2 t322 _ ?side1 ?side2 HSEC.out).mono ?_
      (case side1 => repeat (first | exact (Kd.C_below HR2.out HB.out) | (with_reducible refine Kd.C_alloc ?_ _) | (with_reducible refine Kd.C_drewN ?_ _) | (with_reducible refine Kd.C_drew ?_)))
      (case side2 => exact HC2.out)
      rintro e w37 ⟨v194, rfl, ho0, hb⟩
      refine ⟨_, rfl, ?_⟩
      have n0_ := Aside0.mk trivial
      have n1_ := Aside0.mk trivial
      have n2_ := Aside0.mk (Kd.N_elder' (by (with_reducible repeat (first | apply Kd.N_alloc | apply Kd.N_drewN | apply Kd.N_drew)); exact HO192.out) (Kd.R_base ho0) hb)
      have n3_ := Aside0.mk (show Kd.R (Kd.int .u8) 5 w37 w33.heap.size (fun k_ => True ∧ ¬ F17 k_) v194 t322 from Kd.R_lower (Kd.R_of_own (Kd.own_of_R ho0) (fun k_ hk => ⟨trivial, fun hF_ => by have h1_ := HFW.out k_ hF_; have h2_ := below_size HB.out; have h3_ := Kd.R_base ho0 k_ hk; omega⟩)) (below_size HB.out))
      have n4_ := Aside0.mk (blk_below (g := gb) (o := .cells #[.int .i64 x0, .slice A2 l2.length c2] 30 (0, 0)) (by (with_reducible repeat (first | refine blk_drewN ?_ _ | refine blk_drew ?_ | refine blk_alloc ?_ _)); exact BK171.out) hb)
      have n5_ := Aside0.mk (below_step (by repeat (first | (with_reducible first | exact HB.out | apply below_alloc | apply pw_below_drewN | apply below_drew1 | refine below_set ?_ GE171.out) | exact HB.out)) hb)
      clear HO_1
      try clear HO184
      clear HO192
      clear BK171
      clear HB
      have HO_1 := n0_
      have HO184 := n1_
      have HO192 := n2_
      have HO195 := n3_
      have BK171 := n4_
      have HB := n5_
      clear n0_ n1_ n2_ n3_ n4_ n5_
      (try clear hb)
      (try clear hb2)
      (try clear hk)
      (try clear hi)
      (try clear ho0)
      obtain ⟨Ao38, co38, eo38⟩ := Kd.R_slice HO195.out
      (first | subst eo38 | (injection eo38 with f1_ f2_ f3_; have f4_ := f1_.symm; have f5_ := f3_.symm; clear f1_ f2_ f3_; subst f4_; subst f5_))
      refine hK.out _ _ ⟨(blk_cell BK171.out 0).trans rfl, (blk_cell BK171.out 1).trans rfl⟩ (fun hHeld => ?_)
      clear hK K
      refine norm_ (a' := ?_) ?_ ?_
      rotate_left
      · show Act.put _ (some 97) _ = _
        simp only [Act.put, List.setIfInBounds_toArray, List.set_cons_zero, List.set_cons_succ, i64_w, i32_w]
        rfl
      refine pure_ (i := 16) (N := some 98) (v := ?_) (a' := ?_) #[true, true, true, true, true, true, true, true, true, true, true, true, true, true, true, true, true, false, false, true, true, true, false, false, false] rfl rfl (any_of HT_.out (by kernel_rfl)) (fun _ _ _ h => h) (Or.inl ⟨by rfl, ?_⟩) ?_ ?_
      rotate_left
      · intro w'
        go_simp
        with_reducible rfl
      rotate_left
      · simp only [Act.put, List.setIfInBounds_toArray, List.set_cons_zero, List.set_cons_succ, i64_w, i32_w]
        rfl
      refine one_ (i := 17) (N := some 99) #[true, true, true, true, true, true, true, true, true, true, true, true, true, true, true, true, true, true, false, true, true, true, false, false, false] rfl rfl (one_of HT_.out (by kernel_rfl)) (by decide) (fun K hK => ?_)
      refine value_ (w1 := ?_) (v := ?_) (by rfl) rfl ?_ ?_
      rotate_left 2
      · go_simp
        constructor
        · rfl
        · rfl
      refine hK.out _ _ ⟨(blk_cell (blk_alloc BK171.out _) 0).trans rfl, (blk_cell (blk_alloc BK171.out _) 1).trans rfl⟩ (fun hHeld => ?_)
      clear hK K
      refine norm_ (a' := ?_) ?_ ?_
      rotate_left
      · show Act.put _ (some 99) _ = _
        simp only [Act.put, List.setIfInBounds_toArray, List.set_cons_zero, List.set_cons_succ, i64_w, i32_w]
        rfl
      refine one_ (i := 18) (N := some 100) #[true, true, true, true, true, true, true, true, true, true, true, true, true, true, true, true, true, true, true, true, true, true, false, false, false] rfl rfl (one_of HT_.out (by kernel_rfl)) (by decide) (fun K hK => ?_)
      refine Kd.N_append_step k30 (w0 := w33) w33.heap.size (by rfl) (.tmp 93) (.tmp 99) 22 30 (.agg #[(.int .i64 0), (.slice none 0 0)]) 32 rfl Try.underlying22 info30 rfl (by decide) (by omega) v191 y190 (⟨(i0 : Int), t322⟩ : S30) [.int .i64 (i0 : Int), .slice Ao38 t322.length co38] (fun k_ => ¬ F17 k_ ∧ k_ ≠ gb) (fun k_ => ((fun k_ => ¬ F17 k_ ∧ k_ ≠ gb)) k_ ∧ some k_ ≠ (v191 : Value).ownBlock) rfl rfl ?aP (fun _ hk => hk) ?aF ?aO ?aB ?aS ?aL ?_
      (case aP => exact (k30_mkF _ _ (⟨(i0 : Int), t322⟩ : S30) (Kd.R_reads' (Kd.R_mono (ok' := (fun k_ => ((fun k_ => ¬ F17 k_ ∧ k_ ≠ gb)) k_ ∧ some k_ ≠ (v191 : Value).ownBlock)) (Kd.R_types (Kd.R_apart' (HO195.out) (Kd.N_typed HO192.out) (by decide)) BK171.out (by decide)) (fun k_ hk => ⟨⟨hk.1.1.2, hk.2⟩, hk.1.2⟩))).2.1 (Kd.R_F (Kd.R_mono (ok' := (fun k_ => ((fun k_ => ¬ F17 k_ ∧ k_ ≠ gb)) k_ ∧ some k_ ≠ (v191 : Value).ownBlock)) (Kd.R_types (Kd.R_apart' (HO195.out) (Kd.N_typed HO192.out) (by decide)) BK171.out (by decide)) (fun k_ hk => ⟨⟨hk.1.1.2, hk.2⟩, hk.1.2⟩)))))
      (case aB => exact (by repeat (first | (with_reducible first | exact HB.out | apply below_alloc | apply pw_below_drewN | apply below_drew1 | refine below_set ?_ GE171.out) | exact HB.out)))
      (case aF => exact (fun k_ hk => ⟨fun hF_ => by have h1_ := HFW.out k_ hF_; have h2_ := below_size HB.out; omega, fun e_ => by have h1_ := HGW.out; have h2_ := below_size HB.out; omega⟩))
      (case aO => exact (by (with_reducible repeat (first | apply Kd.N_alloc | apply Kd.N_drewN | apply Kd.N_drew)); exact Kd.N_mono HO192.out (fun _ hk => hk.1)))
      (case aS => exact (below_size (by repeat (first | (with_reducible first | exact HB.out | apply below_alloc | apply pw_below_drewN | apply below_drew1 | refine below_set ?_ GE171.out) | exact HB.out))))
      (case aL => have := LMc28.out; omega)
      intro v197 w39 ho hb hg hat
      rw [← Ny196.out] at ho
      have n0_ := Aside0.mk trivial
      have n1_ := Aside0.mk (blk_grown (g := gb) (o := .cells #[.int .i64 x0, .slice A2 l2.length c2] 30 (0, 0)) (by (with_reducible repeat (first | refine blk_drewN ?_ _ | refine blk_drew ?_ | refine blk_alloc ?_ _)); exact BK171.out) hg (Kd.N_away HO192.out (fun _ hk => hk.1.2)))
      have n2_ := Aside0.mk trivial
      have n3_ := Aside0.mk (hb)
      have n4_ := Aside0.mk (ho)
      clear HO_1
      clear BK171
      try clear HO184
      clear HB
      clear HO192
      clear HO195
      have HO_1 := n0_
      have BK171 := n1_
      have HO184 := n2_
      have HB := n3_
      have HO198 := n4_
      clear n0_ n1_ n2_ n3_ n4_
      clear ho hb hg hat
      obtain ⟨Ao40, co40, eo40⟩ := Kd.N_slice HO198.out
      (first | subst eo40 | (injection eo40 with f1_ f2_ f3_; have f4_ := f1_.symm; have f5_ := f3_.symm; clear f1_ f2_ f3_; subst f4_; subst f5_))
      refine hK.out _ _ ⟨(blk_cell BK171.out 0).trans rfl, (blk_cell BK171.out 1).trans rfl⟩ (fun hHeld => ?_)
      clear hK K
      refine norm_ (a' := ?_) ?_ ?_
      rotate_left
      · show Act.put _ (some 100) _ = _
        simp only [Act.put, List.setIfInBounds_toArray, List.set_cons_zero, List.set_cons_succ, i64_w, i32_w]
        rfl
      refine one_ (i := 22) (N := some 104) #[true, true, true, true, true, true, true, true, true, true, true, true, true, true, true, true, true, true, true, true, true, true, true, false, false] rfl rfl (one_of HT_.out (by kernel_rfl)) (by decide) (fun K hK => ?_)
      refine goes_ Try.func18 (by kernel_rfl) rfl #[.pointer (some ⟨g2, 0, none⟩), .int .i64 (n : Int), .slice Ao40 y196.length co40, .int .i64 (wrap64 ((out.length : Int) + 1))] (by rfl) rfl rfl (by (try simp only [List.map_toArray, List.map_cons, List.map_nil]); first | done | rfl | (simp only [List.length_drop, List.length_take]; rfl)) ?_
      refine (HTe.out _ Ao40 co40 y196 (by rw [Ny196.out, Ny190.out, Ny187.out]; rfl) (HDe.out.below HB.out) (Kd.V_mono (Kd.N_V (base' := 0) HO198.out) (fun k_ hk => hk.1))).mono ?_
      rintro e w41 ⟨rfl, r8, hd8, hX8⟩
      refine ⟨_, rfl, ?_⟩
      have n3_ := Aside0.mk ((hX8.block gb (blk_lt BK171.out) HGE.out).trans BK171.out)
      have n4_ := Aside0.mk (Chg.below (below_step HBw.out HB.out) hX8 (below_size (below_step HBw.out HB.out)) (fun x hx => Nat.le_trans HS10.out (HF17g.out x hx)))
      clear BK171 HBw HB hd8 hX8
      have BK171 := n3_
      have HBw := n4_
      clear n3_ n4_
      refine hK.out _ _ ⟨(blk_cell BK171.out 0).trans rfl, (blk_cell BK171.out 1).trans rfl⟩ (fun hHeld => ?_)
      clear hK K
      refine norm_ (a' := ?_) ?_ ?_
      rotate_left
      · show Act.put _ (some 104) _ = _
        simp only [Act.put, List.setIfInBounds_toArray, List.set_cons_zero, List.set_cons_succ, i64_w, i32_w]
        rfl
      refine pure_ (i := 23) (N := some 105) (v := ?_) (a' := ?_) #[true, true, true, true, true, true, true, true, true, true, true, true, true, true, true, true, true, true, true, true, true, true, true, true, false] rfl rfl (any_of HT_.out (by kernel_rfl)) (fun _ _ _ h => h) (Or.inl ⟨by rfl, ?_⟩) ?_ ?_
      rotate_left
      · intro w'
        go_simp
        with_reducible rfl
      rotate_left
      · simp only [Act.put, List.setIfInBounds_toArray, List.set_cons_zero, List.set_cons_succ, i64_w, i32_w]
        rfl
      refine pure_ (i := 24) (N := some 6) (v := ?_) (a' := ?_) #[true, true, true, true, true, true, true, true, true, true, true, true, true, true, true, true, true, true, true, true, true, true, true, true, true] rfl rfl (any_of HT_.out (by kernel_rfl)) (fun _ _ _ h => h) (Or.inl ⟨by rfl, ?_⟩) ?_ ?_
      rotate_left
      · intro w'
        go_simp
        with_reducible rfl
      rotate_left
      · simp only [Act.put, List.setIfInBounds_toArray, List.set_cons_zero, List.set_cons_succ, i64_w, i32_w]
        rfl
      refine done_ (done_of HT_.out (by kernel_rfl)) ?_
      try go_wp2
      go_ret
      exact ⟨rfl, HBw.out⟩

end Go.Proofs.Ytddnhcnkjcdfgaa.M
