-- DiskWhole: the walk
import Derived.Test.YtddnhcnkjcdfgaaDw
import Derived.Test.YtddnhcnkjcdfgaaDy
namespace Go.Proofs.Ytddnhcnkjcdfgaa.M
open Go.RowKit Go.Maps Go.Proofs.YtddnhcnkjcdfgaaW.PrintWords Go.Proofs.YtddnhcnkjcdfgaaW.PrintLast Go.Proofs.YtddnhcnkjcdfgaaW.PrintMore
open Go.Proofs.Ytddnhcnkjcdfgaa.P
attribute [local go_sem] max2_int min2_int max_two min_two max_three min_three max_four min_four
set_option linter.unusedVariables false
set_option linter.unusedSimpArgs false
/-- The writes, one by one. -/
def puts (s : DS) (out : List S30) : Nat → DS
  | 0 => s
  | j + 1 => (puts s out j).put (rd_T30 out (j : Int)).f0.toNat (rd_T30 out (j : Int)).f1
theorem puts_n (s : DS) (out : List S30) : ∀ j, (puts s out j).n = s.n
  | 0 => rfl
  | j + 1 => puts_n s out j
theorem puts_c (s : DS) (out : List S30) : ∀ j, (puts s out j).c = s.c + j
  | 0 => rfl
  | j + 1 => by show (puts s out j).c + 1 = _; rw [puts_c s out j]; omega
set_option maxHeartbeats 8000000 in
set_option maxRecDepth 100000 in
theorem whole_calls (k1 k2 : Nat) (a0 : Int) (A1 : Option Addr) (c1 : Nat) (l1 : List S30) (A2 : Option Addr) (c2 : Nat) (l2 : List S30) (A3 : Option Addr) (c3 : Nat) (fs : List Int) (w : World)
    (hr1 : Kd.C k30 w A1 l1.length l1) (hc1 : l1.length ≤ c1) (hr2 : Kd.C k30 w A2 l2.length l2) (hc2 : l2.length ≤ c2) (hr3 : Kd.C (Kd.int .i64) w A3 fs.length fs) (hc3 : fs.length ≤ c3)
    (n : Nat) (out1 out2 : List S30) (h1 : kilnlaw3_made.f k1 a0 l1 = some (0, (n : Int), out1)) (h2 : kilnlaw3_made.f k2 a0 l2 = some (0, (n : Int), out2)) (hn2 : 2 ≤ n) (hnm : n ≤ 64) (hl1 : out1.length ≤ 100) (hl2 : out2.length ≤ 100) (hg1 : Good n out1) (hg2 : Good n out2)
    (hgreat : ∀ i, i < n → ∃ kl, kilnlaw3_last.f kl (out1 ++ out2) (i : Int) ((out1.length : Int) + (out2.length : Int)) = some (((puts (runD n out1 (-1) out1.length).flush out2 out2.length).crash (List.replicate n 1000)).cur i))
    (hamong : ∀ i, i < n → ∃ ka, kilnlaw3_among.f ka (((puts (runD n out1 (-1) out1.length).flush out2 out2.length).crash fs).L.getD i []) ((runD n out1 (-1) out1.length).flush.L.getD i []) out2 (i : Int) = some true) :
    Calls Try.prog 9 #[.int .i64 a0, .slice A1 l1.length c1, .slice A2 l2.length c2, .slice A3 fs.length c3] w fun e w' => e = .returned (.bool true) ∧ Below w.heap.size w w' := by
  have hMADE1 := Aside0.mk (kilnlaw3_made.calls k1 a0 A1 c1 l1 0 (n : Int) out1 n hn2 hnm rfl w hr1 hc1 h1)
  have hMADE2 := Aside0.mk (fun W (hW : Below w.heap.size w W) => kilnlaw3_made.calls k2 a0 A2 c2 l2 0 (n : Int) out2 n hn2 hnm rfl W (Kd.C_below hr2 hW) hc2 h2)
  have HG1 := Aside0.mk hg1
  have HG2 := Aside0.mk hg2
  have HR3 := Aside0.mk hr3
  have HGREAT := Aside0.mk hgreat
  have HAMONG := Aside0.mk hamong
  clear hgreat hamong
  clear hr1 hc1 hr2 hc2 hr3 hc3 h1 h2 hg1 hg2
  go_enter Try.func9, Try.ntmps9
  go_upto_region 3 with (first
    | (go_at_call 15; (with_reducible refine hMADE1.out.mono ?_); rintro e w1 ⟨v1, g1, F1, b1, rfl, hbase1, hd1, hs1, hbb1⟩; obtain ⟨Ao1, co1, e1⟩ := Kd.S_slice hs1; subst e1; have HD1 := Aside0.mk hd1; have HS1 := Aside0.mk (Kd.S_bound hs1); have HB1 := Aside0.mk hbb1; have HBS1 := Aside0.mk hbase1; clear hd1 hs1 hbb1 hbase1)
    | (go_at_call 15; (with_reducible refine (hMADE2.out _ HB1.out).mono ?_); rintro e w2 ⟨v2, g2, F2, b2, rfl, hbase2, hd2, hs2, hbb2⟩; obtain ⟨Ao2, co2, e2⟩ := Kd.S_slice hs2; subst e2; have HD2 := Aside0.mk hd2; have HS2 := Aside0.mk (Kd.S_bound hs2); have HB2 := Aside0.mk hbb2; have HBS2 := Aside0.mk hbase2; clear hd2 hs2 hbb2 hbase2))
  have HT0 := Aside0.mk (Two.start (HD1.out.below HB2.out) HD2.out (fun x hx hE => by have h1_ := (HD1.out.foot x hx).2; have h2_ := (HD2.out.foot x hE).1; have h3_ := HBS2.out; omega))
  have HSa := Aside0.mk (show Kd.S k30 30 w2 w.heap.size (fun k_ => ¬ F1 k_ ∧ ¬ F2 k_ ∧ k_ < w2.heap.size) _ out1 from Kd.S_mono (Kd.S_below HS1.out HB2.out) (fun k_ hk => ⟨hk.1, fun hE => by have h2_ := (HD2.out.foot k_ hE).1; have h3_ := HBS2.out; have h4_ := hk.2.2.1; omega, Nat.lt_of_lt_of_le hk.2.2.1 (below_size HB2.out)⟩))
  have HSb := Aside0.mk (show Kd.S k30 30 w2 w1.heap.size (fun k_ => ¬ F1 k_ ∧ ¬ F2 k_ ∧ k_ < w2.heap.size) _ out2 from Kd.S_mono HS2.out (fun k_ hk => ⟨fun hE => by have h2_ := (HD1.out.foot k_ hE).2; have h4_ := hk.2.1; omega, hk.1, hk.2.2.1⟩))
  have HBw := Aside0.mk (below_step HB1.out HB2.out)
  have HF1 := Aside0.mk (fun x (hx : F1 x) => Nat.le_trans HBS1.out (HD1.out.foot x hx).1)
  have HF2 := Aside0.mk (fun x (hx : F2 x) => Nat.le_trans (Nat.le_trans (below_size HB1.out) HBS2.out) (HD2.out.foot x hx).1)
  clear hMADE1 hMADE2 HS1 HS2
  go_wp2
  go_loopg [13] out1.length (fun kq v13 wr => ∃ j : Nat, v13 = .int .i64 j ∧ Aside0 (j + kq = out1.length) ∧ Aside0 (Two w2 wr b1 g1 b2 g2 F1 F2 (runD n out1 (-1) j) (runD n out1 (-1) j)))
  case atStart => exact ⟨0, rfl, ⟨Nat.zero_add _⟩, HT0⟩
  case round =>
    clear HT0
    obtain ⟨j, rfl, HJ, HT⟩ := hrel
    by_cases hj : j < out1.length
    · have hjb : decide (j < out1.length) = true := decide_eq_true hj
      have hjt : (j < out1.length) = True := eq_true hj
      obtain ⟨⟨i, hi, hf0⟩, h5⟩ := HG1.out.at_ j hj
      have HSw := Kd.S_step HSa.out (fun k_ hk hlt => HT.out.chg.block k_ hlt (fun h => h.elim hk.1 hk.2.1))
      obtain ⟨go, bb, cc, rfl, hx0, hx1, hC, hok, hog, hgo⟩ := row_at HSw j hj h5
      rw [hf0] at hx0
      have HRN := Aside0.mk (show (rd_T30 out1 (j : Int)).f0.toNat = i from by rw [hf0]; rfl)
      have HJ2 := Aside0.mk hj
      have HI := Aside0.mk hi
      have HF0 := Aside0.mk hf0
      have H5 := Aside0.mk h5
      have HWR := Aside0.mk (fun W (hW : Below wr.heap.size wr W) => (HT.out.below hW).write i (some ⟨bb, 0, none⟩) cc _ (by rw [runD_n]; exact hi) (Kd.C_below hC hW) (fun ad e => by cases e; exact ⟨hok.1, hok.2.2⟩) (by have := runD_c n out1 (-1) j; omega))
      have HOG := Aside0.mk (And.intro hog hgo)
      have hxa := Aside0.mk (And.intro hx0 hx1)
      clear hj hC hok hf0 h5 hog hgo HSw hi
      go_upto_region 8 with (fail)
      go_region_held3 (fun W => W.cell? ⟨go, j * 2, none⟩ = some (.int .i64 (i : Int)) ∧ W.cell? ⟨go, j * 2 + 1, none⟩ = some (.slice (some ⟨bb, 0, none⟩) 512 cc)) (first | exact ⟨hx0, hx1⟩ | exact HKEEP.out) ((go_at_call 16; (with_reducible refine (HWR.out _ (by repeat (first | exact Below.refl _ _ | apply below_drew1 | apply pw_below_drewN | apply below_alloc))).mono ?_); rintro e w5 ⟨rfl, hT5, hX5⟩; have hne_ := (show ¬ (F1 go ∨ w2.heap.size ≤ go) from fun h => h.elim HOG.out.1.1 (fun h => Nat.not_lt.2 h HOG.out.1.2.2)); have HKEEP := Aside0.mk (And.intro ((Chg.cell hX5 hne_ (by first | exact HOG.out.2 | simpa using HOG.out.2) (j * 2)).trans hx0) ((Chg.cell hX5 hne_ (by first | exact HOG.out.2 | simpa using HOG.out.2) (j * 2 + 1)).trans hx1)); have HT5 := Aside0.mk hT5; clear hT5 hX5 hne_))
      have HSw9 := Kd.S_step HSa.out (fun k_ hk hlt => HT5.out.chg.block k_ hlt (fun h => h.elim hk.1 hk.2.1))
      obtain ⟨go9, bb9, cc9, e9, hy0, hy1, hC9, hok9, hog9, hgo9⟩ := row_at HSw9 j HJ2.out H5.out
      cases e9
      rw [HF0.out] at hy0
      have HWR9 := Aside0.mk (fun W (hW : Below w5.heap.size w5 W) => (HT5.out.swap.below hW).write i (some ⟨bb9, 0, none⟩) cc9 _ (by rw [runD_n]; exact HI.out) (Kd.C_below hC9 hW) (fun ad e => by cases e; exact ⟨hok9.2.1, hok9.2.2⟩) (by have := runD_c n out1 (-1) j; have := HJ2.out; omega))
      have HOG9 := Aside0.mk (And.intro hog9 hgo9)
      clear hx0 hx1 hxa HSw9 hC9 hok9 hog9 hgo9 HWR HOG HKEEP
      go_upto_region 9 with (fail)
      go_region_held3 (fun W => W.cell? ⟨go, j * 2, none⟩ = some (.int .i64 (i : Int)) ∧ W.cell? ⟨go, j * 2 + 1, none⟩ = some (.slice (some ⟨bb9, 0, none⟩) 512 cc9)) (first | exact ⟨hy0, hy1⟩ | exact HKEEP.out) ((go_at_call 16; (with_reducible refine (HWR9.out _ (by repeat (first | exact Below.refl _ _ | apply below_drew1 | apply pw_below_drewN | apply below_alloc))).mono ?_); rintro e w6 ⟨rfl, hT6, hX6⟩; have hne_ := (show ¬ (F2 go ∨ w2.heap.size ≤ go) from fun h => h.elim HOG9.out.1.2.1 (fun h => Nat.not_lt.2 h HOG9.out.1.2.2)); have HKEEP := Aside0.mk (And.intro ((Chg.cell hX6 hne_ (by first | exact HOG9.out.2 | simpa using HOG9.out.2) (j * 2)).trans hy0) ((Chg.cell hX6 hne_ (by first | exact HOG9.out.2 | simpa using HOG9.out.2) (j * 2 + 1)).trans hy1)); have HT6 := Aside0.mk hT6.swap; clear hT6 hX6 hne_))
      clear hy0 hy1 HWR9 HOG9 HKEEP HT HT5
      go_wp2
      go_roundg (gk - 1)
      case measure => have := HJ.out; have := HJ2.out; omega
      case rel => exact ⟨j + 1, (by have hi_ := HJ2.out; have hl_ := hl1; first | rfl | (simp; done) | (rw [show wrap64 ((j : Int) + 1) = (j : Int) + 1 from by unfold wrap64; omega]; rfl)), ⟨by have := HJ.out; have := HJ2.out; omega⟩, ⟨by unfold runD; rw [if_neg (by omega), HRN.out]; exact HT6.out⟩⟩
    · have hjb : decide (j < out1.length) = false := decide_eq_false hj
      obtain rfl : j = out1.length := by have := HJ.out; omega
      clear hj
      obtain ⟨s0, hs0⟩ : ∃ s0, s0 = runD n out1 (-1) out1.length := ⟨_, rfl⟩
      rw [← hs0] at HT
      have hn0 : s0.n = n := by rw [hs0]; exact runD_n n out1 (-1) out1.length
      have HS0 := Aside0.mk hs0
      have HN0 := Aside0.mk hn0
      clear hs0 hn0
      have HNF := Aside0.mk (show s0.flush.n = n from HN0.out)
      have HIM := Aside0.mk (fun w9 s1 s2 (hs : s1.n = n) (hT : Two w2 w9 b1 g1 b2 g2 F1 F2 s1 s2) => (show Calls Try.prog 26 #[.pointer (some ⟨g1, 0, none⟩)] w9 (fun e w'' => ∃ go c, e = .returned (.slice (some ⟨go, 0, none⟩) n c) ∧ Kd.S KB 28 w'' w9.heap.size (fun _ => True) (.slice (some ⟨go, 0, none⟩) n c) s1.L ∧ Below w9.heap.size w9 w'') from by
        have h_ := hT.image
        rw [hs] at h_
        exact h_))
      go_upto_region 13 with (first
        | (go_at_call 17; (with_reducible refine HT.out.flush.mono ?_); rintro e w10 ⟨⟨v10, rfl⟩, hT10, _⟩; have HT10 := Aside0.mk hT10; clear hT10)
        | (go_at_call 17; (with_reducible refine HT10.out.swap.flush.mono ?_); rintro e w11 ⟨⟨v11, rfl⟩, hT11, _⟩; have HT11 := Aside0.mk hT11.swap; clear hT11)
        | (go_at_call 26; (with_reducible refine (HIM.out _ _ _ HNF.out HT11.out).mono ?_); rintro e w12 ⟨go12, c12, rfl, hs12, hb12⟩; have HB12 := Aside0.mk hb12; have HS12 := Aside0.mk hs12; clear hs12 hb12))
      obtain ⟨Fd, Fe, hd11, he11, hdis, hF1', hF2', hch⟩ := HT11.out
      have HT12 := Aside0.mk (Two.start (hd11.below HB12.out) (he11.below HB12.out) hdis)
      have hFd11 := Aside0.mk (fun x (hx : Fd x) => (hd11.foot x hx).2)
      have hFe11 := Aside0.mk (fun x (hx : Fe x) => (he11.foot x hx).2)
      have HSa12 := Aside0.mk (show Kd.S k30 30 w12 w.heap.size (fun k_ => ¬ Fd k_ ∧ ¬ Fe k_ ∧ k_ < w12.heap.size) _ out1 from Kd.S_below (Kd.S_mono (Kd.S_step HSa.out (fun k_ hk hlt => hch.block k_ hlt (fun h => h.elim hk.1 hk.2.1))) (fun k_ hk => ⟨fun h => (hF1' k_ h).elim hk.1 (fun h2 => Nat.not_lt.2 h2 hk.2.2), fun h => (hF2' k_ h).elim hk.2.1 (fun h2 => Nat.not_lt.2 h2 hk.2.2), Nat.lt_of_lt_of_le hk.2.2 (Nat.le_trans hch.size (below_size HB12.out))⟩)) HB12.out)
      have HSb12 := Aside0.mk (show Kd.S k30 30 w12 w1.heap.size (fun k_ => ¬ Fd k_ ∧ ¬ Fe k_ ∧ k_ < w12.heap.size) _ out2 from Kd.S_below (Kd.S_mono (Kd.S_step HSb.out (fun k_ hk hlt => hch.block k_ hlt (fun h => h.elim hk.1 hk.2.1))) (fun k_ hk => ⟨fun h => (hF1' k_ h).elim hk.1 (fun h2 => Nat.not_lt.2 h2 hk.2.2), fun h => (hF2' k_ h).elim hk.2.1 (fun h2 => Nat.not_lt.2 h2 hk.2.2), Nat.lt_of_lt_of_le hk.2.2 (Nat.le_trans hch.size (below_size HB12.out))⟩)) HB12.out)
      have HWas := Aside0.mk (show Kd.S KB 28 w12 w11.heap.size (fun k_ => ¬ Fd k_ ∧ ¬ Fe k_ ∧ k_ < w12.heap.size) (.slice (some ⟨go12, 0, none⟩) n c12) s0.flush.L from Kd.S_mono (Kd.S_bound HS12.out) (fun k_ hk => ⟨fun h => by have h1_ := hFd11.out k_ h; have h2_ := hk.2.1; omega, fun h => by have h1_ := hFe11.out k_ h; have h2_ := hk.2.1; omega, hk.2.2.1⟩))
      have HBw12 := Aside0.mk (below_step (Chg.below HBw.out hch (below_size HBw.out) (fun x hx => hx.elim (HF1.out x) (HF2.out x))) HB12.out)
      have HFd := Aside0.mk (fun x (hx : Fd x) => (show w.heap.size ≤ x from (hF1' x hx).elim (HF1.out x) (fun h => Nat.le_trans (below_size HBw.out) h)))
      have HFe := Aside0.mk (fun x (hx : Fe x) => (show w.heap.size ≤ x from (hF2' x hx).elim (HF2.out x) (fun h => Nat.le_trans (below_size HBw.out) h)))
      clear hd11 he11 hdis hF1' hF2' hch HT11 HT10 HT HB12 HS12 HSa HSb HBw HF1 HF2 HIM hFd11 hFe11
      go_wp2
      go_loopg [15] out2.length (fun kq v15 wr => ∃ j : Nat, v15 = .int .i64 j ∧ Aside0 (j + kq = out2.length) ∧ Aside0 (Two w12 wr b1 g1 b2 g2 Fd Fe (puts s0.flush out2 j) (puts s0.flush out2 j)))
      case atStart => exact ⟨0, rfl, ⟨Nat.zero_add _⟩, HT12⟩
      case round =>
        clear HT12
        obtain ⟨j, rfl, HJ, HT⟩ := hrel
        by_cases hj : j < out2.length
        · have hjb : decide (j < out2.length) = true := decide_eq_true hj
          have hjt : (j < out2.length) = True := eq_true hj
          obtain ⟨⟨i, hi, hf0⟩, h5⟩ := HG2.out.at_ j hj
          have HSw := Kd.S_step HSb12.out (fun k_ hk hlt => HT.out.chg.block k_ hlt (fun h => h.elim hk.1 hk.2.1))
          obtain ⟨go, bb, cc, rfl, hx0, hx1, hC, hok, hog, hgo⟩ := row_at HSw j hj h5
          rw [hf0] at hx0
          have HRN := Aside0.mk (show (rd_T30 out2 (j : Int)).f0.toNat = i from by rw [hf0]; rfl)
          have HJ2 := Aside0.mk hj
          have HI := Aside0.mk hi
          have HF0 := Aside0.mk hf0
          have H5 := Aside0.mk h5
          have HWR := Aside0.mk (fun W (hW : Below wr.heap.size wr W) => (HT.out.below hW).write i (some ⟨bb, 0, none⟩) cc _ (by rw [puts_n, HNF.out]; exact hi) (Kd.C_below hC hW) (fun ad e => by cases e; exact ⟨hok.1, hok.2.2⟩) (by have h_ := puts_c s0.flush out2 j; have h0_ : s0.flush.c = 0 := rfl; omega))
          have HOG := Aside0.mk (And.intro hog hgo)
          have hxa := Aside0.mk (And.intro hx0 hx1)
          clear hj hC hok hf0 h5 hog hgo HSw hi
          go_upto_region 16 with (fail)
          go_region_held3 (fun W => W.cell? ⟨go, j * 2, none⟩ = some (.int .i64 (i : Int)) ∧ W.cell? ⟨go, j * 2 + 1, none⟩ = some (.slice (some ⟨bb, 0, none⟩) 512 cc)) (first | exact ⟨hx0, hx1⟩ | exact HKEEP.out) ((go_at_call 16; (with_reducible refine (HWR.out _ (by repeat (first | exact Below.refl _ _ | apply below_drew1 | apply pw_below_drewN | apply below_alloc))).mono ?_); rintro e w5 ⟨rfl, hT5, hX5⟩; have hne_ := (show ¬ (Fd go ∨ w12.heap.size ≤ go) from fun h => h.elim HOG.out.1.1 (fun h => Nat.not_lt.2 h HOG.out.1.2.2)); have HKEEP := Aside0.mk (And.intro ((Chg.cell hX5 hne_ (by first | exact HOG.out.2 | simpa using HOG.out.2) (j * 2)).trans hx0) ((Chg.cell hX5 hne_ (by first | exact HOG.out.2 | simpa using HOG.out.2) (j * 2 + 1)).trans hx1)); have HT5 := Aside0.mk hT5; clear hT5 hX5 hne_))
          have HSw9 := Kd.S_step HSb12.out (fun k_ hk hlt => HT5.out.chg.block k_ hlt (fun h => h.elim hk.1 hk.2.1))
          obtain ⟨go9, bb9, cc9, e9, hy0, hy1, hC9, hok9, hog9, hgo9⟩ := row_at HSw9 j HJ2.out H5.out
          cases e9
          rw [HF0.out] at hy0
          have HWR9 := Aside0.mk (fun W (hW : Below w5.heap.size w5 W) => (HT5.out.swap.below hW).write i (some ⟨bb9, 0, none⟩) cc9 _ (by rw [puts_n, HNF.out]; exact HI.out) (Kd.C_below hC9 hW) (fun ad e => by cases e; exact ⟨hok9.2.1, hok9.2.2⟩) (by have h_ := puts_c s0.flush out2 j; have h0_ : s0.flush.c = 0 := rfl; have := HJ2.out; omega))
          have HOG9 := Aside0.mk (And.intro hog9 hgo9)
          clear hx0 hx1 hxa HSw9 hC9 hok9 hog9 hgo9 HWR HOG HKEEP
          go_upto_region 17 with (fail)
          go_region_held3 (fun W => W.cell? ⟨go, j * 2, none⟩ = some (.int .i64 (i : Int)) ∧ W.cell? ⟨go, j * 2 + 1, none⟩ = some (.slice (some ⟨bb9, 0, none⟩) 512 cc9)) (first | exact ⟨hy0, hy1⟩ | exact HKEEP.out) ((go_at_call 16; (with_reducible refine (HWR9.out _ (by repeat (first | exact Below.refl _ _ | apply below_drew1 | apply pw_below_drewN | apply below_alloc))).mono ?_); rintro e w6 ⟨rfl, hT6, hX6⟩; have hne_ := (show ¬ (Fe go ∨ w12.heap.size ≤ go) from fun h => h.elim HOG9.out.1.2.1 (fun h => Nat.not_lt.2 h HOG9.out.1.2.2)); have HKEEP := Aside0.mk (And.intro ((Chg.cell hX6 hne_ (by first | exact HOG9.out.2 | simpa using HOG9.out.2) (j * 2)).trans hy0) ((Chg.cell hX6 hne_ (by first | exact HOG9.out.2 | simpa using HOG9.out.2) (j * 2 + 1)).trans hy1)); have HT6 := Aside0.mk hT6.swap; clear hT6 hX6 hne_))
          clear hy0 hy1 HWR9 HOG9 HKEEP HT HT5
          go_wp2
          go_roundg (gk - 1)
          case measure => have := HJ.out; have := HJ2.out; omega
          case rel => exact ⟨j + 1, (by have hi_ := HJ2.out; have hl_ := hl2; first | rfl | (simp; done) | (rw [show wrap64 ((j : Int) + 1) = (j : Int) + 1 from by unfold wrap64; omega]; rfl)), ⟨by have := HJ.out; have := HJ2.out; omega⟩, ⟨by unfold puts; rw [HRN.out]; exact HT6.out⟩⟩
        · have hjb : decide (j < out2.length) = false := decide_eq_false hj
          obtain rfl : j = out2.length := by have := HJ.out; omega
          clear hj
          have HBr := Aside0.mk (Chg.below HBw12.out HT.out.chg (below_size HBw12.out) (fun x hx => hx.elim (HFd.out x) (HFe.out x)))
          obtain ⟨s3, hs3⟩ : ∃ s3, s3 = puts s0.flush out2 out2.length := ⟨_, rfl⟩
          rw [← hs3] at HT
          have hn3 : s3.n = n := by rw [hs3, puts_n]; exact HNF.out
          have hc3' : s3.c < 1073741824 := by have h_ := puts_c s0.flush out2 out2.length; have h0_ : s0.flush.c = 0 := rfl; rw [hs3]; omega
          have HS3 := Aside0.mk hs3
          have HN3 := Aside0.mk hn3
          have HC3 := Aside0.mk hc3'
          have HCR := Aside0.mk (HT.out.crash hc3' A3 c3 fs HR3.out HBr.out HFd.out (below_size HBw12.out))
          clear hs3 hn3 hc3'
          go_upto_region 19 with (go_at_call 30; (with_reducible refine HCR.out.mono ?_); rintro e w18 ⟨⟨v18, rfl⟩, hT18, hX18⟩; have HT18 := Aside0.mk hT18; have HB18 := Aside0.mk (Chg.below HBr.out hX18 (below_size HBr.out) (fun x hx => hx.elim (HFd.out x) (Nat.le_trans (below_size HBw12.out)))); clear hT18 hX18)
          clear HCR HT HBr
          go_wp2
          go_loopg [16, 17] n (fun kq v16 v17 wr => ∃ q : Nat, v17 = .int .i64 q ∧ Aside0 (q + kq = n) ∧ Aside0 (Kd.R (Kd.int .i64) 3 wr w18.heap.size (fun _ => True) v16 (List.replicate q 1000)) ∧ Aside0 (Below w18.heap.size w18 wr))
          case atStart => exact ⟨0, rfl, ⟨Nat.zero_add _⟩, ⟨Kd.R_nil _ _ _ _ _⟩, ⟨Below.refl _ _⟩⟩
          case round =>
            obtain ⟨q, rfl, HQ, HRq, HBq⟩ := hrel
            by_cases hq : q < n
            · have hqb : decide (q < n) = true := decide_eq_true hq
              have HQ2 := Aside0.mk hq
              clear hq
              go_wp2_with ((with_reducible refine gate_builtin (b := .append) (xs := #[.tmp 116, .tmp 117]) rfl ?_); at_builtin; refine Kd.R_append (Kd.int .i64) (w0 := w18) w18.heap.size rfl (.tmp 116) (.tmp 117) 51 3 (.int .i64 0) 8 rfl Try.underlying51 info3 rfl (by decide) (by omega) u16 (List.replicate q 1000) (1000 : Int) [.int .i64 1000] (fun _ => True) (fun _ => False) rfl rfl ?aP (fun _ hk => hk.elim) ?aF ?aO ?aB ?aS ?aL ?_; (case aP => exact rfl); (case aB => exact (by repeat (first | (with_reducible first | exact HBq.out | apply below_alloc | apply pw_below_drewN | apply below_drew1) | exact HBq.out))); (case aF => exact (fun k_ hk => trivial)); (case aO => exact (by (with_reducible repeat (first | apply Kd.R_alloc | apply Kd.R_drewN | apply Kd.R_drew)); exact HRq.out)); (case aS => exact (below_size (by repeat (first | (with_reducible first | exact HBq.out | apply below_alloc | apply pw_below_drewN | apply below_drew1) | exact HBq.out)))); (case aL => have h1_ := HQ2.out; have h2_ := hnm; simp; omega); intro v25 w25 ho hb hg hat; have HO25 := Aside0.mk ho; have HB25 := Aside0.mk hb; clear ho hb hg hat)
              go_roundg (gk - 1)
              case measure => have := HQ.out; have := HQ2.out; omega
              case rel => exact ⟨q + 1, (by have hi_ := HQ2.out; have hl_ := hnm; first | rfl | (simp; done) | (rw [show wrap64 ((q : Int) + 1) = (q : Int) + 1 from by unfold wrap64; omega]; rfl)), ⟨by have := HQ.out; have := HQ2.out; omega⟩, ⟨by rw [List.replicate_succ']; exact HO25.out⟩, HB25⟩
            · have hqb : decide (q < n) = false := decide_eq_false hq
              obtain rfl : q = n := by have := HQ.out; omega
              clear hq
              have HTq := Aside0.mk (HT18.out.below HBq.out)
              obtain ⟨Ag, cg, eg⟩ := Kd.R_slice HRq.out
              subst eg
              have HCE := Aside0.mk (show Calls Try.prog 30 #[.pointer (some ⟨g2, 0, none⟩), .slice Ag q cg] wr (fun e w'' => (∃ v, e = .returned v) ∧ Two w12 w'' b2 g2 b1 g1 Fe Fd (s3.crash (List.replicate q 1000)) (s3.crash fs) ∧ Chg (fun x => Fe x ∨ w12.heap.size ≤ x) wr w'') from by
                have h_ := HTq.out.swap.crash_own HC3.out Ag cg (List.replicate q (1000 : Int)) HRq.out
                rw [List.length_replicate] at h_
                exact h_)
              have HIMf := Aside0.mk (fun w9 sa (hs : sa.n = q) (sb : DS) (hT : Two w12 w9 b1 g1 b2 g2 Fd Fe sa sb) => (show Calls Try.prog 26 #[.pointer (some ⟨g1, 0, none⟩)] w9 (fun e w'' => ∃ go c, e = .returned (.slice (some ⟨go, 0, none⟩) q c) ∧ Kd.S KB 28 w'' w9.heap.size (fun _ => True) (.slice (some ⟨go, 0, none⟩) q c) sa.L ∧ Below w9.heap.size w9 w'') from by
                have h_ := hT.image
                rw [hs] at h_
                exact h_))
              have HNc := Aside0.mk (show (s3.crash fs).n = q from HN3.out)
              go_upto_region 26 with (first
                | (go_at_call 30; (with_reducible refine HCE.out.mono ?_); rintro e w24 ⟨⟨v24, rfl⟩, hT24, hX24⟩; have HT24 := Aside0.mk hT24.swap; clear hT24 hX24)
                | (go_at_call 26; (with_reducible refine (HIMf.out _ _ HNc.out _ HT24.out).mono ?_); rintro e w25 ⟨go25, c25, rfl, hs25, hb25⟩; have HB25 := Aside0.mk hb25; have HS25 := Aside0.mk hs25; clear hs25 hb25))
              obtain ⟨Fx, Fy, hdx, hdy, hdis2, hFx', hFy', hch2⟩ := HT24.out
              have HT25 := Aside0.mk (Two.start (hdx.below HB25.out) (hdy.below HB25.out) hdis2)
              have HFy := Aside0.mk (fun x (hx : Fy x) => Nat.lt_of_lt_of_le (hdy.foot x hx).2 (below_size HB25.out))
              have HVa := Aside0.mk (show Kd.V k30 30 w25 0 (fun k_ => ¬ Fy k_ ∧ k_ < w25.heap.size) (.slice Ao1 out1.length co1) out1 from Kd.V_mono (Kd.V_below (Kd.V_step (Kd.S_V (base' := 0) HSa12.out) (fun k_ hk hlt => hch2.block k_ hlt (fun h => h.elim hk.1 hk.2.1))) HB25.out) (fun k_ hk => ⟨fun h => (hFy' k_ h).elim hk.2.1 (fun h2 => Nat.not_lt.2 h2 hk.2.2), Nat.lt_of_lt_of_le hk.2.2 (Nat.le_trans hch2.size (below_size HB25.out))⟩))
              have HVb := Aside0.mk (show Kd.V k30 30 w25 0 (fun k_ => ¬ Fy k_ ∧ k_ < w25.heap.size) (.slice Ao2 out2.length co2) out2 from Kd.V_mono (Kd.V_below (Kd.V_step (Kd.S_V (base' := 0) HSb12.out) (fun k_ hk hlt => hch2.block k_ hlt (fun h => h.elim hk.1 hk.2.1))) HB25.out) (fun k_ hk => ⟨fun h => (hFy' k_ h).elim hk.2.1 (fun h2 => Nat.not_lt.2 h2 hk.2.2), Nat.lt_of_lt_of_le hk.2.2 (Nat.le_trans hch2.size (below_size HB25.out))⟩))
              have HTl := Aside0.mk (fun W A6 c6 (y : List S30) (hy : y = (([] : List S30) ++ out1) ++ out2) (hB : Below w25.heap.size w25 W) (hV : Kd.V k30 30 W W.heap.size (fun k_ => ¬ Fy k_) (.slice A6 y.length c6) y) => (show Calls Try.prog 18 #[.pointer (some ⟨g2, 0, none⟩), .int .i64 (q : Int), .slice A6 y.length c6, .int .i64 ((out1.length : Int) + (out2.length : Int))] W (fun e w' => e = .returned (.bool true) ∧ ∃ r', DkAt w' b2 g2 Fy ((s3.crash (List.replicate q 1000)).withR r') ∧ Chg Fy W w') from by
                have hn : (s3.crash (List.replicate q 1000)).n = q := HN3.out
                have h_ := tells_calls g2 b2 Fy (s3.crash (List.replicate q 1000)) A6 c6 y ((out1.length : Int) + (out2.length : Int)) W ((hdy.below HB25.out).below hB) hV (by
                  rw [hn, hy, List.nil_append, HS3.out, HS0.out]
                  exact HGREAT.out)
                rw [hn] at h_
                exact h_))
              clear HCE HIMf
              go_wp2_with (first
                | ((with_reducible refine gate_dst (N := 137) rfl ?_); (try (refine gate_guard (by rfl) ?_; dsimp only)); refine Kd.N_lit k30 _ 30 ?hg (N' := 137) ?hd (xs := ([] : List (S30))) (inner := []) (ok := (fun k_ => ¬ Fy k_)) (okp := (fun k_ => ¬ Fy k_)) ?hr ?hp (fun _ hk => hk) ((show ∀ k_, w25.heap.size ≤ k_ → (fun k_ => ¬ Fy k_) k_ from fun k_ hk hF_ => by have h1_ := HFy.out k_ hF_; omega) _ (Nat.le_refl _)) (Below.refl _ _) (Nat.le_refl _) (by simp) ?_; (case hd => rfl); (case hg => rfl); (case hr => first | (go_simp; done) | (go_simp; rfl)); (case hp => exact (Reps.none _ _)); intro v137 w43 ho44 hb hg_ hnew_; have HO137 := Aside0.mk ho44; have HB43 := Aside0.mk hb; clear hg_ hnew_ hb ho44)
                | ((with_reducible refine gate_builtin (b := .append) (xs := #[.tmp 137, .tmp 138]) rfl ?_); (try (refine gate_guard (by rfl) ?_; dsimp only)); at_builtin; refine Kd.N_append_rows k30 (w0 := w25) w25.heap.size rfl (.tmp 137) (.tmp 138) 22 30 (.agg #[(.int .i64 0), (.slice none 0 0)]) 32 rfl Try.underlying22 info30 rfl (by decide) (by omega) v137 ([] : List S30) out1 _ _ _ (fun k_ => ¬ Fy k_) (fun k_ => (fun k_ => ¬ Fy k_) k_ ∧ some k_ ≠ (v137 : Value).ownBlock) rfl rfl ?aO ?aR (fun _ hk => hk) ?aF ?aB ?aS ?aL ?_; (case aR => exact (Kd.V_F (Kd.V_mono (Kd.V_step HVa.out (fun k_ hk hlt => HB43.out.block k_ hk.2)) (fun k_ hk => ⟨hk.1, fun e_ => by have h1_ := Kd.N_base HO137.out k_ e_.symm; have h2_ := hk.2; omega⟩)))); (case aB => exact HB43.out); (case aF => exact (fun k_ hk hF_ => by have h1_ := HFy.out k_ hF_; have h2_ := below_size HB43.out; omega)); (case aO => exact HO137.out); (case aS => exact (below_size HB43.out)); (case aL => simp; omega); intro v139 w45 ho hb hg hat; have HO139 := Aside0.mk ho; have HB45 := Aside0.mk hb; clear ho hb hg hat)
                | ((with_reducible refine gate_builtin (b := .append) (xs := #[.tmp 139, .tmp 140]) rfl ?_); (try (refine gate_guard (by rfl) ?_; dsimp only)); at_builtin; refine Kd.N_append_rows k30 (w0 := w25) w25.heap.size rfl (.tmp 139) (.tmp 140) 22 30 (.agg #[(.int .i64 0), (.slice none 0 0)]) 32 rfl Try.underlying22 info30 rfl (by decide) (by omega) v139 (([] : List S30) ++ out1) out2 _ _ _ (fun k_ => ¬ Fy k_) (fun k_ => (fun k_ => ¬ Fy k_) k_ ∧ some k_ ≠ (v139 : Value).ownBlock) rfl rfl ?aO ?aR (fun _ hk => hk) ?aF ?aB ?aS ?aL ?_; (case aR => exact (Kd.V_F (Kd.V_mono (Kd.V_step HVb.out (fun k_ hk hlt => HB45.out.block k_ hk.2)) (fun k_ hk => ⟨hk.1, fun e_ => by have h1_ := Kd.N_base HO139.out k_ e_.symm; have h2_ := hk.2; omega⟩)))); (case aB => exact HB45.out); (case aF => exact (fun k_ hk hF_ => by have h1_ := HFy.out k_ hF_; have h2_ := below_size HB45.out; omega)); (case aO => exact HO139.out); (case aS => exact (below_size HB45.out)); (case aL => simp; omega); intro v141 w46 ho hb hg hat; obtain ⟨y, hy⟩ : ∃ y, y = (([] : List S30) ++ out1) ++ out2 := ⟨_, rfl⟩; rw [← hy] at ho; obtain ⟨A6, c6, e6⟩ := Kd.N_slice ho; subst e6; have HY := Aside0.mk hy; clear hy; have HO141 := Aside0.mk ho; have HB46 := Aside0.mk hb; clear ho hb hg hat)
                | (go_at_call 18; (with_reducible refine (HTl.out _ _ _ _ HY.out HB46.out (Kd.N_V HO141.out)).mono ?_); rintro e w47 ⟨rfl, r47, hd47, hX47⟩; have HX47 := Aside0.mk hX47; clear hd47 hX47))
              have HBa := Aside0.mk (Chg.below HBw12.out hch2 (below_size HBw12.out) (fun x hx => hx.elim (HFd.out x) (HFe.out x)))
              have HBb := Aside0.mk (below_step (below_step HBa.out HB25.out) HB46.out)
              have HB47 := Aside0.mk (Chg.below HBb.out HX47.out (below_size HBb.out) (fun x hx => (hFy' x hx).elim (HFe.out x) (Nat.le_trans (below_size HBw12.out))))
              have HD47 := Aside0.mk (((hdx.below HB25.out).below HB46.out).chg HX47.out (fun x hx hF => hdis2 x hx hF))
              have HFxw := Aside0.mk (fun x (hx : Fx x) => (hFx' x hx).elim (HFd.out x) (Nat.le_trans (below_size HBw12.out)))
              have hxs : ∀ x, Fx x → x < w24.heap.size := fun x hx => (hdx.foot x hx).2
              have hys : ∀ x, Fy x → x < w24.heap.size := fun x hx => (hdy.foot x hx).2
              have old : ∀ k_, (¬ Fd k_ ∧ ¬ Fe k_ ∧ k_ < w12.heap.size) → ¬ Fx k_ ∧ ¬ Fy k_ := fun k_ hk => ⟨fun h => (hFx' k_ h).elim hk.1 (fun h2 => Nat.not_lt.2 h2 hk.2.2), fun h => (hFy' k_ h).elim hk.2.1 (fun h2 => Nat.not_lt.2 h2 hk.2.2)⟩
              have HIm := Aside0.mk (show Kd.S KB 28 _ w24.heap.size (fun k_ => ¬ Fx k_) (.slice (some ⟨go25, 0, none⟩) q c25) (s3.crash fs).L from Kd.S_mono (Kd.S_step (Kd.S_below (Kd.S_bound HS25.out) HB46.out) (fun k_ hk hlt => HX47.out.block k_ hlt (fun hF => by have h1_ := hys k_ hF; have h2_ := hk.2.1; omega))) (fun k_ hk hF => by have h1_ := hxs k_ hF; have h2_ := hk.2.1; omega))
              have HW47 := Aside0.mk (show Kd.S KB 28 _ w11.heap.size (fun k_ => ¬ Fx k_) (.slice (some ⟨go12, 0, none⟩) q c12) s0.flush.L from Kd.S_mono (Kd.S_step (Kd.S_below (Kd.S_below (Kd.S_step HWas.out (fun k_ hk hlt => hch2.block k_ hlt (fun h => h.elim hk.1 hk.2.1))) HB25.out) HB46.out) (fun k_ hk hlt => HX47.out.block k_ hlt (old k_ hk).2)) (fun k_ hk => (old k_ hk).1))
              have HV47 := Aside0.mk (show Kd.S k30 30 _ w1.heap.size (fun k_ => ¬ Fx k_) (.slice Ao2 out2.length co2) out2 from Kd.S_mono (Kd.S_step (Kd.S_below (Kd.S_below (Kd.S_step HSb12.out (fun k_ hk hlt => hch2.block k_ hlt (fun h => h.elim hk.1 hk.2.1))) HB25.out) HB46.out) (fun k_ hk hlt => HX47.out.block k_ hlt (old k_ hk).2)) (fun k_ hk => (old k_ hk).1))
              clear hdx hdy hdis2 hFx' hFy' hch2 hxs hys old HT25 HFy HVa HVb HTl HO137 HB43 HO139 HB45 HO141 HB46 HX47 HBa HBb HS25 HB25 HWas HSa12 HSb12 HT18 HT24 HRq HBq HTq HB18 HY
              have HAM := Aside0.mk (show ∀ i, i < q → ∃ ka, kilnlaw3_among.f ka ((s3.crash fs).L.getD i []) (s0.flush.L.getD i []) out2 (i : Int) = some true from by rw [HS3.out, HS0.out]; exact HAMONG.out)
              have HWn := Aside0.mk (show (s3.crash fs).W = fun _ => [] from rfl)
              generalize (s3.crash fs) = s4 at HD47 HIm HNc HAM HWn ⊢
              go_loopg [19] q (fun kq v19 wr => ∃ i : Nat, v19 = .int .i64 i ∧ Aside0 (i + kq = q) ∧ ∃ r', Aside0 (DkAt wr b1 g1 Fx (s4.withR r')) ∧ Aside0 (Chg Fx w47 wr))
              case atStart => exact ⟨0, rfl, ⟨Nat.zero_add _⟩, s4.r, HD47, ⟨Chg.refl _ _⟩⟩
              case round =>
                obtain ⟨i, rfl, HI, r4, HD, HX⟩ := hrel
                by_cases hi : i < q
                · have hib : decide (i < q) = true := decide_eq_true hi
                  have hit : (i < q) = True := eq_true hi
                  obtain ⟨ka, hka⟩ := HAM.out i hi
                  have HRD := Aside0.mk (read_at g1 i wr b1 Fx _ HD.out (show i < s4.n from by rw [HNc.out]; exact hi))
                  have hcu : (s4.withR r4).cur i = s4.L.getD i [] := by
                    have h_ : (s4.withR r4).W i = [] := by show s4.W i = []; rw [HWn.out]
                    rw [cur_nil h_]; rfl
                  rw [hcu] at HRD
                  have HII := Aside0.mk hi
                  clear hi hcu
                  go_upto_region 32 with (go_at_call 25; (with_reducible refine HRD.out.mono ?_); rintro e w50 ⟨v50, rfl, hr, hd, hc⟩; have HO50 := Aside0.mk hr; have HD50 := Aside0.mk hd; have HX50 := Aside0.mk (HX.out.trans hc (fun _ h => .inl h)); clear hr hd hc HD HX)
                  obtain ⟨adi, cei, ei, hcli, hKi, hcelli⟩ := Kd.C_get (Kd.S_reads' (Kd.S_step HIm.out (fun k_ hk hlt => HX50.out.block k_ hlt hk))).2.2 ([] : List Int) (i : Int) (by omega) (by have h_ := (Kd.S_reads' HIm.out).1; have h2_ := HII.out; omega)
                  obtain ⟨Ai, ci, rfl, hli, hCi⟩ := hKi
                  have hxi := hcelli 0 _ rfl
                  rw [Int.toNat_natCast, show i * KB.sz + 0 = i from Nat.mul_one i] at hxi
                  rw [Int.toNat_natCast] at hli hCi
                  obtain ⟨adw, cew, ew, hclw, hKw, hcellw⟩ := Kd.C_get (Kd.S_reads' (Kd.S_step HW47.out (fun k_ hk hlt => HX50.out.block k_ hlt hk))).2.2 ([] : List Int) (i : Int) (by omega) (by have h_ := (Kd.S_reads' HW47.out).1; have h2_ := HII.out; omega)
                  obtain ⟨Aw, cw, rfl, hlw, hCw⟩ := hKw
                  have hxw := hcellw 0 _ rfl
                  rw [Int.toNat_natCast, show i * KB.sz + 0 = i from Nat.mul_one i] at hxw
                  rw [Int.toNat_natCast] at hlw hCw
                  have HS2r := Aside0.mk (Kd.S_reads' (Kd.S_step HV47.out (fun k_ hk hlt => HX50.out.block k_ hlt hk)))
                  clear hcelli hcellw
                  generalize s4.L.getD i [] = ti at *
                  generalize s0.flush.L.getD i [] = tw at *
                  obtain rfl := Option.some.inj ei
                  obtain rfl := Option.some.inj ew
                  rw [add0] at hxi hxw
                  have HAMC := Aside0.mk (fun W (hW : Below w50.heap.size w50 W) => kilnlaw3_among.calls ka Ai ci ti Aw cw tw Ao2 co2 out2 (i : Int) true W (Kd.C_below hCi hW) hli (Kd.C_below hCw hW) hlw (Kd.C_below HS2r.out.2.2 hW) HS2r.out.2.1 hka)
                  have HKEEP := Aside0.mk (fun W (hW : Below w50.heap.size w50 W) => (show W.cell? ⟨go25, i, none⟩ = some (.slice Ai ti.length ci) ∧ W.cell? ⟨go12, i, none⟩ = some (.slice Aw tw.length cw) ∧ (convert 28 9 v50).run Try.prog W = .ok (.string (strOfNums ti)) W ∧ (convert 28 9 (.slice Ai ti.length ci)).run Try.prog W = .ok (.string (strOfNums ti)) W from
                    ⟨(hW.cell (World.block_lt_of_cell? w50 _ hxi)).trans hxi, (hW.cell (World.block_lt_of_cell? w50 _ hxw)).trans hxw, own_string (P := Try.prog) Try.underlying28 Try.underlying5 Try.underlying9 (Kd.own_of_R (Kd.R_below HO50.out hW)), Kd.C_string (P := Try.prog) (A := Ai) (c := ci) Try.underlying28 Try.underlying5 Try.underlying9 (Kd.C_below hCi hW)⟩))
                  have c9b0 : ((strOfNums ti).toList == (strOfNums ti).toList) = true := beq_iff_eq.mpr rfl
                  have c9b1 : ((strOfNums ti).toList != (strOfNums ti).toList) = false := bne_eq_false_iff_eq.mpr rfl
                  clear hCi hCw hli hlw hka hxi hxw
                  go_region_held3 (fun W => W.cell? ⟨go25, i, none⟩ = some (.slice Ai ti.length ci) ∧ W.cell? ⟨go12, i, none⟩ = some (.slice Aw tw.length cw) ∧ (convert 28 9 v50).run Try.prog W = .ok (.string (strOfNums ti)) W ∧ (convert 28 9 (.slice Ai ti.length ci)).run Try.prog W = .ok (.string (strOfNums ti)) W) (first | assumption | exact HKEEP.out _ (by repeat (first | exact Below.refl _ _ | apply below_drew1 | apply pw_below_drewN)) | fail) ((go_at_call 32; (with_reducible refine (HAMC.out _ (by repeat (first | exact Below.refl _ _ | apply below_drew1 | apply pw_below_drewN))).mono ?_); rintro e w51 ⟨rfl, ⟨nd, rfl⟩⟩))
                  go_wp2
                  go_roundg (gk - 1)
                  case measure => have := HI.out; have := HII.out; omega
                  case rel => exact ⟨i + 1, (by have hi_ := HII.out; have hl_ := hnm; first | rfl | (simp; done) | (rw [show wrap64 ((i : Int) + 1) = (i : Int) + 1 from by unfold wrap64; omega]; rfl)), ⟨by have := HI.out; have := HII.out; omega⟩, _, ⟨HD50.out.below (by repeat (first | exact Below.refl _ _ | apply below_drew1 | apply pw_below_drewN))⟩, ⟨HX50.out.trans (Chg.of_below (F := fun _ => False) (by repeat (first | exact Below.refl _ _ | apply below_drew1 | apply pw_below_drewN))) (fun _ h => h.elim)⟩⟩
                · have hib : decide (i < q) = false := decide_eq_false hi
                  go_wp2
                  all_goals first | (exfalso; omega) | (go_ret; exact ⟨rfl, Chg.below HB47.out HX.out (below_size HB47.out) HFxw.out⟩)
end Go.Proofs.Ytddnhcnkjcdfgaa.M
