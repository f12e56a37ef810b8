-- DiskTells: the walk
import Derived.Test.YtddnhcnkjcdfgaaDk
import Derived.Test.YtddnhcnkjcdfgaaDl
namespace Go.Proofs.Ytddnhcnkjcdfgaa.M
open Go.RowKit Go.Maps Go.Proofs.YtddnhcnkjcdfgaaW.PrintWords Go.Proofs.YtddnhcnkjcdfgaaW.PrintLast Go.Proofs.YtddnhcnkjcdfgaaW.PrintMore
open Go.Proofs.Ytddnhcnkjcdfgaa.P
attribute [local go_sem] max2_int min2_int max_two min_two max_three min_three max_four min_four
set_option linter.unusedVariables false
set_option linter.unusedSimpArgs false
/-- A write, as it lies in a row of the call's own. -/
theorem row_at {w : World} {base : Nat} {ok : Nat → Prop} {A : Option Addr} {c : Nat} {out : List S30} (h : Kd.S k30 30 w base ok (.slice A out.length c) out) (j : Nat) (hj : j < out.length) (h5 : (rd_T30 out (j : Int)).f1.length = 512) :
    ∃ go b1 c1, A = some ⟨go, 0, none⟩ ∧ w.cell? ⟨go, j * 2, none⟩ = some (.int .i64 (rd_T30 out (j : Int)).f0) ∧ w.cell? ⟨go, j * 2 + 1, none⟩ = some (.slice (some ⟨b1, 0, none⟩) 512 c1) ∧ (Kd.int .u8).C w (some ⟨b1, 0, none⟩) 512 (rd_T30 out (j : Int)).f1 ∧ ok b1 ∧ ok go ∧ go < w.heap.size := by
  obtain ⟨go, c0, e0, _, hlt, _⟩ := Kd.S_form h (by omega)
  injection e0 with e0 _ _
  subst e0
  obtain ⟨ad, A1, c1, e, hx0, hx1, hl1, hi1⟩ := at_T30 (Kd.S_reads' h).2.2 (j : Int) (by omega) (by omega)
  obtain rfl := Option.some.inj e
  obtain ⟨ce, hce, hMe, hcc⟩ := Kd.S_get h z30 (j : Int) (by omega) (by omega)
  obtain ⟨ve, rfl, ge⟩ := k30_openM hMe
  have hv := hcc 1 _ rfl
  rw [add_field _ _ 1 (by omega)] at hv
  replace hv := Option.some.inj (hv.symm.trans hx1)
  rw [hv] at ge
  rw [Int.toNat_natCast] at hx0 hx1
  have ez : (⟨go, 0, none⟩ : Addr).add (j * 2) = ⟨go, j * 2, none⟩ := by simp [Addr.add]; intro h; omega
  rw [ez] at hx0 hx1
  have ge' : Kd.R (Kd.int .u8) 5 w base _ (.slice A1 (rd_T30 out (j : Int)).f1.length c1) ((rd_T30 out (j : Int)).f1) := ge
  obtain ⟨b1, c2, e1, _, _, _⟩ := Kd.R_form ge' (by omega)
  injection e1 with e1 _ e2
  subst e1
  rw [h5] at hx1 hi1
  exact ⟨go, b1, c1, rfl, hx0, hx1, hi1, (ge'.1 b1 rfl).1, (Kd.S_R h).1 go rfl, hlt⟩
theorem Chg.cell {F : Nat → Prop} {a b : World} (h : Chg F a b) {x : Nat} (hn : ¬ F x) (hlt : x < a.heap.size) (o : Nat) : b.cell? ⟨x, o, none⟩ = a.cell? ⟨x, o, none⟩ := by
  unfold World.cell?
  simp only [h.block x hlt hn]
/-- The disk behind the first j writes. -/
def runD (n : Nat) (out : List S30) (fl : Int) : Nat → DS
  | 0 => DS.fresh n (List.replicate n zeros)
  | j + 1 => if (j : Int) = fl then ((runD n out fl j).put (rd_T30 out (j : Int)).f0.toNat (rd_T30 out (j : Int)).f1).flush else (runD n out fl j).put (rd_T30 out (j : Int)).f0.toNat (rd_T30 out (j : Int)).f1
theorem runD_n (n : Nat) (out : List S30) (fl : Int) : ∀ j, (runD n out fl j).n = n
  | 0 => rfl
  | j + 1 => by
    unfold runD
    split
    · exact runD_n n out fl j
    · exact runD_n n out fl j
theorem runD_c (n : Nat) (out : List S30) (fl : Int) : ∀ j, (runD n out fl j).c ≤ j
  | 0 => Nat.le_refl _
  | j + 1 => by
    unfold runD
    split
    · exact Nat.zero_le _
    · exact Nat.succ_le_succ (runD_c n out fl j)
theorem lasts_calls (g : Nat) (base : Nat) (F : Nat → Prop) (s : DS) (A2 : Option Addr) (c2 : Nat) (l2 : List (S30)) (a3 : Int) (w : World) (hd : DkAt w base g F s) (hs2 : Kd.V k30 30 w w.heap.size (fun k_ => ¬ F k_) (.slice A2 l2.length c2) l2) (hl : ∀ i, i < s.n → ∃ kl, kilnlaw3_last.f kl l2 (i : Int) (if 0 ≤ a3 ∧ a3 < (l2.length : Int) then wrap64 (a3 + 1) else 0) = some (s.L.getD i [])) :
    Calls Try.prog 19 #[.pointer (some ⟨g, 0, none⟩), .int .i64 (s.n : Int), .slice A2 l2.length c2, .int .i64 a3] w fun e w' => e = .returned (.bool true) ∧ Below w.heap.size w w' := by
  by_cases h0 : 0 ≤ a3
  · by_cases h1 : a3 < (l2.length : Int)
    · rw [if_pos ⟨h0, h1⟩] at hl
      exact lasts_in g base F s A2 c2 l2 a3 w hd hs2 h0 h1 hl
    · rw [if_neg (fun h => h1 h.2)] at hl
      exact lasts_past g base F s A2 c2 l2 a3 w hd hs2 h0 h1 hl
  · rw [if_neg (fun h => h0 h.1)] at hl
    exact lasts_neg g base F s A2 c2 l2 a3 w hd hs2 h0 hl
set_option maxHeartbeats 8000000 in
set_option maxRecDepth 100000 in
theorem diskTells_calls (k : Nat) (a0 : Int) (A1 : Option Addr) (c1 : Nat) (l1 : List (S30)) (a2 : Int) (w : World) (hr1 : Kd.C k30 w A1 l1.length l1) (hc1 : l1.length ≤ c1) (r1 r2 : Int) (out : List S30) (n : Nat) (h : kilnlaw3_made.f k a0 l1 = some (r1, r2, out)) (h2 : 2 ≤ n) (hm : n ≤ 64) (hn : r2 = (n : Int)) (hlen : out.length ≤ 100)
    (hout : ∀ j, j < out.length → (∃ i : Nat, i < n ∧ (rd_T30 out (j : Int)).f0 = (i : Int)) ∧ (rd_T30 out (j : Int)).f1.length = 512)
    (hcur : ∀ i, i < n → ∃ kl, kilnlaw3_last.f kl out (i : Int) (out.length : Int) = some ((runD n out a2 out.length).cur i))
    (hlast : ∀ i, i < n → ∃ kl, kilnlaw3_last.f kl out (i : Int) (if 0 ≤ a2 ∧ a2 < (out.length : Int) then wrap64 (a2 + 1) else 0) = some ((runD n out a2 out.length).L.getD i [])) :
    Calls Try.prog 3 #[.int .i64 a0, .slice A1 l1.length c1, .int .i64 a2] w fun e w' => e = .returned (.bool true) ∧ Below w.heap.size w w' := by
  have hMADE := Aside0.mk (kilnlaw3_made.calls k a0 A1 c1 l1 r1 r2 out n h2 hm hn w hr1 hc1 h)
  have HOUT := Aside0.mk hout
  have HCUR := Aside0.mk hcur
  have HLAST := Aside0.mk hlast
  clear hr1 hc1 h hout hcur hlast hn
  go_enter Try.func3, Try.ntmps3
  go_wp2_with (go_at_call 15; (with_reducible refine hMADE.out.mono ?_); rintro e w1 ⟨v2, g, F0, base, rfl, hbase, hd, hs, hb⟩; obtain ⟨A2, c2, e2⟩ := Kd.S_slice hs; subst e2; have HD0 := Aside0.mk hd; have HS0 := Aside0.mk (Kd.S_bound hs); have HB1 := Aside0.mk hb; have HBS := Aside0.mk hbase; have HV := Aside0.mk (Kd.S_reads' hs).2.1; clear hd hs hb hbase)
  go_loopg [9] out.length (fun kq v9 w' => ∃ (j : Nat) (F : Nat → Prop), v9 = .int .i64 j ∧ Aside0 (j + kq = out.length) ∧ Aside0 (DkAt w' base g F (runD n out a2 j)) ∧ Aside0 (∀ x, F x → F0 x ∨ w1.heap.size ≤ x) ∧ Aside0 (Chg F0 w1 w'))
  case atStart => exact ⟨0, F0, rfl, ⟨Nat.zero_add _⟩, HD0, ⟨fun x h => .inl h⟩, ⟨Chg.refl _ _⟩⟩
  case round =>
    obtain ⟨j, F, rfl, HJ, HD, HF, HX⟩ := hrel
    have HSw := Aside0.mk (Kd.S_step HS0.out (fun k_ hk hlt => HX.out.block k_ hlt hk.1))
    by_cases hj : j < out.length
    · have hjb : decide (j < out.length) = true := decide_eq_true hj
      have hjt : (j < out.length) = True := eq_true hj
      obtain ⟨⟨i, hi, hf0⟩, h5⟩ := HOUT.out j hj
      obtain ⟨go, b1, c3, rfl, hx0, hx1, hC, hok, hog, hgo⟩ := row_at HSw.out j hj h5
      rw [hf0] at hx0
      have HRN := Aside0.mk (show (rd_T30 out (j : Int)).f0.toNat = i from by rw [hf0]; rfl)
      have HWR := Aside0.mk (fun W (hW : Below wr.heap.size wr W) => write_at g i (some ⟨b1, 0, none⟩) c3 _ W base F _ (HD.out.chg (G := fun _ => False) (Chg.of_below hW) (fun _ _ => id)) (by rw [runD_n]; exact hi) (Kd.C_below hC hW) (fun ad' e hF => by
        cases e
        rcases HF.out _ hF with h_ | h_
        · exact hok.1 h_
        · have := hok.2.2; have h2_ : w1.heap.size ≤ b1 := h_; omega) (by have := runD_c n out a2 j; omega))
      have HGO := Aside0.mk (And.intro (show ¬ F go from fun hF => by
        rcases HF.out _ hF with h_ | h_
        · exact hog.1 h_
        · have := hog.2.2; omega) hgo)
      have HJ2 := Aside0.mk hj
      clear hj hC hok hf0 h5 hog hgo
      have hxa := Aside0.mk (And.intro hx0 hx1)
      go_wp2
      go_region_held3 (fun W => W.cell? ⟨go, j * 2, none⟩ = some (.int .i64 (i : Int)) ∧ W.cell? ⟨go, j * 2 + 1, none⟩ = some (.slice (some ⟨b1, 0, none⟩) 512 c3)) (first | exact ⟨hx0, hx1⟩ | exact HKEEP.out) ((go_at_call 16; (with_reducible refine (HWR.out _ (by repeat (first | exact Below.refl _ _ | apply below_drew1 | apply pw_below_drewN | apply below_alloc))).mono ?_); rintro e w5 ⟨rfl, F5, hd5, hF5, hX5⟩; have HKEEP := Aside0.mk (And.intro ((Chg.cell hX5 HGO.out.1 (by first | exact HGO.out.2 | simpa using HGO.out.2) (j * 2)).trans hx0) ((Chg.cell hX5 HGO.out.1 (by first | exact HGO.out.2 | simpa using HGO.out.2) (j * 2 + 1)).trans hx1)); have HD5 := Aside0.mk hd5; have HF5 := Aside0.mk hF5; have HX5 := Aside0.mk hX5; clear hd5 hF5 hX5))
      have hX5 := Aside0.mk (show Chg F wr _ from ⟨HX5.out.os, HX5.out.tape, HX5.out.output, HX5.out.size, HX5.out.block⟩)
      have hF5 := Aside0.mk (fun x (hx : F5 x) => (show F0 x ∨ w1.heap.size ≤ x from by
        rcases HF5.out x hx with h_ | h_
        · exact HF.out x h_
        · exact .inr (Nat.le_trans HX.out.size h_)))
      have HXX := Aside0.mk (HX.out.trans hX5.out HF.out)
      clear HX5 HF5 hX5 HKEEP hxa HWR HSw HX HF HD HGO hx0 hx1
      by_cases hja : (j : Int) = a2
      · have hc0 : ((j : Int) == a2) = true := beq_iff_eq.mpr hja
        have HJA := Aside0.mk hja
        clear hja
        have HFL := Aside0.mk (flush_at g _ base F5 _ HD5.out)
        have HD5' := Aside0.mk HD5.out.foot
        clear HD5
        go_wp2_with (go_at_call 17; (with_reducible refine HFL.out.mono ?_); rintro e w6 ⟨⟨v, rfl⟩, F6, hd6, hF6, hX6⟩; have HD6 := Aside0.mk hd6; have HF6 := Aside0.mk hF6; have HX6 := Aside0.mk hX6; clear hd6 hF6 hX6)
        go_roundg (gk - 1)
        case measure => have := HJ.out; have := HJ2.out; omega
        case rel => exact ⟨j + 1, F6, (by have hi_ := HJ2.out; have hl_ := hlen; first | rfl | (simp; done) | (rw [show wrap64 ((j : Int) + 1) = (j : Int) + 1 from by unfold wrap64; omega]; rfl)), ⟨by have := HJ.out; have := HJ2.out; omega⟩, ⟨by unfold runD; rw [if_pos HJA.out, HRN.out]; exact HD6.out⟩, ⟨fun x hx => hF5.out x (HF6.out x hx)⟩, ⟨HXX.out.trans HX6.out (fun x hx => hF5.out x hx)⟩⟩
      · have hc0 : ((j : Int) == a2) = false := beq_eq_false_iff_ne.mpr hja
        have HJA := Aside0.mk hja
        clear hja
        go_wp2
        go_roundg (gk - 1)
        case measure => have := HJ.out; have := HJ2.out; omega
        case rel => exact ⟨j + 1, F5, (by have hi_ := HJ2.out; have hl_ := hlen; first | rfl | (simp; done) | (rw [show wrap64 ((j : Int) + 1) = (j : Int) + 1 from by unfold wrap64; omega]; rfl)), ⟨by have := HJ.out; have := HJ2.out; omega⟩, ⟨by unfold runD; rw [if_neg HJA.out, HRN.out]; exact HD5.out⟩, ⟨hF5.out⟩, ⟨HXX.out⟩⟩
    · have hjb : decide (j < out.length) = false := decide_eq_false hj
      obtain rfl : j = out.length := by have := HJ.out; omega
      have HVw := Aside0.mk (fun W (hW : Below wr.heap.size wr W) => Kd.V_mono (ok' := fun k_ => ¬ F k_) (Kd.S_V (base' := W.heap.size) (Kd.S_below HSw.out hW)) (fun k_ hk hF => by
        rcases HF.out _ hF with h_ | h_
        · exact hk.1 h_
        · have := hk.2.2; omega))
      have hrn : (runD n out a2 out.length).n = n := runD_n n out a2 out.length
      have HTE := Aside0.mk (fun W (hW : Below wr.heap.size wr W) => (show Calls Try.prog 18 #[.pointer (some ⟨g, 0, none⟩), .int .i64 (n : Int), .slice A2 out.length c2, .int .i64 (out.length : Int)] W _ from by
        have h_ := tells_calls g base F _ A2 c2 out (out.length : Int) W (HD.out.chg (G := fun _ => False) (Chg.of_below hW) (fun _ _ => id)) (HVw.out W hW) (by rw [hrn]; exact HCUR.out)
        rw [hrn] at h_
        exact h_))
      have HVc := Aside0.mk (fun W (hW : Chg F wr W) => Kd.V_step (HVw.out wr (Below.refl _ _)) (fun k_ hk hlt => hW.block k_ hlt hk))
      have HLA := Aside0.mk (fun W r' (hD : DkAt W base g F ((runD n out a2 out.length).withR r')) (hW : Chg F wr W) => (show Calls Try.prog 19 #[.pointer (some ⟨g, 0, none⟩), .int .i64 (n : Int), .slice A2 out.length c2, .int .i64 a2] W _ from by
        have h_ := lasts_calls g base F _ A2 c2 out a2 W hD (HVc.out W hW) (by show ∀ i, i < (runD n out a2 out.length).n → _; rw [hrn]; exact HLAST.out)
        rw [show ((runD n out a2 out.length).withR r').n = n from hrn] at h_
        exact h_))
      clear hrn
      go_wp2_with (first | (go_at_call 18; (with_reducible refine (HTE.out _ (by repeat (first | exact Below.refl _ _ | apply below_drew1 | apply pw_below_drewN | apply below_alloc))).mono ?_); rintro e w5 ⟨rfl, r', hd5, hX5⟩; have HD5 := Aside0.mk hd5; have HX5 := Aside0.mk (show Chg F wr _ from ⟨hX5.os, hX5.tape, hX5.output, hX5.size, hX5.block⟩); clear hd5 hX5) | (go_at_call 19; (with_reducible refine (HLA.out _ r' HD5.out HX5.out).mono ?_); rintro e w6 ⟨rfl, hb6⟩; have HB6 := Aside0.mk hb6; clear hb6))

      go_ret
      exact ⟨rfl, below_step (Chg.below HB1.out (HX.out.trans HX5.out HF.out) (below_size HB1.out) (fun x hx => Nat.le_trans HBS.out (HD0.out.foot x hx).1)) HB6.out⟩
end Go.Proofs.Ytddnhcnkjcdfgaa.M
