-- Crash
import Derived.Test.YtddnhcnkjcdfgaaDp
namespace Go.Proofs.Ytddnhcnkjcdfgaa.M
open Go.RowKit Go.Maps Go.Proofs.YtddnhcnkjcdfgaaW.PrintWords Go.Proofs.YtddnhcnkjcdfgaaW.PrintLast Go.Proofs.YtddnhcnkjcdfgaaW.PrintMore
open Go.ChangeMaps (setBlock)
attribute [local go_sem] max2_int min2_int max_two min_two
set_option linter.unusedVariables false
set_option linter.unusedSimpArgs false
/-- What lasts behind the first j fates. -/
def crashL (s : DS) (fs : List Int) : Nat → List (List Int)
  | 0 => s.L
  | j + 1 => if 1 ≤ fs.getD j 0 then (crashL s fs j).set (s.keysN.getD j 0) ((s.W (s.keysN.getD j 0)).getD ((min (fs.getD j 0) ((s.W (s.keysN.getD j 0)).length : Int)).toNat - 1) []) else crashL s fs j
def DS.crash (s : DS) (fs : List Int) : DS := ⟨s.n, crashL s fs (min s.keysN.length fs.length), fun _ => [], 0, s.r, s.wr, s.fl⟩
def DS.half (s : DS) (fs : List Int) (j : Nat) : DS := ⟨s.n, crashL s fs j, s.W, s.c, s.r, s.wr, s.fl⟩
theorem add0 (b j : Nat) : (⟨b, 0, none⟩ : Addr).add j = ⟨b, j, none⟩ := by simp [Addr.add]; intro h; omega
theorem key_at (s : DS) (j : Nat) (hj : j < s.keysN.length) : s.keysN.getD j 0 < s.n ∧ s.W (s.keysN.getD j 0) ≠ [] ∧ rd s.keysI (j : Int) = ((s.keysN.getD j 0 : Nat) : Int) := by
  have h1 : s.keysN.getD j 0 = s.keysN[j] := by rw [List.getD_eq_getElem?_getD, List.getElem?_eq_getElem hj]; rfl
  have h2 := (s.mem_keysN (s.keysN[j])).1 (List.getElem_mem hj)
  rw [h1]
  refine ⟨h2.1, h2.2, ?_⟩
  unfold rd DS.keysI
  rw [Int.toNat_natCast, List.getD_eq_getElem?_getD, List.getElem?_map, List.getElem?_eq_getElem hj]
  rfl
set_option maxHeartbeats 1000000 in
set_option maxRecDepth 100000 in
theorem crash_in (g : Nat) (w : World) (base lb cp mb k : Nat) (f : Nat → Value) (D : DataW Value) (s : DS) (h : DkIn w base g s lb cp mb f k D) (hc : s.c < 1073741824) (A1 : Option Addr) (c1 : Nat) (fs : List Int) (hfs : ∀ W, Chg (fun x => x = lb) w W → (Kd.int .i64).C W A1 fs.length fs) (hne : ∀ ad, A1 = some ad → 0 < fs.length → ad.block ≠ lb) :
    Calls Try.prog 30 #[.pointer (some ⟨g, 0, none⟩), .slice A1 fs.length c1] w fun e w' => (∃ v, e = .returned v) ∧ DkIn w' base g (s.crash fs) lb cp mb (fun _ => .slice none 0 0) 0 (.map []) ∧ Chg (fun x => x = lb ∨ x = mb) w w' := by
  have hn2 := h.n2
  have hnm := h.nm
  have hKl := s.keysN_len
  have hKI : s.keysI.length = s.keysN.length := List.length_map _
  have hg1 : w.cell? ⟨g, 1, none⟩ = some (.map (some mb)) := blk_cell h.hd 1
  have HSO := Aside0.mk (sorted_calls h hc)
  have HK := Aside0.mk (keys_calls mb w)
  have HF := Aside0.mk hfs
  have HNE := Aside0.mk hne
  have H0 := Aside0.mk h
  have hlb : lb < w.heap.size := (h.la.typed rfl).2.1
  clear h hfs hne
  generalize hfl : fs.length = fl at *
  have HFL := Aside0.mk hfl
  clear hfl
  go_enter Try.func30, Try.ntmps30
  go_wp2_with (first
    | (go_at_call 46; (with_reducible refine HK.out.mono ?_); rintro e w1 ⟨rfl, rfl⟩)
    | (go_at_call 45; (with_reducible refine HSO.out.mono ?_); rintro e w2 ⟨v, rfl, hr, hb⟩; obtain ⟨Av, cv, ev⟩ := Kd.R_slice hr; subst ev; have HR9 := Aside0.mk hr; have HX0 := Aside0.mk hb; clear hr hb))
  have HR0 := Aside0.mk (show Kd.R (Kd.int .i64) 3 w2 w.heap.size (fun x => w.heap.size ≤ x) _ _ from Kd.R_of_own (Kd.own_of_R HR9.out) (fun k hk => Kd.R_base HR9.out k hk))
  clear HR9
  rw [hKI] at HR0
  try rw [hKI]
  generalize hm : s.keysN.length = m at *
  have HM := Aside0.mk hm
  have HKI := Aside0.mk hKI
  clear hm hKI
  clear hg1
  go_loopg [14] m (fun kq v14 wr => ∃ j : Nat, v14 = .int .i64 j ∧ Aside0 (j + kq = m) ∧ Aside0 (j ≤ fl) ∧ Aside0 (DkIn wr base g (s.half fs j) lb cp mb f k D) ∧ Aside0 (Chg (fun x => x = lb) w wr) ∧ Aside0 (Kd.R (Kd.int .i64) 3 wr w.heap.size (fun x => w.heap.size ≤ x) (.slice Av m cv) s.keysI))
  case atStart => exact ⟨0, rfl, ⟨Nat.zero_add _⟩, ⟨Nat.zero_le _⟩, ⟨H0.out.chg (G := fun _ => False) (Chg.of_below HX0.out) (fun _ _ => id)⟩, ⟨Chg.of_below HX0.out⟩, HR0⟩
  case round =>
    clear HR0 HX0
    obtain ⟨j, rfl, HJ, HJF, HD, HX, HR⟩ := hrel
    have hKw := HR.out
    by_cases hj : j < m
    · obtain ⟨hi, hW, hki⟩ := key_at s j (HM.out.symm ▸ hj)
      obtain ⟨bv, cv', ev, hbv, _, _⟩ := Kd.R_form HR.out (by rw [HKI.out]; omega)
      injection ev with ev el ec
      clear el ec
      subst ev
      obtain ⟨adv, eav, hkc⟩ := Kd.at_int (Kd.R_reads' HR.out).2.2 (j : Int) (by omega) (by rw [HKI.out]; omega)
      obtain rfl := Option.some.inj eav
      rw [hki, Int.toNat_natCast] at hkc
      generalize hgi : s.keysN.getD j 0 = i at hi hW hkc
      have HGI := Aside0.mk hgi
      clear hgi hki
      have hkc' : wr.cell? ⟨bv, j, none⟩ = some (.int .i64 (i : Int)) := by rw [add0] at hkc; exact hkc
      clear hkc hKw
      have hjb : decide (j < m) = true := decide_eq_true hj
      have hjt : (j < m) = True := eq_true hj
      have HJ2 := Aside0.mk hj
      clear hj
      by_cases hjf : j = fl
      · have HJE := Aside0.mk hjf
        have hjfb : ((j : Int) == (fl : Int)) = true := beq_iff_eq.mpr (by omega)
        have hjfd : (j == fl) = true := beq_iff_eq.mpr hjf
        clear hjf
        have hg1 : wr.cell? ⟨g, 1, none⟩ = some (.map (some mb)) := blk_cell HD.out.hd 1
        obtain ⟨ck, hclr⟩ := run_clear (by obtain ⟨es, ck, hb, _⟩ := HD.out.mp; exact ⟨es, ck, hb⟩) 0
        have HE := Aside0.mk (HD.out.clear ck)
        trace "BREAK"
        go_wp2
        refine bodyPost_end (results_none rfl _ _ _) rfl ?_
        refine ⟨⟨_, rfl⟩, ?_, (HX.out.mono (fun x h => .inl h)).trans HE.out.2 (fun x h => .inl (.inr h))⟩
        have h1 := HE.out.1
        unfold DS.crash
        rw [show min s.keysN.length fs.length = j from by have := HM.out; have := HFL.out; have := HJE.out; have := HJ2.out; omega]
        exact h1
      · have hjfb : ((j : Int) == (fl : Int)) = false := beq_eq_false_iff_ne.mpr (by omega)
        have hjfd : (j == fl) = false := beq_eq_false_iff_ne.mpr hjf
        have HJE := Aside0.mk hjf
        clear hjf
        have hjl : j < fl := by have := HJE.out; have := HJF.out; omega
        have hjlt : (j < fl) = True := eq_true hjl
        obtain ⟨ad, ead, hfc⟩ := Kd.at_int (HF.out wr HX.out) (j : Int) (by omega) (by omega)
        subst ead
        rw [Int.toNat_natCast] at hfc
        have hg1 : wr.cell? ⟨g, 1, none⟩ = some (.map (some mb)) := blk_cell HD.out.hd 1
        have hlk0 := HD.out.look i hi
        have hWl : 0 < (s.W i).length := List.length_pos_iff.2 hW
        have hrow := HD.out.rows i hi
        have hWc : (s.W i).length ≤ 9223372036854775807 := by
          obtain ⟨A7, c7, e7⟩ := Kd.R_slice hrow
          exact (Kd.R_reads' (e7 ▸ hrow)).2.2.2.1
        obtain ⟨b7, c7, e7, _⟩ := Kd.R_form hrow hWl
        have hrg7 : b7 ≠ lb := (HD.out.rowg (b := b7) hi (by rw [e7]; rfl)).2.2
        rw [e7] at hrow hlk0
        have HRW := Aside0.mk hrow
        have hWd : (s.half fs j).W i = s.W i := rfl
        rw [hWd] at hlk0 e7
        clear hrow hWd e7
        obtain ⟨fv, hfv0⟩ : ∃ x, x = rd fs (j : Int) := ⟨_, rfl⟩
        rw [← hfv0] at hfc
        have HFV := Aside0.mk (show fs.getD j 0 = fv from by rw [hfv0]; unfold rd; rw [Int.toNat_natCast])
        have HWI := Aside0.mk (And.intro hi hW)
        obtain ⟨ln, hln⟩ : ∃ x, x = (s.W i).length := ⟨_, rfl⟩
        rw [← hln] at hlk0 hWl hWc
        have HLN := Aside0.mk hln
        clear hfv0 hln hi hW
        by_cases hfv : 1 ≤ fv
        · have hfvb : decide (1 ≤ fv) = true := decide_eq_true hfv
          go_upto_region 6 with (fail)
          obtain ⟨q, hq1, hq2, hq3⟩ : ∃ q : Nat, (if (ln : Int) < fv then (ln : Int) else fv) = (q : Int) + 1 ∧ q < ln ∧ q = (min fv (ln : Int)).toNat - 1 := by
            refine ⟨(min fv (ln : Int)).toNat - 1, ?_, ?_, rfl⟩
            · split <;> omega
            · omega
          have HQ := Aside0.mk hq3
          clear hq3
          have hWi : (s.W i).getD q [] = (s.W i).getD q [] := rfl
          have hS7 := sec_at HRW.out q (by have := HLN.out; have h_ : (s.half fs j).W i = s.W i := rfl; rw [h_]; omega)
          have h_ : (s.half fs j).W i = s.W i := rfl
          rw [h_] at hS7
          clear h_ hWi
          obtain ⟨hSr, hSl, _⟩ := hS7
          obtain ⟨bC, hbC⟩ : ∃ x, x = (s.W i).getD q [] := ⟨_, rfl⟩
          have HbC := Aside0.mk hbC
          rw [← hbC] at hSr hSl
          have HSl := Aside0.mk hSl
          have hth : wr.there lb (i * 512) 512 := (sec_at HD.out.la i HWI.out.1).2.2
          have hlbg : lb ≠ g := HD.out.lbg
          have hfa : (ad.add j).block ≠ lb := by
            have h_ := HNE.out ad rfl (by omega)
            have e_ : (ad.add j).block = ad.block := by unfold Addr.add; split <;> rfl
            rw [e_]; exact h_
          have hg0 : wr.cell? ⟨g, 0, none⟩ = some (.slice (some ⟨lb, 0, none⟩) s.n cp) := blk_cell HD.out.hd 0
          have hi0 : (0 : Int) ≤ (i : Int) := by omega
          have hi1 : (i : Int) < (s.n : Int) := by have := HWI.out.1; omega
          have hil : (i < s.n) = True := eq_true HWI.out.1
          have hcl : (nums .u8 bC).length = 512 := by rw [nums_length, hSl]
          have hnb := nums_one bC
          have hu91 := Try.underlying91
          have hi91 : (Try.prog.info? 91).map (·.size) = some (nums .u8 bC).length := by rw [hcl]; exact size91
          generalize hcb : nums .u8 bC = cb at *
          have HCB := Aside0.mk hcb
          clear hcb hbC hSl
          have hif := hq1
          have hqw : IntKind.i64.wrap ((q : Int) + 1 - 1) = (q : Int) := by rw [show (q : Int) + 1 - 1 = (q : Int) by omega]; exact IntWalk.i64_in _ (by omega)
          have hqw2 : IntKind.i64.wrap (q : Int) = (q : Int) := IntWalk.i64_in _ (by omega)
          have hqt : (q : Int).toNat = q := rfl
          have hq0 : (0 : Int) ≤ (q : Int) := by omega
          have hql : (q : Int) < (ln : Int) := by omega
          have hix : ∀ W : World, (Instr.indexAt 86 (.slice (some ⟨b7, 0, none⟩) ln c7) (.int .i64 (q : Int))).run Try.prog W = .ok (.pointer (some ⟨b7, q * 512, none⟩)) W := fun W => by go_simp <;> (try (intro h; exact absurd h (by omega)))
          clear hq1
          go_region_held3 (fun W => W.cell? ⟨g, 0, none⟩ = some (.slice (some ⟨lb, 0, none⟩) s.n cp) ∧ W.cell? (ad.add j) = some (.int .i64 fv) ∧ W.rangeAt b7 (q * 512) cb ∧ W.there lb (i * 512) 512) (first | assumption | (simp only [World.cell?_drew]; exact ⟨hg0, hfc, hSr, hth⟩) | exact ⟨(World.cell?_setCells_out lb cb _ _ _ (fun e => absurd e.symm hlbg)).trans hg0, (World.cell?_setCells_out lb cb _ _ _ (fun e => absurd e hfa)).trans hfc, World.rangeAt_setCells_apart (w := wr.drew) hSr lb _ cb (.inl hrg7), World.there_setCells (w := wr.drew) hth lb _ cb⟩ | fail) (fail)
          have HP := (HD.out.chg (G := fun _ => False) (w' := wr.drew) ⟨rfl, rfl, rfl, Nat.le_refl _, fun _ _ _ => rfl⟩ (fun _ _ => id)).putL i HWI.out.1 bC HSl.out
          rw [HCB.out] at HP
          have HX6 := Aside0.mk ((HX.out.trans (b := wr) (c := wr.drew) (G := fun _ => False) ⟨rfl, rfl, rfl, Nat.le_refl _, fun _ _ _ => rfl⟩ (fun _ h => h.elim)).trans (Chg.of_grown (F := fun x => x = lb) HP.2 (fun x hx => (Option.some.inj hx).symm)) (fun x hx => .inl hx))
          have HR6 := Aside0.mk (show Kd.R (Kd.int .i64) 3 (wr.drew.setCells lb (i * 512) cb) w.heap.size (fun x => w.heap.size ≤ x) (.slice (some ⟨bv, 0, none⟩) m cv) s.keysI from Kd.R_step (Kd.R_drew HR.out) (fun k_ hk hlt => HP.2.block k_ hlt (by intro e; have := Option.some.inj e; omega)))
          have HD6 := Aside0.mk HP.1
          clear HP hSr hth hg0 hix hg1 hlk0 hfc hkc'
          generalize wr.drew.setCells lb (i * 512) cb = w5 at HR6 HD6 HX6 ⊢
          go_wp2
          go_roundg (gk - 1)
          case measure => have := HJ.out; have := HJ2.out; omega
          case rel => exact ⟨j + 1, (by have hi_ := HJ2.out; first | rfl | (simp; done) | (rw [show wrap64 ((j : Int) + 1) = (j : Int) + 1 from by unfold wrap64; omega]; rfl)), ⟨by have := HJ.out; have := HJ2.out; omega⟩, ⟨by omega⟩, ⟨by unfold DS.half crashL; rw [if_pos (by rw [HFV.out]; omega), HFV.out, HGI.out, ← HLN.out, ← HQ.out, ← HbC.out]; exact HD6.out⟩, HX6, HR6⟩
        · have hfvb : decide (1 ≤ fv) = false := decide_eq_false hfv
          go_wp2
          go_roundg (gk - 1)
          case measure => have := HJ.out; have := HJ2.out; omega
          case rel => exact ⟨j + 1, (by have hi_ := HJ2.out; first | rfl | (simp; done) | (rw [show wrap64 ((j : Int) + 1) = (j : Int) + 1 from by unfold wrap64; omega]; rfl)), ⟨by have := HJ.out; have := HJ2.out; omega⟩, ⟨by omega⟩, ⟨by unfold DS.half crashL; rw [if_neg (by rw [HFV.out]; omega)]; exact HD.out⟩, HX, HR⟩
    · have hjb : decide (j < m) = false := decide_eq_false hj
      have hjt : (j < m) = False := eq_false hj
      have HJ3 := Aside0.mk hj
      clear hj
      have hg1 : wr.cell? ⟨g, 1, none⟩ = some (.map (some mb)) := blk_cell HD.out.hd 1
      obtain ⟨ck, hclr⟩ := run_clear (by obtain ⟨es, ck, hb, _⟩ := HD.out.mp; exact ⟨es, ck, hb⟩) 0
      have HE := Aside0.mk (HD.out.clear ck)
      trace "END"
      go_wp2
      refine bodyPost_end (results_none rfl _ _ _) rfl ?_
      refine ⟨⟨_, rfl⟩, ?_, (HX.out.mono (fun x h => .inl h)).trans HE.out.2 (fun x h => .inl (.inr h))⟩
      have h1 := HE.out.1
      unfold DS.crash
      rw [show min s.keysN.length fs.length = j from by have := HM.out; have := HFL.out; have := HJ3.out; have := HJ.out; have := HJF.out; omega]
      exact h1
end Go.Proofs.Ytddnhcnkjcdfgaa.M
