-- slices.Sorted(maps.Keys(writes)): the shelf's contracts, laid; Crash: the keys, sorted; Crash; DiskStays: the walk
import Derived.Shelf.SlIterI.Nil
import Derived.Shelf.SortM.Plain
import Derived.Shelf.SortM.SortNone
import Derived.Ground.GgzProg
import Derived.Ground.SlgmProg
import Derived.Test.YtddnhcnkjcdfgaaProg
import Derived.Test.YtddnhcnkjcdfgaaDi
import Derived.Test.YtddnhcnkjcdfgaaDn
namespace Go.Proofs
open Go.RowKit Go.Maps Go.Sort Go.Shelf
shelf_lay_g SlLaysZI.n7 Ggz 7 at Try 46 as Try.keysA
shelf_lay_g SlLaysZI.n6 Ggz 6 at Try 45 as Try.sortedA
shelf_lay_g SlLaysM.n5 Slgm 5 at Try 57 as Try.sortA
theorem Try.sortsA (m : Nat) : AnyZI.SortsIn Try.prog Try.sortedA_ren Fence.wide m :=
  ⟨fun blk off cap ss W hH hblk hsz => callsIn_wide.2 (AnyM.slices_Sort_int Try.sortA blk off cap ss W hH hblk hsz),
   fun p cap W => callsIn_wide.2 (AnyM.slices_Sort_int_none Try.sortA p cap W)⟩
end Go.Proofs
namespace Go.Proofs.Ytddnhcnkjcdfgaa.M
open Go.RowKit Go.Maps Go.Sort Go.Shelf Go.Proofs.YtddnhcnkjcdfgaaW.PrintWords Go.Proofs.YtddnhcnkjcdfgaaW.PrintLast Go.Proofs.YtddnhcnkjcdfgaaW.PrintMore
set_option linter.unusedVariables false
set_option linter.unusedSimpArgs false
/-- The sectors that have writes, rising. -/
def DS.keysN (s : DS) : List Nat := (List.range s.n).filter (fun i => decide (s.W i ≠ []))
def DS.keysI (s : DS) : List Int := s.keysN.map (fun i : Nat => (i : Int))
theorem DS.mem_keysN (s : DS) (i : Nat) : i ∈ s.keysN ↔ i < s.n ∧ s.W i ≠ [] := by
  unfold DS.keysN
  rw [List.mem_filter, List.mem_range, decide_eq_true_eq]
theorem DS.keysN_rising (s : DS) : s.keysN.Pairwise (· < ·) := List.Pairwise.filter _ List.pairwise_lt_range
theorem DS.keysN_len (s : DS) : s.keysN.length ≤ s.n := by
  have := List.length_filter_le (fun i => decide (s.W i ≠ [])) (List.range s.n)
  rw [List.length_range] at this
  exact this
section
variable {w w' : World} {base g lb cp mb k : Nat} {F G : Nat → Prop} {s : DS} {f : Nat → Value} {D : DataW Value}
theorem DkIn.has_iff (h : DkIn w base g s lb cp mb f k D) (x : Int) : x ∈ s.keysI ↔ Maps.has D (.int .i64 x) = true := by
  constructor
  · intro hx
    obtain ⟨i, hi, rfl⟩ := List.mem_map.1 hx
    obtain ⟨hi, hW⟩ := (s.mem_keysN i).1 hi
    cases hh : Maps.has D (.int .i64 (i : Int)) with
    | true => rfl
    | false =>
      exfalso
      have h3 := h.at_ i hi
      rw [Maps.atKey_of_not_has hh] at h3
      have h4 : f i = .slice none 0 0 := (DataW.held.inj h3).symm
      have h5 := h.rows i hi
      rw [h4] at h5
      exact hW (List.length_eq_zero_iff.1 (Kd.R_reads' h5).1.symm)
  · intro hx
    obtain ⟨i, hi, e, hW⟩ := h.ks _ hx
    injection e with _ e
    subst e
    exact List.mem_map.2 ⟨i, (s.mem_keysN i).2 ⟨hi, hW⟩, rfl⟩
theorem DkIn.sorted (h : DkIn w base g s lb cp mb f k D) {ss : List Int} (hp : ss.Perm (intKeys D)) : ss.mergeSort leI = s.keysI ∧ ss.length = s.keysI.length := by
  have hn : s.keysI.Nodup := by
    refine List.pairwise_map.2 (s.keysN_rising.imp ?_)
    intro a b hab e
    have : (a : Int) = (b : Int) := e
    omega
  obtain ⟨es, hD, hpw, _⟩ := h.mp.entries keyed
  obtain ⟨es', hD', hko⟩ := h.mp.keysOf
  obtain rfl : es = es' := by rw [hD] at hD'; simpa using hD'
  have h1 : s.keysI.Perm (intKeys D) := by
    rw [hD]
    refine perm_intKeys hpw (fun p hp => ?_) hn (fun x => ?_)
    · obtain ⟨v, hv⟩ := hko p hp
      obtain ⟨x, _, hx, _⟩ := Maps.keyOf_i64 Try.underlying3 hv
      exact ⟨x, hx⟩
    · rw [← hD]; exact h.has_iff x
  have h2 : ss.Perm s.keysI := hp.trans h1.symm
  refine ⟨(mergeSort_of_perm_i h2).trans (List.mergeSort_of_pairwise (List.pairwise_map.2 (s.keysN_rising.imp ?_))), h2.length_eq⟩
  intro a b hab
  show decide ((a : Int) ≤ (b : Int)) = true
  exact decide_eq_true (by omega)
set_option maxHeartbeats 1000000 in
theorem keys_calls (m : Nat) (W : World) : Calls Try.prog 46 #[.map (some m)] W fun e w' => e = .returned (.func (.func 58) #[] #[.pointer (some ⟨W.heap.size, 0, none⟩)]) ∧ w' = W.alloc (.cells #[.map (some m)] 87) :=
  (callsIn_wide (n := 5)).1 (AnyZI.keys_in Try.keysA Fence.wide 5 trivial rfl (some m) W)
set_option maxHeartbeats 1000000 in
theorem sorted_calls (h : DkIn w base g s lb cp mb f k D) (hc : s.c < 1073741824) :
    Calls Try.prog 45 #[.func (.func 58) #[] #[.pointer (some ⟨w.heap.size, 0, none⟩)]] (w.alloc (.cells #[.map (some mb)] 87)) fun e w' => ∃ v, e = .returned v ∧ Kd.R (Kd.int .i64) 3 w' w.heap.size (fun _ => True) v s.keysI ∧ Below w.heap.size w w' := by
  have hown := h.mp
  have hbl := hown.lt
  have hsz : Maps.size D ≤ k := hown.size_le
  have hk := h.kc
  have hmax : Maps.size D ≤ maxLen := by unfold maxLen; omega
  have hbytes : Maps.size D * 8 ≤ 140737488355328 := by omega
  have hseq : SeqGives Fence.wide 2 Try.prog 58 #[.pointer (some ⟨w.heap.size, 0, none⟩)] encZ (fun ss => ss.Perm (intKeys D)) (Maps.size D) (w.alloc (.cells #[.map (some mb)] 87)) :=
    AnyZI.keys_gives (ρ := Try.keysA_ren) { Try.keysA with } Fence.wide _ trivial rfl (by omega) w.heap.size mb k D _ (by simp) (by simp) (by
      obtain ⟨es, clock, hb, Ft, hs, hD⟩ := hown
      exact ⟨es, clock, (Below.heap_alloc _ _ mb hbl).trans hb, Ft, hs, hD⟩)
  have cS := AnyZI.sorted_in Try.sortedA Fence.wide 5 trivial trivial trivial trivial rfl (by omega) (Try.sortsA _) (enters_of Try.func57 (by kernel_rfl) rfl) 58 #[.pointer (some ⟨w.heap.size, 0, none⟩)] trivial (enters_of Try.func58 (by kernel_rfl) rfl) _ _ hmax hbytes _ hseq
  change CallsIn _ _ Try.prog 45 _ _ _ at cS
  refine ((callsIn_wide (n := _)).1 cS).mono ?_
  rintro e w' ⟨v, ss, rfl, hS, hrow, hnil, hb⟩
  obtain ⟨e1, e2⟩ := h.sorted hS
  refine ⟨v, rfl, ?_, ((Below.refl _ w).alloc (Nat.le_refl _) _).trans (hb.mono (by simp))⟩
  have hrow' : w'.ownsRow w.heap.size 3 1 v s.keysI.length (encs (Value.int .i64) s.keysI) := by
    have h0 : w'.ownsRow w.heap.size 3 1 v ss.length _ := ownsRow_base_a hrow (by simp)
    rw [e2] at h0
    have e1' : ss.mergeSort (fun x y => decide (x ≤ y)) = s.keysI := e1
    rw [e1'] at h0
    exact h0
  exact Kd.R_of_own hrow' (fun _ _ => trivial)
end
end Go.Proofs.Ytddnhcnkjcdfgaa.M
namespace Go.Proofs.Ytddnhcnkjcdfgaa.M
open Go.RowKit Go.Maps Go.Proofs.YtddnhcnkjcdfgaaW.PrintWords Go.Proofs.YtddnhcnkjcdfgaaW.PrintLast Go.Proofs.YtddnhcnkjcdfgaaW.PrintMore
open Go.ChangeMaps (setBlock)
attribute [local go_sem] max2_int min2_int max_two min_two
set_option linter.unusedVariables false
set_option linter.unusedSimpArgs false
/-- What lasts behind the first j fates. -/
def crashL (s : DS) (fs : List Int) : Nat → List (List Int)
  | 0 => s.L
  | j + 1 => if 1 ≤ fs.getD j 0 then (crashL s fs j).set (s.keysN.getD j 0) ((s.W (s.keysN.getD j 0)).getD ((min (fs.getD j 0) ((s.W (s.keysN.getD j 0)).length : Int)).toNat - 1) []) else crashL s fs j
def DS.crash (s : DS) (fs : List Int) : DS := ⟨s.n, crashL s fs (min s.keysN.length fs.length), fun _ => [], 0, s.r, s.wr, s.fl⟩
def DS.half (s : DS) (fs : List Int) (j : Nat) : DS := ⟨s.n, crashL s fs j, s.W, s.c, s.r, s.wr, s.fl⟩
theorem add0 (b j : Nat) : (⟨b, 0, none⟩ : Addr).add j = ⟨b, j, none⟩ := by simp [Addr.add]; intro h; omega
theorem key_at (s : DS) (j : Nat) (hj : j < s.keysN.length) : s.keysN.getD j 0 < s.n ∧ s.W (s.keysN.getD j 0) ≠ [] ∧ rd s.keysI (j : Int) = ((s.keysN.getD j 0 : Nat) : Int) := by
  have h1 : s.keysN.getD j 0 = s.keysN[j] := by rw [List.getD_eq_getElem?_getD, List.getElem?_eq_getElem hj]; rfl
  have h2 := (s.mem_keysN (s.keysN[j])).1 (List.getElem_mem hj)
  rw [h1]
  refine ⟨h2.1, h2.2, ?_⟩
  unfold rd DS.keysI
  rw [Int.toNat_natCast, List.getD_eq_getElem?_getD, List.getElem?_map, List.getElem?_eq_getElem hj]
  rfl
set_option maxHeartbeats 1000000 in
set_option maxRecDepth 100000 in
theorem crash_in (g : Nat) (w : World) (base lb cp mb k : Nat) (f : Nat → Value) (D : DataW Value) (s : DS) (h : DkIn w base g s lb cp mb f k D) (hc : s.c < 1073741824) (A1 : Option Addr) (c1 : Nat) (fs : List Int) (hfs : ∀ W, Chg (fun x => x = lb) w W → (Kd.int .i64).C W A1 fs.length fs) (hne : ∀ ad, A1 = some ad → 0 < fs.length → ad.block ≠ lb) :
    Calls Try.prog 30 #[.pointer (some ⟨g, 0, none⟩), .slice A1 fs.length c1] w fun e w' => (∃ v, e = .returned v) ∧ DkIn w' base g (s.crash fs) lb cp mb (fun _ => .slice none 0 0) 0 (.map []) ∧ Chg (fun x => x = lb ∨ x = mb) w w' := by
  have hn2 := h.n2
  have hnm := h.nm
  have hKl := s.keysN_len
  have hKI : s.keysI.length = s.keysN.length := List.length_map _
  have hg1 : w.cell? ⟨g, 1, none⟩ = some (.map (some mb)) := blk_cell h.hd 1
  have HSO := Aside0.mk (sorted_calls h hc)
  have HK := Aside0.mk (keys_calls mb w)
  have HF := Aside0.mk hfs
  have HNE := Aside0.mk hne
  have H0 := Aside0.mk h
  have hlb : lb < w.heap.size := (h.la.typed rfl).2.1
  clear h hfs hne
  generalize hfl : fs.length = fl at *
  have HFL := Aside0.mk hfl
  clear hfl
  go_enter Try.func30, Try.ntmps30
  go_wp2_with (first
    | (go_at_call 46; (with_reducible refine HK.out.mono ?_); rintro e w1 ⟨rfl, rfl⟩)
    | (go_at_call 45; (with_reducible refine HSO.out.mono ?_); rintro e w2 ⟨v, rfl, hr, hb⟩; obtain ⟨Av, cv, ev⟩ := Kd.R_slice hr; subst ev; have HR9 := Aside0.mk hr; have HX0 := Aside0.mk hb; clear hr hb))
  have HR0 := Aside0.mk (show Kd.R (Kd.int .i64) 3 w2 w.heap.size (fun x => w.heap.size ≤ x) _ _ from Kd.R_of_own (Kd.own_of_R HR9.out) (fun k hk => Kd.R_base HR9.out k hk))
  clear HR9
  rw [hKI] at HR0
  try rw [hKI]
  generalize hm : s.keysN.length = m at *
  have HM := Aside0.mk hm
  have HKI := Aside0.mk hKI
  clear hm hKI
  clear hg1
  go_loopg [14] m (fun kq v14 wr => ∃ j : Nat, v14 = .int .i64 j ∧ Aside0 (j + kq = m) ∧ Aside0 (j ≤ fl) ∧ Aside0 (DkIn wr base g (s.half fs j) lb cp mb f k D) ∧ Aside0 (Chg (fun x => x = lb) w wr) ∧ Aside0 (Kd.R (Kd.int .i64) 3 wr w.heap.size (fun x => w.heap.size ≤ x) (.slice Av m cv) s.keysI))
  case atStart => exact ⟨0, rfl, ⟨Nat.zero_add _⟩, ⟨Nat.zero_le _⟩, ⟨H0.out.chg (G := fun _ => False) (Chg.of_below HX0.out) (fun _ _ => id)⟩, ⟨Chg.of_below HX0.out⟩, HR0⟩
  case round =>
    clear HR0 HX0
    obtain ⟨j, rfl, HJ, HJF, HD, HX, HR⟩ := hrel
    have hKw := HR.out
    by_cases hj : j < m
    · obtain ⟨hi, hW, hki⟩ := key_at s j (HM.out.symm ▸ hj)
      obtain ⟨bv, cv', ev, hbv, _, _⟩ := Kd.R_form HR.out (by rw [HKI.out]; omega)
      injection ev with ev el ec
      clear el ec
      subst ev
      obtain ⟨adv, eav, hkc⟩ := Kd.at_int (Kd.R_reads' HR.out).2.2 (j : Int) (by omega) (by rw [HKI.out]; omega)
      obtain rfl := Option.some.inj eav
      rw [hki, Int.toNat_natCast] at hkc
      generalize hgi : s.keysN.getD j 0 = i at hi hW hkc
      have HGI := Aside0.mk hgi
      clear hgi hki
      have hkc' : wr.cell? ⟨bv, j, none⟩ = some (.int .i64 (i : Int)) := by rw [add0] at hkc; exact hkc
      clear hkc hKw
      have hjb : decide (j < m) = true := decide_eq_true hj
      have hjt : (j < m) = True := eq_true hj
      have HJ2 := Aside0.mk hj
      clear hj
      by_cases hjf : j = fl
      · have HJE := Aside0.mk hjf
        have hjfb : ((j : Int) == (fl : Int)) = true := beq_iff_eq.mpr (by omega)
        have hjfd : (j == fl) = true := beq_iff_eq.mpr hjf
        clear hjf
        have hg1 : wr.cell? ⟨g, 1, none⟩ = some (.map (some mb)) := blk_cell HD.out.hd 1
        obtain ⟨ck, hclr⟩ := run_clear (by obtain ⟨es, ck, hb, _⟩ := HD.out.mp; exact ⟨es, ck, hb⟩) 0
        have HE := Aside0.mk (HD.out.clear ck)
        trace "BREAK"
        go_wp2
        refine bodyPost_end (results_none rfl _ _ _) rfl ?_
        refine ⟨⟨_, rfl⟩, ?_, (HX.out.mono (fun x h => .inl h)).trans HE.out.2 (fun x h => .inl (.inr h))⟩
        have h1 := HE.out.1
        unfold DS.crash
        rw [show min s.keysN.length fs.length = j from by have := HM.out; have := HFL.out; have := HJE.out; have := HJ2.out; omega]
        exact h1
      · have hjfb : ((j : Int) == (fl : Int)) = false := beq_eq_false_iff_ne.mpr (by omega)
        have hjfd : (j == fl) = false := beq_eq_false_iff_ne.mpr hjf
        have HJE := Aside0.mk hjf
        clear hjf
        have hjl : j < fl := by have := HJE.out; have := HJF.out; omega
        have hjlt : (j < fl) = True := eq_true hjl
        obtain ⟨ad, ead, hfc⟩ := Kd.at_int (HF.out wr HX.out) (j : Int) (by omega) (by omega)
        subst ead
        rw [Int.toNat_natCast] at hfc
        have hg1 : wr.cell? ⟨g, 1, none⟩ = some (.map (some mb)) := blk_cell HD.out.hd 1
        have hlk0 := HD.out.look i hi
        have hWl : 0 < (s.W i).length := List.length_pos_iff.2 hW
        have hrow := HD.out.rows i hi
        have hWc : (s.W i).length ≤ 9223372036854775807 := by
          obtain ⟨A7, c7, e7⟩ := Kd.R_slice hrow
          exact (Kd.R_reads' (e7 ▸ hrow)).2.2.2.1
        obtain ⟨b7, c7, e7, _⟩ := Kd.R_form hrow hWl
        have hrg7 : b7 ≠ lb := (HD.out.rowg (b := b7) hi (by rw [e7]; rfl)).2.2
        rw [e7] at hrow hlk0
        have HRW := Aside0.mk hrow
        have hWd : (s.half fs j).W i = s.W i := rfl
        rw [hWd] at hlk0 e7
        clear hrow hWd e7
        obtain ⟨fv, hfv0⟩ : ∃ x, x = rd fs (j : Int) := ⟨_, rfl⟩
        rw [← hfv0] at hfc
        have HFV := Aside0.mk (show fs.getD j 0 = fv from by rw [hfv0]; unfold rd; rw [Int.toNat_natCast])
        have HWI := Aside0.mk (And.intro hi hW)
        obtain ⟨ln, hln⟩ : ∃ x, x = (s.W i).length := ⟨_, rfl⟩
        rw [← hln] at hlk0 hWl hWc
        have HLN := Aside0.mk hln
        clear hfv0 hln hi hW
        by_cases hfv : 1 ≤ fv
        · have hfvb : decide (1 ≤ fv) = true := decide_eq_true hfv
          go_upto_region 6 with (fail)
          obtain ⟨q, hq1, hq2, hq3⟩ : ∃ q : Nat, (if (ln : Int) < fv then (ln : Int) else fv) = (q : Int) + 1 ∧ q < ln ∧ q = (min fv (ln : Int)).toNat - 1 := by
            refine ⟨(min fv (ln : Int)).toNat - 1, ?_, ?_, rfl⟩
            · split <;> omega
            · omega
          have HQ := Aside0.mk hq3
          clear hq3
          have hWi : (s.W i).getD q [] = (s.W i).getD q [] := rfl
          have hS7 := sec_at HRW.out q (by have := HLN.out; have h_ : (s.half fs j).W i = s.W i := rfl; rw [h_]; omega)
          have h_ : (s.half fs j).W i = s.W i := rfl
          rw [h_] at hS7
          clear h_ hWi
          obtain ⟨hSr, hSl, _⟩ := hS7
          obtain ⟨bC, hbC⟩ : ∃ x, x = (s.W i).getD q [] := ⟨_, rfl⟩
          have HbC := Aside0.mk hbC
          rw [← hbC] at hSr hSl
          have HSl := Aside0.mk hSl
          have hth : wr.there lb (i * 512) 512 := (sec_at HD.out.la i HWI.out.1).2.2
          have hlbg : lb ≠ g := HD.out.lbg
          have hfa : (ad.add j).block ≠ lb := by
            have h_ := HNE.out ad rfl (by omega)
            have e_ : (ad.add j).block = ad.block := by unfold Addr.add; split <;> rfl
            rw [e_]; exact h_
          have hg0 : wr.cell? ⟨g, 0, none⟩ = some (.slice (some ⟨lb, 0, none⟩) s.n cp) := blk_cell HD.out.hd 0
          have hi0 : (0 : Int) ≤ (i : Int) := by omega
          have hi1 : (i : Int) < (s.n : Int) := by have := HWI.out.1; omega
          have hil : (i < s.n) = True := eq_true HWI.out.1
          have hcl : (nums .u8 bC).length = 512 := by rw [nums_length, hSl]
          have hnb := nums_one bC
          have hu91 := Try.underlying91
          have hi91 : (Try.prog.info? 91).map (·.size) = some (nums .u8 bC).length := by rw [hcl]; exact size91
          generalize hcb : nums .u8 bC = cb at *
          have HCB := Aside0.mk hcb
          clear hcb hbC hSl
          have hif := hq1
          have hqw : IntKind.i64.wrap ((q : Int) + 1 - 1) = (q : Int) := by rw [show (q : Int) + 1 - 1 = (q : Int) by omega]; exact IntWalk.i64_in _ (by omega)
          have hqw2 : IntKind.i64.wrap (q : Int) = (q : Int) := IntWalk.i64_in _ (by omega)
          have hqt : (q : Int).toNat = q := rfl
          have hq0 : (0 : Int) ≤ (q : Int) := by omega
          have hql : (q : Int) < (ln : Int) := by omega
          have hix : ∀ W : World, (Instr.indexAt 86 (.slice (some ⟨b7, 0, none⟩) ln c7) (.int .i64 (q : Int))).run Try.prog W = .ok (.pointer (some ⟨b7, q * 512, none⟩)) W := fun W => by go_simp <;> (try (intro h; exact absurd h (by omega)))
          clear hq1
          go_region_held3 (fun W => W.cell? ⟨g, 0, none⟩ = some (.slice (some ⟨lb, 0, none⟩) s.n cp) ∧ W.cell? (ad.add j) = some (.int .i64 fv) ∧ W.rangeAt b7 (q * 512) cb ∧ W.there lb (i * 512) 512) (first | assumption | (simp only [World.cell?_drew]; exact ⟨hg0, hfc, hSr, hth⟩) | exact ⟨(World.cell?_setCells_out lb cb _ _ _ (fun e => absurd e.symm hlbg)).trans hg0, (World.cell?_setCells_out lb cb _ _ _ (fun e => absurd e hfa)).trans hfc, World.rangeAt_setCells_apart (w := wr.drew) hSr lb _ cb (.inl hrg7), World.there_setCells (w := wr.drew) hth lb _ cb⟩ | fail) (fail)
          have HP := (HD.out.chg (G := fun _ => False) (w' := wr.drew) ⟨rfl, rfl, rfl, Nat.le_refl _, fun _ _ _ => rfl⟩ (fun _ _ => id)).putL i HWI.out.1 bC HSl.out
          rw [HCB.out] at HP
          have HX6 := Aside0.mk ((HX.out.trans (b := wr) (c := wr.drew) (G := fun _ => False) ⟨rfl, rfl, rfl, Nat.le_refl _, fun _ _ _ => rfl⟩ (fun _ h => h.elim)).trans (Chg.of_grown (F := fun x => x = lb) HP.2 (fun x hx => (Option.some.inj hx).symm)) (fun x hx => .inl hx))
          have HR6 := Aside0.mk (show Kd.R (Kd.int .i64) 3 (wr.drew.setCells lb (i * 512) cb) w.heap.size (fun x => w.heap.size ≤ x) (.slice (some ⟨bv, 0, none⟩) m cv) s.keysI from Kd.R_step (Kd.R_drew HR.out) (fun k_ hk hlt => HP.2.block k_ hlt (by intro e; have := Option.some.inj e; omega)))
          have HD6 := Aside0.mk HP.1
          clear HP hSr hth hg0 hix hg1 hlk0 hfc hkc'
          generalize wr.drew.setCells lb (i * 512) cb = w5 at HR6 HD6 HX6 ⊢
          go_wp2
          go_roundg (gk - 1)
          case measure => have := HJ.out; have := HJ2.out; omega
          case rel => exact ⟨j + 1, (by have hi_ := HJ2.out; first | rfl | (simp; done) | (rw [show wrap64 ((j : Int) + 1) = (j : Int) + 1 from by unfold wrap64; omega]; rfl)), ⟨by have := HJ.out; have := HJ2.out; omega⟩, ⟨by omega⟩, ⟨by unfold DS.half crashL; rw [if_pos (by rw [HFV.out]; omega), HFV.out, HGI.out, ← HLN.out, ← HQ.out, ← HbC.out]; exact HD6.out⟩, HX6, HR6⟩
        · have hfvb : decide (1 ≤ fv) = false := decide_eq_false hfv
          go_wp2
          go_roundg (gk - 1)
          case measure => have := HJ.out; have := HJ2.out; omega
          case rel => exact ⟨j + 1, (by have hi_ := HJ2.out; first | rfl | (simp; done) | (rw [show wrap64 ((j : Int) + 1) = (j : Int) + 1 from by unfold wrap64; omega]; rfl)), ⟨by have := HJ.out; have := HJ2.out; omega⟩, ⟨by omega⟩, ⟨by unfold DS.half crashL; rw [if_neg (by rw [HFV.out]; omega)]; exact HD.out⟩, HX, HR⟩
    · have hjb : decide (j < m) = false := decide_eq_false hj
      have hjt : (j < m) = False := eq_false hj
      have HJ3 := Aside0.mk hj
      clear hj
      have hg1 : wr.cell? ⟨g, 1, none⟩ = some (.map (some mb)) := blk_cell HD.out.hd 1
      obtain ⟨ck, hclr⟩ := run_clear (by obtain ⟨es, ck, hb, _⟩ := HD.out.mp; exact ⟨es, ck, hb⟩) 0
      have HE := Aside0.mk (HD.out.clear ck)
      trace "END"
      go_wp2
      refine bodyPost_end (results_none rfl _ _ _) rfl ?_
      refine ⟨⟨_, rfl⟩, ?_, (HX.out.mono (fun x h => .inl h)).trans HE.out.2 (fun x h => .inl (.inr h))⟩
      have h1 := HE.out.1
      unfold DS.crash
      rw [show min s.keysN.length fs.length = j from by have := HM.out; have := HFL.out; have := HJ3.out; have := HJ.out; have := HJF.out; omega]
      exact h1
end Go.Proofs.Ytddnhcnkjcdfgaa.M
namespace Go.Proofs.Ytddnhcnkjcdfgaa.M
open Go.RowKit Go.Maps Go.Proofs.YtddnhcnkjcdfgaaW.PrintWords Go.Proofs.YtddnhcnkjcdfgaaW.PrintLast Go.Proofs.YtddnhcnkjcdfgaaW.PrintMore
open Go.Proofs.Ytddnhcnkjcdfgaa.P
attribute [local go_sem] max2_int min2_int max_two min_two max_three min_three max_four min_four
set_option linter.unusedVariables false
set_option linter.unusedSimpArgs false
theorem crash_at (g : Nat) (w : World) (base : Nat) (F : Nat → Prop) (s : DS) (h : DkAt w base g F s) (hc : s.c < 1073741824) (A1 : Option Addr) (c1 : Nat) (fs : List Int) (hfs : ∀ W, Chg F w W → (Kd.int .i64).C W A1 fs.length fs) (hne : ∀ ad, A1 = some ad → 0 < fs.length → ¬ F ad.block) :
    Calls Try.prog 30 #[.pointer (some ⟨g, 0, none⟩), .slice A1 fs.length c1] w fun e w' => (∃ v, e = .returned v) ∧ ∃ F', DkAt w' base g F' (s.crash fs) ∧ (∀ b, F' b → F b) ∧ Chg F w w' := by
  obtain ⟨lb, cp, mb, f, k, D, h1, h2⟩ := h
  refine (crash_in g w base lb cp mb k f D s h1 hc A1 c1 fs (fun W hW => hfs W (hW.mono (fun x hx => (h2 x).2 (.inr (.inl hx))))) (fun ad e hp hl => hne ad e hp ((h2 _).2 (.inr (.inl hl))))).mono ?_
  rintro e w' ⟨he, hd, hch⟩
  refine ⟨he, _, ⟨lb, cp, mb, _, 0, _, hd, fun b => Iff.rfl⟩, ?_, hch.mono (fun x hx => (h2 x).2 (by rcases hx with h | h; exact .inr (.inl h); exact .inr (.inr (.inl h))))⟩
  rintro b (h | h | h | ⟨i, hi, h⟩)
  · exact (h2 b).2 (.inl h)
  · exact (h2 b).2 (.inr (.inl h))
  · exact (h2 b).2 (.inr (.inr (.inl h)))
  · cases h
/-- What lasts of a sector, and no write to it. -/
structure St (s : DS) (m i : Nat) (B : List Int) (c : Nat) : Prop where
  n : s.n = m
  W : s.W i = []
  L : s.L.getD i [] = B
  c : s.c ≤ c
theorem St.put {s : DS} {m i c : Nat} {B : List Int} (h : St s m i B c) (j : Nat) (b : List Int) (hj : j ≠ i) : St (s.put j b) m i B (c + 1) :=
  ⟨h.n, by show (if i = j then s.W j ++ [b] else s.W i) = []; rw [if_neg (Ne.symm hj)]; exact h.W, h.L, Nat.succ_le_succ h.c⟩
theorem St.mono {s : DS} {m i c c' : Nat} {B : List Int} (h : St s m i B c) (hc : c ≤ c') : St s m i B c' := ⟨h.n, h.W, h.L, Nat.le_trans h.c hc⟩
theorem St.cur {s : DS} {m i c : Nat} {B : List Int} (h : St s m i B c) : s.cur i = B := by rw [cur_nil h.W, h.L]
theorem St.crash {s : DS} {m i c : Nat} {B : List Int} (h : St s m i B c) (fs : List Int) : St (s.crash fs) m i B 0 := by
  have key : ∀ j, j ≤ s.keysN.length → (crashL s fs j).getD i [] = s.L.getD i [] := by
    intro j
    induction j with
    | zero => intro _; rfl
    | succ j ih =>
      intro hj
      unfold crashL
      split
      · have hk := (key_at s j (by omega)).2.1
        have hne : s.keysN.getD j 0 ≠ i := fun e => hk (by rw [e]; exact h.W)
        rw [List.getD_eq_getElem?_getD, List.getElem?_set_ne hne, ← List.getD_eq_getElem?_getD]
        exact ih (by omega)
      · exact ih (by omega)
  exact ⟨h.n, rfl, by show (crashL s fs _).getD i [] = B; rw [key _ (Nat.min_le_left _ _), h.L], Nat.le_refl _⟩
theorem St.reads {s : DS} {m i c : Nat} {B : List Int} (h : St s m i B c) : St s.reads m i B c := ⟨h.n, h.W, h.L, h.c⟩
theorem St.start {n i : Nat} {B : List Int} (hi : i < n) (L : List (List Int)) : St ((DS.fresh n L).put i B).flush n i B 0 := by
  refine ⟨rfl, rfl, ?_, Nat.le_refl _⟩
  show ((List.range n).map ((DS.fresh n L).put i B).cur).getD i [] = B
  rw [List.getD_eq_getElem?_getD, List.getElem?_map, List.getElem?_range hi]
  show ((DS.fresh n L).put i B).cur i = B
  rw [cur_put, if_pos rfl]
def stays_T19 : Bool × List (List Nat × List Nat) := (true, [([], []), ([0], [0]), ([1], [1]), ([2], [2]), ([3, 2], [2, 3]), ([2], [2]), ([5, 2, 2], [2, 5]), ([6, 2], [2, 6]), ([4, 7, 2], [2, 4, 7]), ([2, 8], [2, 8])])
def stays_B19 : List Nat := [0, 1, 3, 7, 15, 7, 39, 103, 255, 511]
theorem stays_tab19 : rtab .any (opsOf Try.f6 19) = stays_T19 := by kernel_rfl
theorem stays_bits19 : waitsOk stays_T19.2 stays_B19 = true := by kernel_rfl
theorem made_ok2 (a0 : Int) : ∃ n : Nat, 2 ≤ n ∧ n ≤ 64 ∧ ∀ l1 : List S30, ∃ k out, kilnlaw3_made.f k a0 l1 = some (0, (n : Int), out) ∧ out.length ≤ 100 ∧ Good n out := by
  obtain ⟨r, hr, hr0, hr1⟩ := mod_ok a0 63 (by omega) (by omega)
  refine ⟨r.toNat + 2, by omega, by omega, fun l1 => ?_⟩
  obtain ⟨k, out, hk, ho, hg⟩ := made_l0 l1 (r.toNat + 2) (by omega) (by omega) 100 [] 0 rfl rfl (fun x hx => by cases hx)
  refine ⟨k, out, ?_, ho, hg⟩
  unfold kilnlaw3_made.f
  rw [hr, Option.bind_some, w64 _ (by omega) (by omega), show 2 + r = ((r.toNat + 2 : Nat) : Int) by omega]
  exact hk
set_option maxHeartbeats 8000000 in
set_option maxRecDepth 100000 in
theorem diskStays_calls (kB : Nat) (a0 a1 : Int) (A2 : Option Addr) (c2 : Nat) (l2 : List Int) (A3 : Option Addr) (c3 : Nat) (l3 : List (List S30)) (A4 : Option Addr) (c4 : Nat) (l4 : List Int) (w : World)
    (hr2 : Kd.C (Kd.int .u8) w A2 l2.length l2) (hc2 : l2.length ≤ c2) (hr3 : Kd.C (Kd.slice 30 k30) w A3 l3.length l3) (hc3 : l3.length ≤ c3) (hr4 : Kd.C (Kd.int .i64) w A4 l4.length l4) (hc4 : l4.length ≤ c4)
    (t322 : List Int) (hsec : kilnlaw3_sector.f kB l2 = some t322) (h512 : t322.length = 512) :
    Calls Try.prog 6 #[.int .i64 a0, .int .i64 a1, .slice A2 l2.length c2, .slice A3 l3.length c3, .slice A4 l4.length c4] w fun e w' => e = .returned (.bool true) ∧ Below w.heap.size w w' := by
  obtain ⟨n, hn2, hnm, hmade⟩ := made_ok2 a0
  obtain ⟨k0, out0, hk0, _, _⟩ := hmade ([] : List S30)
  have HMA := Aside0.mk hmade
  clear hmade
  obtain ⟨i0r, hi0r, hi00, hi01⟩ := mod_ok a1 (n : Int) (by omega) (by omega)
  obtain ⟨i0, rfl⟩ : ∃ i0 : Nat, i0r = (i0 : Int) := ⟨i0r.toNat, by omega⟩
  have hi0n : i0 < n := by omega
  have HR2 := Aside0.mk hr2
  have HC2 := Aside0.mk hc2
  have HR3 := Aside0.mk hr3
  have HR4 := Aside0.mk hr4
  have HSEC := Aside0.mk hsec
  have HMD := Aside0.mk hi0r
  have HMADE := Aside0.mk (fun W => (show Calls Try.prog 15 #[.int .i64 a0, .slice none 0 0] W _ from kilnlaw3_made.calls k0 a0 none 0 [] 0 (n : Int) out0 n hn2 hnm rfl W (Kd.C_nil _ _) (Nat.le_refl _) hk0))
  have HB0 := Aside0.mk (Below.refl w.heap.size w)
  clear hr2 hc2 hr3 hr4 hsec hi0r hk0 hi00 hi01 hc3 hc4
  go_enter Try.func6, Try.ntmps6
  go_upto_region 5 with (first
    | (go_at_call 15; (with_reducible refine (HMADE.out _).mono ?_); rintro e w1 ⟨v2, g, F0, base, rfl, hbase, hd, hs, hb⟩; have HD0 := Aside0.mk hd; have HB1 := Aside0.mk hb; have HBS := Aside0.mk hbase; clear hd hs hb hbase)
    | (go_at_call 20; (with_reducible refine (kilnlaw3_mod.calls a1 (n : Int) (i0 : Int) _ HMD.out).mono ?_); rintro e w2 ⟨rfl, hdr⟩; have HB2 := Aside0.mk (show Below w1.heap.size w1 w2 from by obtain ⟨nd, rfl⟩ := hdr; exact pw_below_drewN (Below.refl _ _) _); clear hdr))
  have HD2 := Aside0.mk (HD0.out.below HB2.out)
  have HBw2 := Aside0.mk (below_step HB1.out HB2.out)
  clear HD0 HB1 HB2 HMADE
  have H5 := Aside0.mk h512
  have HI0 := Aside0.mk hi0n
  have HWF := Aside0.mk (fun (w3 : World) (b3 c3' : Nat) (ho : Kd.R (Kd.int .u8) 5 w3 w2.heap.size (fun _ => True) (.slice (some ⟨b3, 0, none⟩) 512 c3') t322) (hb : Below w2.heap.size w2 w3) (hb3 : w2.heap.size ≤ b3) => write_at g i0 (some ⟨b3, 0, none⟩) c3' t322 w3 base F0 _ (HD2.out.below hb) HI0.out (by have h_ := (Kd.R_reads' ho).2.2; rw [H5.out] at h_; exact h_) (fun ad e hF => by
    cases e
    have h_ := (HD2.out.foot _ hF).2
    have h1_ : b3 < w2.heap.size := h_
    omega) (by show (0 : Nat) < 1073741824; decide))
  have HFF := Aside0.mk (fun w4 F4 s4 (hd : DkAt w4 base g F4 s4) => flush_at g w4 base F4 s4 hd)
  clear h512 hi0n
  go_upto_region 8 with (first
    | (go_at_call 22; (with_reducible refine (kilnlaw3_sector.calls kB A2 c2 l2 t322 _ ?s1 HC2.out HSEC.out).mono ?_); (case s1 => exact Kd.C_below HR2.out HBw2.out); rintro e w3 ⟨v3, rfl, ho, hb⟩; obtain ⟨b3, c3', e3, hb3, _, _⟩ := Kd.R_form ho (by rw [H5.out]; decide); rw [H5.out] at e3; subst e3; have HO3 := Aside0.mk ho; have HB3 := Aside0.mk hb; have HL3 := Aside0.mk hb3; have HWR := Aside0.mk (HWF.out _ _ _ ho hb hb3); clear ho hb hb3)
    | (go_at_call 16; (with_reducible refine HWR.out.mono ?_); rintro e w4 ⟨rfl, F4, hd, hF, hX⟩; have HD4 := Aside0.mk hd; have HF4 := Aside0.mk hF; have HX4 := Aside0.mk hX; have HFL := Aside0.mk (HFF.out _ _ _ hd); clear hd hF hX)
    | (go_at_call 17; (with_reducible refine HFL.out.mono ?_); rintro e w5 ⟨⟨v5, rfl⟩, F5, hd, hF, hX⟩; have HD5 := Aside0.mk hd; have HX5 := Aside0.mk hX; clear hd hF hX))
  have HST := Aside0.mk (St.start HI0.out (List.replicate n zeros) (B := t322))
  have HB5 := Aside0.mk (show Below w.heap.size w w5 from by
    have h3 := below_step HBw2.out HB3.out
    have h4 := Chg.below h3 HX4.out (below_size h3) (fun x hx => Nat.le_trans HBS.out (HD2.out.foot x hx).1)
    exact Chg.below h4 HX5.out (below_size h4) (fun x hx => Nat.le_trans HBS.out (HD4.out.foot x hx).1))
  clear HWF HFF HD2 HBw2 HO3 HB3 HL3 HWR HD4 HF4 HX4 HFL HX5
  go_wp2
  go_loopg [14] l3.length (fun kq v14 wr => ∃ (r : Nat) (F : Nat → Prop) (s : DS), v14 = .int .i64 r ∧ Aside0 (r + kq = l3.length) ∧ Aside0 (DkAt wr base g F s) ∧ Aside0 (St s n i0 t322 0) ∧ Aside0 (Below w.heap.size w wr))
  case atStart => exact ⟨0, F5, _, rfl, ⟨Nat.zero_add _⟩, HD5, HST, HB5⟩
  case round =>
    clear HD5 HST HB5
    obtain ⟨r, F, s, rfl, HRK, HD, HST, HB⟩ := hrel
    by_cases hr : r < l3.length
    · have hrb : decide (r < l3.length) = true := decide_eq_true hr
      by_cases hr10 : r < 10
      · have hrb2 : decide ((r : Int) < 10) = true := decide_eq_true (by omega)
        have hrt : (r < l3.length) = True := eq_true hr
        have hrt2 : (r < 10) = True := eq_true hr10
        obtain ⟨ad3, ce, e3, hcl3, hK3, hcell3⟩ := Kd.C_get (Kd.C_below HR3.out HB.out) ([] : List S30) (r : Int) (by omega) (by omega)
        subst e3
        obtain ⟨Ay, cy, rfl, hly, hCy⟩ := hK3
        have hx3 := hcell3 0 _ rfl
        rw [Int.toNat_natCast, show r * (Kd.slice 30 k30).sz + 0 = r from Nat.mul_one r] at hx3
        rw [Int.toNat_natCast] at hly hCy
        generalize l3.getD r [] = y at hx3 hly hCy
        obtain ⟨ky, out, hky, hol, hgo⟩ := HMA.out y
        have HM6 := Aside0.mk (kilnlaw3_made.calls ky a0 Ay cy y 0 (n : Int) out n hn2 hnm rfl wr hCy hly hky)
        have HGO := Aside0.mk hgo
        have HRR := Aside0.mk hr
        clear hcell3 hly hCy hky hgo hr hr10
        go_upto_region 12 with (go_at_call 15; (with_reducible refine HM6.out.mono ?_); rintro e w6 ⟨v6, g6, F6, base6, rfl, hbase6, hd6, hs6, hb6⟩; obtain ⟨A6, c6, e6⟩ := Kd.S_slice hs6; subst e6; have HS6 := Aside0.mk (Kd.S_bound hs6); have HB6 := Aside0.mk hb6; clear hd6 hs6 hb6 hbase6)
        have HS6' := Aside0.mk (show Kd.S k30 30 w6 wr.heap.size (fun k_ => wr.heap.size ≤ k_ ∧ k_ < w6.heap.size) _ out from Kd.S_mono HS6.out (fun k_ hk => ⟨hk.2.1, hk.2.2.1⟩))
        clear HS6 HM6 hx3
        go_wp2
        go_loopg [18] out.length (fun kq v18 w' => ∃ (j : Nat) (F' : Nat → Prop) (s' : DS), v18 = .int .i64 j ∧ Aside0 (j + kq = out.length) ∧ Aside0 (DkAt w' base g F' s') ∧ Aside0 (St s' n i0 t322 j) ∧ Aside0 (∀ x, F' x → F x ∨ w6.heap.size ≤ x) ∧ Aside0 (Chg F w6 w'))
        case atStart => exact ⟨0, F, s, rfl, ⟨Nat.zero_add _⟩, ⟨HD.out.below HB6.out⟩, HST, ⟨fun x h => .inl h⟩, ⟨Chg.refl _ _⟩⟩
        case round =>
          obtain ⟨j, F', s', rfl, HJ, HD', HST', HF', HX'⟩ := hrel
          have HSw := Aside0.mk (Kd.S_step HS6'.out (fun k_ hk hlt => HX'.out.block k_ hlt (fun hF => by have h1_ := (HD.out.foot k_ hF).2; have h2_ := hk.1; omega)))
          rename World => wq
          by_cases hj : j < out.length
          · have hjb : decide (j < out.length) = true := decide_eq_true hj
            have hjt : (j < out.length) = True := eq_true hj
            obtain ⟨⟨i, hi, hf0⟩, h5⟩ := HGO.out.at_ j hj
            obtain ⟨go, b1, c7, rfl, hx0, hx1, hC, hok, hog, hgo⟩ := row_at HSw.out j hj h5
            rw [hf0] at hx0
            have HJ2 := Aside0.mk hj
            by_cases hii : i = i0
            · subst hii
              have hni : ((i : Int) != (i : Int)) = false := bne_eq_false_iff_eq.mpr rfl
              clear hj hC hok hf0 h5 hog hgo
              go_wp2
              go_roundg (gk - 1)
              case measure => have := HJ.out; have := HJ2.out; omega
              case rel => exact ⟨j + 1, F', s', (by have hi_ := HJ2.out; have hl_ := hol; first | rfl | (simp; done) | (rw [show wrap64 ((j : Int) + 1) = (j : Int) + 1 from by unfold wrap64; omega]; rfl)), ⟨by have := HJ.out; have := HJ2.out; omega⟩, HD', ⟨HST'.out.mono (Nat.le_succ _)⟩, HF', HX'⟩
            · have hni : ((i : Int) != (i0 : Int)) = true := bne_iff_ne.mpr (by omega)
              have hni2 : (i == i0) = false := beq_eq_false_iff_ne.mpr hii
              have HWR := Aside0.mk (fun W (hW : Below wq.heap.size wq W) => write_at g i (some ⟨b1, 0, none⟩) c7 _ W base F' _ (HD'.out.chg (G := fun _ => False) (Chg.of_below hW) (fun _ _ => id)) (by rw [HST'.out.n]; exact hi) (Kd.C_below hC hW) (fun ad' e hF => by
                cases e
                rcases HF'.out _ hF with h_ | h_
                · have h1_ := (HD.out.foot _ h_).2; have h2_ := hok.1; have h3_ : b1 < wr.heap.size := h1_; omega
                · have h1_ : w6.heap.size ≤ b1 := h_; have := hok.2; omega) (by have := HST'.out.c; omega))
              have HGO2 := Aside0.mk (And.intro (show ¬ F' go from fun hF => by
                rcases HF'.out _ hF with h_ | h_
                · have h1_ := (HD.out.foot _ h_).2; have := hog.1; omega
                · have := hog.2; omega) hgo)
              have HII := Aside0.mk hii
              clear hj hC hok hf0 h5 hog hgo hii
              go_upto_region 16 with (fail)
              go_region_held3 (fun W => W.cell? ⟨go, j * 2, none⟩ = some (.int .i64 (i : Int)) ∧ W.cell? ⟨go, j * 2 + 1, none⟩ = some (.slice (some ⟨b1, 0, none⟩) 512 c7)) (first | exact ⟨hx0, hx1⟩ | exact HKEEP.out) ((go_at_call 16; (with_reducible refine (HWR.out _ (by repeat (first | exact Below.refl _ _ | apply below_drew1 | apply pw_below_drewN | apply below_alloc))).mono ?_); rintro e w7 ⟨rfl, F7, hd7, hF7, hX7⟩; have HKEEP := Aside0.mk (And.intro ((Chg.cell hX7 HGO2.out.1 (by first | exact HGO2.out.2 | simpa using HGO2.out.2) (j * 2)).trans hx0) ((Chg.cell hX7 HGO2.out.1 (by first | exact HGO2.out.2 | simpa using HGO2.out.2) (j * 2 + 1)).trans hx1)); have HD7 := Aside0.mk hd7; have HF7 := Aside0.mk hF7; have HX7 := Aside0.mk hX7; clear hd7 hF7 hX7))
              have hX7 := Aside0.mk (show Chg F' wq _ from ⟨HX7.out.os, HX7.out.tape, HX7.out.output, HX7.out.size, HX7.out.block⟩)
              have hF7 := Aside0.mk (fun x (hx : F7 x) => (show F x ∨ w6.heap.size ≤ x from by
                rcases HF7.out x hx with h_ | h_
                · exact HF'.out x h_
                · exact .inr (Nat.le_trans HX'.out.size h_)))
              have HXX := Aside0.mk (HX'.out.trans hX7.out HF'.out)
              clear HX7 HF7 hX7 HKEEP HWR HSw HX' HF' HD' HGO2 hx0 hx1
              go_wp2
              go_roundg (gk - 1)
              case measure => have := HJ.out; have := HJ2.out; omega
              case rel => exact ⟨j + 1, F7, _, (by have hi_ := HJ2.out; have hl_ := hol; first | rfl | (simp; done) | (rw [show wrap64 ((j : Int) + 1) = (j : Int) + 1 from by unfold wrap64; omega]; rfl)), ⟨by have := HJ.out; have := HJ2.out; omega⟩, HD7, ⟨HST'.out.put i _ HII.out⟩, hF7, HXX⟩
          · have hjb : decide (j < out.length) = false := decide_eq_false hj
            have HBW := Aside0.mk (show Below w.heap.size w wq from Chg.below (below_step HB.out HB6.out) HX'.out (below_size (below_step HB.out HB6.out)) (fun x hx => Nat.le_trans HBS.out (HD.out.foot x hx).1))
            have HCR := Aside0.mk (crash_at g wq base F' s' HD'.out (by have := HST'.out.c; have := HJ.out; omega) A4 c4 l4 (fun W hW => Kd.C_below HR4.out (Chg.below HBW.out hW (below_size HBW.out) (fun x hx => Nat.le_trans HBS.out (HD'.out.foot x hx).1))) (fun ad e hp hF => by
              have h1_ := Nat.le_trans HBS.out (HD'.out.foot _ hF).1
              obtain ⟨ad2, e2, hcell⟩ := Kd.at_int HR4.out 0 (by omega) (by omega)
              rw [e] at e2
              obtain rfl := Option.some.inj e2
              have h2_ := World.block_lt_of_cell? w _ hcell
              have e_ : (ad.add (0 : Int).toNat).block = ad.block := by unfold Addr.add; split <;> rfl
              rw [e_] at h2_
              omega))
            have HSTC := Aside0.mk (HST'.out.crash l4)
            have HRDF := Aside0.mk (fun W F3 s3 (hd : DkAt W base g F3 s3) (hn : i0 < s3.n) => read_at g i0 W base F3 s3 hd hn)
            clear HSw HF' HX' hj
            go_upto_region 19 with (first
              | (go_at_call 30; (with_reducible refine HCR.out.mono ?_); rintro e w8 ⟨⟨v8, rfl⟩, F8, hd8, hF8, hX8⟩; have HD8 := Aside0.mk hd8; have HX8 := Aside0.mk hX8; clear hd8 hF8 hX8)
              | (go_at_call 25; (with_reducible refine (HRDF.out _ _ _ HD8.out (by have h_ := HSTC.out.n; rw [h_]; exact HI0.out)).mono ?_); rintro e w34 ⟨v320, rfl, hr, hd, hc⟩; have HO321 := Aside0.mk hr; have HD9 := Aside0.mk hd; have HX9 := Aside0.mk hc; clear hr hd hc))
            have HB34 := Aside0.mk (show Below w.heap.size w w34 from by
              have h8 := Chg.below HBW.out HX8.out (below_size HBW.out) (fun x hx => Nat.le_trans HBS.out (HD'.out.foot x hx).1)
              exact Chg.below h8 HX9.out (below_size h8) (fun x hx => Nat.le_trans HBS.out (HD8.out.foot x hx).1))
            rw [HSTC.out.cur] at HO321
            have HR2' := Aside0.mk (Kd.C_below HR2.out HB34.out)
            clear HB HR2 HD' HCR HX8 HX9 HBW HD8 HRDF
            have HB := Aside0.mk (Below.refl w34.heap.size w34)
            have HR2 := HR2'
            clear HR2'
            have c9b0 : ((strOfNums t322).toList == (strOfNums t322).toList) = true := beq_iff_eq.mpr rfl
            have c9b1 : ((strOfNums t322).toList != (strOfNums t322).toList) = false := bne_eq_false_iff_eq.mpr rfl
            have n0_ := Aside0.mk (Kd.R_drew HO321.out)
            have n1_ := Aside0.mk (below_drew1 HB.out)
            clear HO321
            clear HB
            have HO321 := n0_
            have HB := n1_
            clear n0_ n1_
            refine start_ (n := 10) (S := fun w' => (convert 28 9 v320).run Try.prog w' = .ok (.string (strOfNums t322)) w') (ds := []) #[false, false, false, false, false, false, false, false, false, false] (by kernel_rfl) rfl rfl (own_string (P := Try.prog) Try.underlying28 Try.underlying5 Try.underlying9 (Kd.own_of_R HO321.out)) (fun hHeld => ?_); refine with_tabW stays_tab19 stays_bits19 (fun HT_ HW_ => ?_)
            generalize w34.drew = w35 at HO321 HB hHeld ⊢
            refine pure_ (i := 0) (N := some 94) (v := ?_) (a' := ?_) #[true, false, false, false, false, false, false, false, false, false] rfl rfl (any_of HT_.out (by kernel_rfl)) (fun _ _ _ h => h) (Or.inl ⟨by rfl, ?_⟩) ?_ ?_
            rotate_left
            · intro w'
              go_simp
              with_reducible rfl
            rotate_left
            · simp only [Act.put, List.setIfInBounds_toArray, List.set_cons_zero, List.set_cons_succ, i64_w, i32_w]
              rfl
            refine pure_ (i := 1) (N := some 95) (v := ?_) (a' := ?_) #[true, true, false, false, false, false, false, false, false, false] rfl rfl (any_of HT_.out (by kernel_rfl)) (fun _ _ _ h => h) (Or.inl ⟨by rfl, ?_⟩) ?_ ?_
            rotate_left
            · intro w'
              go_simp
              with_reducible rfl
            rotate_left
            · simp only [Act.put, List.setIfInBounds_toArray, List.set_cons_zero, List.set_cons_succ, i64_w, i32_w]
              rfl
            refine pure_ (i := 2) (N := some 96) (v := ?_) (a' := ?_) #[true, true, true, false, false, false, false, false, false, false] rfl rfl (any_of HT_.out (by kernel_rfl)) (fun _ _ _ h => h) (Or.inl ⟨by rfl, ?_⟩) ?_ ?_
            rotate_left
            · intro w'
              go_simp
              with_reducible rfl
            rotate_left
            · simp only [Act.put, List.setIfInBounds_toArray, List.set_cons_zero, List.set_cons_succ, i64_w, i32_w]
              rfl
            refine pure_ (i := 3) (N := some 97) (v := ?_) (a' := ?_) #[true, true, true, true, false, false, false, false, false, false] rfl rfl (any_of HT_.out (by kernel_rfl)) (fun _ _ _ h => h) (Or.inl ⟨by rfl, ?_⟩) ?_ ?_
            rotate_left
            · intro w'
              go_simp
              with_reducible rfl
            rotate_left
            · simp only [Act.put, List.setIfInBounds_toArray, List.set_cons_zero, List.set_cons_succ, i64_w, i32_w]
              rfl
            refine take_ (i := 4) (N := some 98) (v := ?_) (a' := ?_) #[true, true, true, true, true, false, false, false, false, false] rfl rfl (take_ofW HT_.out HW_.out (by kernel_rfl)) (fun _ _ _ h => h) (Or.inl ⟨by rfl, ?_⟩) hHeld ?_ ?_
            rotate_left
            · intro w' s0
              go_simp
              with_reducible rfl
            rotate_left
            · simp only [Act.put, List.setIfInBounds_toArray, List.set_cons_zero, List.set_cons_succ, i64_w, i32_w]
              rfl
            refine pure_ (i := 5) (N := some 99) (v := ?_) (a' := ?_) #[true, true, true, true, true, true, false, false, false, false] rfl rfl (any_of HT_.out (by kernel_rfl)) (fun _ _ _ h => h) (Or.inl ⟨by rfl, ?_⟩) ?_ ?_
            rotate_left
            · intro w'
              go_simp
              with_reducible rfl
            rotate_left
            · simp only [Act.put, List.setIfInBounds_toArray, List.set_cons_zero, List.set_cons_succ, i64_w, i32_w]
              rfl
            refine one_ (i := 6) (N := some 100) #[true, true, true, true, true, true, true, false, false, false] rfl rfl (one_of HT_.out (by kernel_rfl)) (by decide) (fun K hK => ?_)
            refine goes_ Try.func22 (by kernel_rfl) rfl #[.slice A2 l2.length c2] (by rfl) rfl rfl (by (try simp only [List.map_toArray, List.map_cons, List.map_nil]); first | done | rfl | (simp only [List.length_drop, List.length_take]; rfl)) ?_
            with_reducible refine (kilnlaw3_sector.calls kB _ _ l2 t322 _ ?side1 ?side2 HSEC.out).mono ?_
            (case side1 => repeat (first | exact (Kd.C_below HR2.out HB.out) | (with_reducible refine Kd.C_alloc ?_ _) | (with_reducible refine Kd.C_drewN ?_ _) | (with_reducible refine Kd.C_drew ?_)))
            (case side2 => exact HC2.out)
            rintro e w37 ⟨v323, rfl, ho0, hb⟩
            refine ⟨_, rfl, ?_⟩
            have n1_ := Aside0.mk (Kd.R_below HO321.out hb)
            have n2_ := Aside0.mk ho0
            have n3_ := Aside0.mk (below_step (by repeat (first | (with_reducible first | exact HB.out | apply below_alloc | apply pw_below_drewN | apply below_drew1) | exact HB.out)) hb)
            clear HO321
            clear HB
            have HO321 := n1_
            have HO324 := n2_
            have HB := n3_
            clear n1_ n2_ n3_
            (try clear hb)
            (try clear hb2)
            (try clear hk)
            (try clear hi)
            (try clear ho0)
            refine hK.out _ _ (own_string (P := Try.prog) Try.underlying28 Try.underlying5 Try.underlying9 (Kd.own_of_R HO321.out)) (fun hHeld => ?_)
            clear hK K
            refine norm_ (a' := ?_) ?_ ?_
            rotate_left
            · show Act.put _ (some 100) _ = _
              simp only [Act.put, List.setIfInBounds_toArray, List.set_cons_zero, List.set_cons_succ, i64_w, i32_w]
              rfl
            refine one_ (i := 7) (N := some 101) #[true, true, true, true, true, true, true, true, false, false] rfl rfl (one_of HT_.out (by kernel_rfl)) (by decide) (fun K hK => ?_)
            have hcv38 := own_string (P := Try.prog) Try.underlying28 Try.underlying5 Try.underlying9 (Kd.own_of_R HO324.out)
            refine value_ (w1 := ?_) (v := ?_) (by rfl) rfl ?_ ?_
            rotate_left 2
            · go_simp
              constructor
              · rfl
              · rfl
            clear hcv38
            refine hK.out _ _ (own_string (P := Try.prog) Try.underlying28 Try.underlying5 Try.underlying9 (Kd.own_of_R HO321.out)) (fun hHeld => ?_)
            clear hK K
            refine norm_ (a' := ?_) ?_ ?_
            rotate_left
            · show Act.put _ (some 101) _ = _
              simp only [Act.put, List.setIfInBounds_toArray, List.set_cons_zero, List.set_cons_succ, i64_w, i32_w]
              rfl
            refine pure_ (i := 8) (N := some 102) (v := ?_) (a' := ?_) #[true, true, true, true, true, true, true, true, true, false] rfl rfl (any_of HT_.out (by kernel_rfl)) (fun _ _ _ h => h) (Or.inl ⟨by rfl, ?_⟩) ?_ ?_
            rotate_left
            · intro w'
              go_simp
              with_reducible rfl
            rotate_left
            · simp only [Act.put, List.setIfInBounds_toArray, List.set_cons_zero, List.set_cons_succ, i64_w, i32_w]
              rfl
            refine pure_ (i := 9) (N := some 103) (v := ?_) (a' := ?_) #[true, true, true, true, true, true, true, true, true, true] rfl rfl (any_of HT_.out (by kernel_rfl)) (fun _ _ _ h => h) (Or.inl ⟨by rfl, ?_⟩) ?_ ?_
            rotate_left
            · intro w'
              go_simp
              with_reducible rfl
            rotate_left
            · simp only [Act.put, List.setIfInBounds_toArray, List.set_cons_zero, List.set_cons_succ, i64_w, i32_w]
              rfl
            refine done_ (done_of HT_.out (by kernel_rfl)) ?_
            try go_wp2
            go_roundg (l3.length - r - 1)
            case measure => have := HRK.out; have := HRR.out; omega
            case rel => exact ⟨r + 1, _, _, (by have hi_ := hrb2; first | rfl | (simp; done) | (rw [show wrap64 ((r : Int) + 1) = (r : Int) + 1 from by have := of_decide_eq_true hrb2; unfold wrap64; omega]; rfl)), ⟨by have := HRR.out; omega⟩, ⟨HD9.out.below HB.out⟩, ⟨HSTC.out.reads⟩, ⟨below_step HB34.out HB.out⟩⟩
      · have hrb2 : decide ((r : Int) < 10) = false := decide_eq_false (by omega)
        go_wp2
        all_goals first | (exfalso; omega) | (go_ret; exact ⟨rfl, HB.out⟩)
    · have hrb : decide (r < l3.length) = false := decide_eq_false hr
      go_wp2
      all_goals first | (exfalso; omega) | (go_ret; exact ⟨rfl, HB.out⟩)
end Go.Proofs.Ytddnhcnkjcdfgaa.M
