-- Load, Sectors
import Derived.Test.YtddnhcnkjcdfgaaDr
namespace Go.Proofs.Ytddnhcnkjcdfgaa.M
open Go.RowKit Go.Maps Go.Proofs.YtddnhcnkjcdfgaaW.PrintWords Go.Proofs.YtddnhcnkjcdfgaaW.PrintLast Go.Proofs.YtddnhcnkjcdfgaaW.PrintMore
set_option linter.unusedVariables false
set_option linter.unusedSimpArgs false
theorem sectors_at (g : Nat) (w : World) (base : Nat) (F : Nat → Prop) (s : DS) (h : DkAt w base g F s) :
    Calls Try.prog 29 #[.pointer (some ⟨g, 0, none⟩)] w fun e w' => e = .returned (.int .i64 (s.n : Int)) ∧ w' = w := by
  obtain ⟨lb, cp, mb, f, k, D, h1, h2⟩ := h
  have hg0 : w.cell? ⟨g, 0, none⟩ = some (.slice (some ⟨lb, 0, none⟩) s.n cp) := blk_cell h1.hd 0
  clear h1 h2
  generalize s.n = n at *
  go_enter Try.func29, Try.ntmps29
  go_wp2
  go_ret
  exact ⟨rfl, rfl⟩
theorem fresh_in {w : World} {base lb cp n : Nat} {L : List (List Int)} (hr : Rs w base (.slice (some ⟨lb, 0, none⟩) n cp) L) (hb : base ≤ w.heap.size) (h2 : 2 ≤ n) (hm : n ≤ 65536) :
    DkIn ((w.alloc (.map #[] 0)).alloc (.cells #[.slice (some ⟨lb, 0, none⟩) n cp, .map (some w.heap.size), .int .i64 0, .int .i64 0, .int .i64 0] 89)) base (w.heap.size + 1) (DS.fresh n L) lb cp w.heap.size (fun _ => .slice none 0 0) 0 (.map []) := by
  have hs : (w.alloc (.map #[] 0)).heap.size = w.heap.size + 1 := by simp
  refine ⟨?_, ?_, ?_, Nat.le_refl _, fun i _ => rfl, fun kl h => by simp [Maps.has] at h, fun i _ => ⟨fun k hk => by simp [Value.ownBlock] at hk, OwnRow.none_ _ _ _ _ _⟩, fun i _ => Nat.le_refl _, fun i j b _ _ h => by simp [Value.ownBlock] at h, fun i _ => by simp [Value.ownBlock], by omega, hb, h2, hm⟩
  · have := heap_alloc_new (w.alloc (.map #[] 0)) (.cells #[.slice (some ⟨lb, 0, none⟩) n cp, .map (some w.heap.size), .int .i64 0, .int .i64 0, .int .i64 0] 89)
    rw [hs] at this
    exact this
  · exact (hr.below (below_alloc (Below.refl _ _) _)).below (below_alloc (Below.refl _ _) _)
  · exact (World.ownsMap_made w _ _ _).alloc _
theorem take_set2 {α : Type} (L : List α) (z d : α) (i : Nat) (hi : i < L.length) : (L.take i ++ List.replicate (L.length - i) z).set i (L.getD i d) = L.take (i + 1) ++ List.replicate (L.length - (i + 1)) z := by
  have hl : (L.take i).length = i := by rw [List.length_take]; omega
  rw [List.set_append_right _ _ (by omega), hl, Nat.sub_self]
  obtain ⟨m, hm⟩ : ∃ m, L.length - i = m + 1 := ⟨L.length - i - 1, by omega⟩
  rw [hm, List.replicate_succ, List.set_cons_zero, show L.length - (i + 1) = m by omega, List.take_succ_eq_append_getElem hi, List.getD_eq_getElem?_getD, List.getElem?_eq_getElem hi]
  simp only [List.append_assoc, List.singleton_append, Option.getD_some]
set_option maxHeartbeats 4000000 in
set_option maxRecDepth 100000 in
theorem load_calls (A : Option Addr) (c : Nat) (imgs : List (List Int)) (w : World) (h2 : 2 ≤ imgs.length) (hm : imgs.length ≤ 65536) (hC : KB.C w A imgs.length imgs) (hl : ∀ i, i < imgs.length → (imgs.getD i []).length = 512) :
    Calls Try.prog 28 #[.slice A imgs.length c] w fun e w' => ∃ g F, e = .returned (.tuple #[.pointer (some ⟨g, 0, none⟩), .int .i64 0]) ∧ DkAt w' w.heap.size g F (DS.fresh imgs.length imgs) ∧ Below w.heap.size w w' := by
  obtain ⟨n, hn⟩ : ∃ n, n = imgs.length := ⟨_, rfl⟩
  rw [← hn] at h2 hm hC hl ⊢
  have Hmany := Aside0.mk (fun (W : World) => (show Calls Try.prog 43 #[.int .i64 (n : Int)] W fun e w' => e = .returned (.bool true) ∧ w' = W from by
    have h_ := many_calls (n : Int) W
    rw [show decide (2 ≤ (n : Int) ∧ (n : Int) ≤ 65536) = true from decide_eq_true (by omega)] at h_
    exact h_))
  have H2 := Aside0.mk h2
  have HM := Aside0.mk hm
  have HC := Aside0.mk hC
  have HL := Aside0.mk hl
  have HN := Aside0.mk hn
  have hmm := @run_makeMap Try.prog
  have hz := Aside0.mk zeros_nums
  clear h2 hm hC hl hn
  go_enter Try.func28, Try.ntmps28
  go_upto_region 4 with (first
    | (go_at_call 43; (with_reducible refine (Hmany.out _).mono ?_); rintro e w1 ⟨rfl, hw_⟩; subst hw_)
    | (at_make; refine Kd.R_make sec (w0 := w1) w1.heap.size 91 rfl (N := 13) rfl 86 (.tmp 12) (.tmp 12) rfl (n : Int) rfl rfl Try.underlying86 (.agg (Array.replicate 512 (.int .u8 0))) 512 info91 (by simp [sec, Value.cells]) (by decide) (by decide) zeros (ok := fun _ => True) (okp := fun _ => True) ?mz (fun _ h => h) trivial (by omega) ?ml (Below.refl _ _) (Nat.le_refl _) ?_; (case mz => exact ⟨zeros_len, hz.out.symm⟩); (case ml => have := HM.out; omega); intro v8 w2 hr hb hg hat; obtain ⟨lb, cp, e8, hlb_, _, _⟩ := Kd.R_form hr (by rw [List.length_replicate]; have := H2.out; omega); rw [List.length_replicate, Int.toNat_natCast] at e8; subst e8; rw [Int.toNat_natCast] at hr; have HR := Aside0.mk (Rs.of hr); have HB := Aside0.mk hb; have HLB := Aside0.mk hlb_; clear hr hb hg hat hlb_))
  have HD0 := Aside0.mk (fresh_in HR.out (below_size HB.out) H2.out HM.out)
  have HB0 := Aside0.mk (below_alloc (below_alloc HB.out (.map #[] 0)) (.cells #[.slice (some ⟨lb, 0, none⟩) n cp, .map (some w2.heap.size), .int .i64 0, .int .i64 0, .int .i64 0] 89))
  clear HR HB Hmany hmm
  generalize hgg : w2.heap.size + 1 = g at HD0 ⊢
  generalize (w2.alloc (.map #[] 0)).alloc (.cells #[.slice (some ⟨lb, 0, none⟩) n cp, .map (some w2.heap.size), .int .i64 0, .int .i64 0, .int .i64 0] 89) = w5 at HD0 HB0 ⊢
  generalize w2.heap.size = mb at HD0 ⊢
  clear hgg
  go_wp2
  go_loopg [19] n (fun kq v19 wr => ∃ i : Nat, v19 = .int .i64 i ∧ Aside0 (i + kq = n) ∧ Aside0 (DkIn wr w1.heap.size g (DS.fresh n (imgs.take i ++ List.replicate (n - i) zeros)) lb cp mb (fun _ => .slice none 0 0) 0 (.map [])) ∧ Aside0 (Below w1.heap.size w1 wr))
  case atStart => exact ⟨0, rfl, ⟨Nat.zero_add _⟩, ⟨by simpa using HD0.out⟩, HB0⟩
  case round =>
    clear HD0 HB0
    obtain ⟨i, rfl, HI, HD, HB⟩ := hrel
    by_cases hi : i < n
    · have hib : decide (i < n) = true := decide_eq_true hi
      have hit : (i < n) = True := eq_true hi
      obtain ⟨ad3, ce, e3, hcl3, hK3, hcell3⟩ := Kd.C_get HC.out ([] : List Int) (i : Int) (by omega) (by omega)
      subst e3
      obtain ⟨Ay, cy, rfl, hly, hCy⟩ := hK3
      have hx3 := hcell3 0 _ rfl
      rw [Int.toNat_natCast, show i * KB.sz + 0 = i from Nat.mul_one i] at hx3
      rw [Int.toNat_natCast] at hly hCy
      replace hx3 := (HB.out.cell (World.block_lt_of_cell? w1 _ hx3)).trans hx3
      have h5 := HL.out i hi
      rw [h5] at hx3 hly hCy
      have HHI := Aside0.mk hi
      have hCw := Aside0.mk (show (Kd.int .u8).C w1 Ay 512 (imgs.getD i []) from hCy)
      have hCy' : (Kd.int .u8).C wr Ay 512 (imgs.getD i []) := Kd.C_below hCw.out HB.out
      clear hcell3 hCy hi
      obtain ⟨ad, rfl, hcc⟩ := Kd.at_int hCy' 0 (by omega) (by omega)
      have hspot := spot_of_C hCy' (by omega)
      obtain ⟨ab, ao, asp⟩ := ad
      obtain rfl : asp = none := hspot
      have hrange := rangeAt_of_C hCy' rfl
      clear hCy' hcc
      go_upto_region 9 with (fail)
      obtain ⟨bC, hbC⟩ : ∃ x, x = imgs.getD i [] := ⟨_, rfl⟩
      have HbC := Aside0.mk hbC
      have H5 := Aside0.mk (show bC.length = 512 from by rw [hbC]; exact h5)
      rw [← hbC] at hrange
      have hth : wr.there lb (i * 512) 512 := (sec_at HD.out.la i HHI.out).2.2
      have hlbg : lb ≠ g := HD.out.lbg
      have habl : ab ≠ lb := by
        have h_ := (HD.out.la.typed rfl).1
        obtain ⟨ad9, e9, hc9⟩ := Kd.at_int hCw.out 0 (by omega) (by omega)
        obtain rfl := Option.some.inj e9
        have h2_ := World.block_lt_of_cell? w1 _ hc9
        have e_ : ((⟨ab, ao, none⟩ : Addr).add (0 : Int).toNat).block = ab := by unfold Addr.add; split <;> rfl
        rw [e_] at h2_
        have h3_ : w1.heap.size ≤ lb := h_
        intro e
        rw [e] at h2_
        exact Nat.not_lt.2 h3_ h2_
      have hg0 : wr.cell? ⟨g, 0, none⟩ = some (.slice (some ⟨lb, 0, none⟩) n cp) := blk_cell HD.out.hd 0
      have hi0 : (0 : Int) ≤ (i : Int) := by omega
      have hsap := sap (some ⟨ab, ao, none⟩) cy
      have hcl : (nums .u8 bC).length = 512 := by rw [nums_length, H5.out]
      have hnb := nums_one bC
      have hu91 := Try.underlying91
      have hi91 : (Try.prog.info? 91).map (·.size) = some (nums .u8 bC).length := by rw [hcl]; exact size91
      generalize hcb : nums .u8 bC = cb at *
      have HCB := Aside0.mk hcb
      clear hcb hbC h5
      go_region_held3 (fun W => W.cell? ⟨g, 0, none⟩ = some (.slice (some ⟨lb, 0, none⟩) n cp) ∧ W.rangeAt ab ao cb ∧ W.there lb (i * 512) 512) (first | assumption | (simp only [World.cell?_drew]; exact ⟨hg0, hrange, hth⟩) | exact ⟨(World.cell?_setCells_out lb cb _ _ _ (fun e => absurd e.symm hlbg)).trans hg0, World.rangeAt_setCells_apart (w := wr.drew) hrange lb _ cb (.inl habl), World.there_setCells (w := wr.drew) hth lb _ cb⟩ | fail) (fail)
      have HP := (HD.out.chg (G := fun _ => False) (w' := wr.drew) ⟨rfl, rfl, rfl, Nat.le_refl _, fun _ _ _ => rfl⟩ (fun _ _ => id)).putL i HHI.out bC H5.out
      rw [HCB.out] at HP
      have hLe : (imgs.take i ++ List.replicate (n - i) zeros).set i bC = imgs.take (i + 1) ++ List.replicate (n - (i + 1)) zeros := by
        rw [HbC.out, HN.out]
        exact take_set2 imgs zeros [] i (by have := HHI.out; have := HN.out; omega)
      have HD6 := Aside0.mk (show DkIn (wr.drew.setCells lb (i * 512) cb) w1.heap.size g (DS.fresh n (imgs.take (i + 1) ++ List.replicate (n - (i + 1)) zeros)) lb cp mb (fun _ => .slice none 0 0) 0 (.map []) from by
        rw [← hLe]; exact HP.1)
      have HB6 := Aside0.mk (Chg.below HB.out ((Chg.trans (F := fun x => x = lb) (b := wr.drew) (G := fun x => x = lb) ⟨rfl, rfl, rfl, Nat.le_refl _, fun _ _ _ => rfl⟩ (Chg.of_grown HP.2 (fun x hx => (Option.some.inj hx).symm)) (fun x hx => .inl hx))) (below_size HB.out) (fun x hx => by subst hx; exact (HD.out.la.typed rfl).1))
      clear HP hrange hth hg0 hsap hx3 hLe
      generalize wr.drew.setCells lb (i * 512) cb = w7 at HD6 HB6 ⊢
      go_wp2
      go_roundg (gk - 1)
      case measure => have := HI.out; have := HHI.out; omega
      case rel => exact ⟨i + 1, (by have hi_ := HHI.out; have hm_ := HM.out; first | rfl | (simp; done) | (rw [show wrap64 ((i : Int) + 1) = (i : Int) + 1 from by unfold wrap64; omega]; rfl)), ⟨by have := HI.out; have := HHI.out; omega⟩, HD6, HB6⟩
    · have hib : decide (i < n) = false := decide_eq_false hi
      have HHI := Aside0.mk hi
      clear hi
      go_wp2
      go_ret2
      refine ⟨g, Fp g lb mb (fun _ => .slice none 0 0) n, rfl, ⟨lb, cp, mb, fun _ => .slice none 0 0, 0, .map [], ?_, fun b => Iff.rfl⟩, HB.out⟩
      have h1 := HD.out
      have e : i = n := by have := HI.out; have := HHI.out; omega
      rw [e, Nat.sub_self, List.replicate_zero, List.append_nil, show imgs.take n = imgs from by rw [HN.out]; exact List.take_length] at h1
      exact h1
end Go.Proofs.Ytddnhcnkjcdfgaa.M
