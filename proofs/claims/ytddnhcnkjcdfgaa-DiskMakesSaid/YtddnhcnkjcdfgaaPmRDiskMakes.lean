/- DiskMakes: disks of every number of sectors and of every image are made, or refused, as the document says. -/
import Derived.Test.YtddnhcnkjcdfgaaPmZ2
import Derived.Test.YtddnhcnkjcdfgaaRows
import Derived.ChangeSlices
import Derived.SizedLaws
import Derived.ChangeArms
import Derived.WalkKit
import Derived.ProofKit
import Derived.OpenShut
import Derived.ShutString
import Derived.ChangeOld
import Derived.Below
import Derived.Deep.DeepHandedRow
import Derived.Lib.LaidTab
namespace Go.Proofs.Ytddnhcnkjcdfgaa.M
open Go.RowKit Go.Maps Go.Proofs.YtddnhcnkjcdfgaaW.PrintWords Go.Proofs.YtddnhcnkjcdfgaaW.PrintLast Go.Proofs.YtddnhcnkjcdfgaaW.PrintMore
open Go.Proofs.Ytddnhcnkjcdfgaa.P hiding S106 k106 rd_T106 at_T106
set_option linter.unusedVariables false
set_option linter.unusedSimpArgs false
set_option maxHeartbeats 4000000 in
set_option maxRecDepth 100000 in
theorem load_32 (A : Option Addr) (c : Nat) (imgs : List (List Int)) (w : World) (h2 : 2 ≤ imgs.length) (hm : imgs.length ≤ 65536) (hC : KB.C w A imgs.length imgs) (q : Nat) (hq : FirstBad imgs q) :
    Calls Try.prog 28 #[.slice A imgs.length c] w fun e w' => e = .returned (.tuple #[.pointer none, .int .i64 32]) ∧ Below w.heap.size w w' := by
  obtain ⟨hq1, hq2, hq3⟩ := hq
  obtain ⟨n, hn⟩ : ∃ n, n = imgs.length := ⟨_, rfl⟩
  rw [← hn] at h2 hm hC hq1 ⊢
  have Hmany := Aside0.mk (fun (W : World) => (show Calls Try.prog 43 #[.int .i64 (n : Int)] W fun e w' => e = .returned (.bool true) ∧ w' = W from by
    have h_ := many_calls (n : Int) W
    rw [show decide (2 ≤ (n : Int) ∧ (n : Int) ≤ 65536) = true from decide_eq_true (by omega)] at h_
    exact h_))
  have H2 := Aside0.mk h2
  have HM := Aside0.mk hm
  have HC := Aside0.mk hC
  have HL := Aside0.mk hq3
  have HQ1 := Aside0.mk hq1
  have HQ2 := Aside0.mk hq2
  have HN := Aside0.mk hn
  have hmm := @run_makeMap Try.prog
  have hz := Aside0.mk zeros_nums
  clear h2 hm hC hq1 hq2 hq3 hn
  go_enter Try.func28, Try.ntmps28
  go_upto_region 4 with (first
    | (go_at_call 43; (with_reducible refine (Hmany.out _).mono ?_); rintro e w1 ⟨rfl, hw_⟩; subst hw_)
    | (at_make; refine Kd.R_make sec (w0 := w1) w1.heap.size 91 rfl (N := 13) rfl 86 (.tmp 12) (.tmp 12) rfl (n : Int) rfl rfl Try.underlying86 (.agg (Array.replicate 512 (.int .u8 0))) 512 info91 (by simp [sec, Value.cells]) (by decide) (by decide) zeros (ok := fun _ => True) (okp := fun _ => True) ?mz (fun _ h => h) trivial (by omega) ?ml (Below.refl _ _) (Nat.le_refl _) ?_; (case mz => exact ⟨zeros_len, hz.out.symm⟩); (case ml => have := HM.out; omega); intro v8 w2 hr hb hg hat; obtain ⟨lb, cp, e8, hlb_, _, _⟩ := Kd.R_form hr (by rw [List.length_replicate]; have := H2.out; omega); rw [List.length_replicate, Int.toNat_natCast] at e8; subst e8; rw [Int.toNat_natCast] at hr; have HR := Aside0.mk (Rs.of hr); have HB := Aside0.mk hb; have HLB := Aside0.mk hlb_; clear hr hb hg hat hlb_))
  have HD0 := Aside0.mk (fresh_in HR.out (below_size HB.out) H2.out HM.out)
  have HB0 := Aside0.mk (below_alloc (below_alloc HB.out (.map #[] 0)) (.cells #[.slice (some ⟨lb, 0, none⟩) n cp, .map (some w2.heap.size), .int .i64 0, .int .i64 0, .int .i64 0] 89))
  clear HR HB Hmany hmm
  generalize hgg : w2.heap.size + 1 = g at HD0 ⊢
  generalize (w2.alloc (.map #[] 0)).alloc (.cells #[.slice (some ⟨lb, 0, none⟩) n cp, .map (some w2.heap.size), .int .i64 0, .int .i64 0, .int .i64 0] 89) = w5 at HD0 HB0 ⊢
  generalize w2.heap.size = mb at HD0 ⊢
  clear hgg
  go_wp2
  go_loopg [19] n (fun kq v19 wr => ∃ i : Nat, v19 = .int .i64 i ∧ Aside0 (i + kq = n) ∧ Aside0 (i ≤ q) ∧ Aside0 (DkIn wr w1.heap.size g (DS.fresh n (imgs.take i ++ List.replicate (n - i) zeros)) lb cp mb (fun _ => .slice none 0 0) 0 (.map [])) ∧ Aside0 (Below w1.heap.size w1 wr))
  case atStart => exact ⟨0, rfl, ⟨Nat.zero_add _⟩, ⟨Nat.zero_le _⟩, ⟨by simpa using HD0.out⟩, HB0⟩
  case round =>
    clear HD0 HB0
    obtain ⟨i, rfl, HI, HIQ, HD, HB⟩ := hrel
    by_cases hiq : i < q
    · have hi : i < n := by have := HQ1.out; omega
      have HLT := Aside0.mk hiq
      have h5_ := HL.out i hiq
      clear hiq
      have hib : decide (i < n) = true := decide_eq_true hi
      have hit : (i < n) = True := eq_true hi
      obtain ⟨ad3, ce, e3, hcl3, hK3, hcell3⟩ := Kd.C_get HC.out ([] : List Int) (i : Int) (by omega) (by omega)
      subst e3
      obtain ⟨Ay, cy, rfl, hly, hCy⟩ := hK3
      have hx3 := hcell3 0 _ rfl
      rw [Int.toNat_natCast, show i * KB.sz + 0 = i from Nat.mul_one i] at hx3
      rw [Int.toNat_natCast] at hly hCy
      replace hx3 := (HB.out.cell (World.block_lt_of_cell? w1 _ hx3)).trans hx3
      have h5 := h5_
      clear h5_
      rw [h5] at hx3 hly hCy
      have HHI := Aside0.mk hi
      have hCw := Aside0.mk (show (Kd.int .u8).C w1 Ay 512 (imgs.getD i []) from hCy)
      have hCy' : (Kd.int .u8).C wr Ay 512 (imgs.getD i []) := Kd.C_below hCw.out HB.out
      clear hcell3 hCy hi
      obtain ⟨ad, rfl, hcc⟩ := Kd.at_int hCy' 0 (by omega) (by omega)
      have hspot := spot_of_C hCy' (by omega)
      obtain ⟨ab, ao, asp⟩ := ad
      obtain rfl : asp = none := hspot
      have hrange := rangeAt_of_C hCy' rfl
      clear hCy' hcc
      go_upto_region 9 with (fail)
      obtain ⟨bC, hbC⟩ : ∃ x, x = imgs.getD i [] := ⟨_, rfl⟩
      have HbC := Aside0.mk hbC
      have H5 := Aside0.mk (show bC.length = 512 from by rw [hbC]; exact h5)
      rw [← hbC] at hrange
      have hth : wr.there lb (i * 512) 512 := (sec_at HD.out.la i HHI.out).2.2
      have hlbg : lb ≠ g := HD.out.lbg
      have habl : ab ≠ lb := by
        have h_ := (HD.out.la.typed rfl).1
        obtain ⟨ad9, e9, hc9⟩ := Kd.at_int hCw.out 0 (by omega) (by omega)
        obtain rfl := Option.some.inj e9
        have h2_ := World.block_lt_of_cell? w1 _ hc9
        have e_ : ((⟨ab, ao, none⟩ : Addr).add (0 : Int).toNat).block = ab := by unfold Addr.add; split <;> rfl
        rw [e_] at h2_
        have h3_ : w1.heap.size ≤ lb := h_
        intro e
        rw [e] at h2_
        exact Nat.not_lt.2 h3_ h2_
      have hg0 : wr.cell? ⟨g, 0, none⟩ = some (.slice (some ⟨lb, 0, none⟩) n cp) := blk_cell HD.out.hd 0
      have hi0 : (0 : Int) ≤ (i : Int) := by omega
      have hsap := sap (some ⟨ab, ao, none⟩) cy
      have hcl : (nums .u8 bC).length = 512 := by rw [nums_length, H5.out]
      have hnb := nums_one bC
      have hu91 := Try.underlying91
      have hi91 : (Try.prog.info? 91).map (·.size) = some (nums .u8 bC).length := by rw [hcl]; exact size91
      generalize hcb : nums .u8 bC = cb at *
      have HCB := Aside0.mk hcb
      clear hcb hbC h5
      go_region_held3 (fun W => W.cell? ⟨g, 0, none⟩ = some (.slice (some ⟨lb, 0, none⟩) n cp) ∧ W.rangeAt ab ao cb ∧ W.there lb (i * 512) 512) (first | assumption | (simp only [World.cell?_drew]; exact ⟨hg0, hrange, hth⟩) | exact ⟨(World.cell?_setCells_out lb cb _ _ _ (fun e => absurd e.symm hlbg)).trans hg0, World.rangeAt_setCells_apart (w := wr.drew) hrange lb _ cb (.inl habl), World.there_setCells (w := wr.drew) hth lb _ cb⟩ | fail) (fail)
      have HP := (HD.out.chg (G := fun _ => False) (w' := wr.drew) ⟨rfl, rfl, rfl, Nat.le_refl _, fun _ _ _ => rfl⟩ (fun _ _ => id)).putL i HHI.out bC H5.out
      rw [HCB.out] at HP
      have hLe : (imgs.take i ++ List.replicate (n - i) zeros).set i bC = imgs.take (i + 1) ++ List.replicate (n - (i + 1)) zeros := by
        rw [HbC.out, HN.out]
        exact take_set2 imgs zeros [] i (by have := HHI.out; have := HN.out; omega)
      have HD6 := Aside0.mk (show DkIn (wr.drew.setCells lb (i * 512) cb) w1.heap.size g (DS.fresh n (imgs.take (i + 1) ++ List.replicate (n - (i + 1)) zeros)) lb cp mb (fun _ => .slice none 0 0) 0 (.map []) from by
        rw [← hLe]; exact HP.1)
      have HB6 := Aside0.mk (Chg.below HB.out ((Chg.trans (F := fun x => x = lb) (b := wr.drew) (G := fun x => x = lb) ⟨rfl, rfl, rfl, Nat.le_refl _, fun _ _ _ => rfl⟩ (Chg.of_grown HP.2 (fun x hx => (Option.some.inj hx).symm)) (fun x hx => .inl hx))) (below_size HB.out) (fun x hx => by subst hx; exact (HD.out.la.typed rfl).1))
      clear HP hrange hth hg0 hsap hx3 hLe
      generalize wr.drew.setCells lb (i * 512) cb = w7 at HD6 HB6 ⊢
      go_wp2
      go_roundg (gk - 1)
      case measure => have := HI.out; have := HHI.out; omega
      case rel => exact ⟨i + 1, (by have hi_ := HHI.out; have hm_ := HM.out; first | rfl | (simp; done) | (rw [show wrap64 ((i : Int) + 1) = (i : Int) + 1 from by unfold wrap64; omega]; rfl)), ⟨by have := HI.out; have := HHI.out; omega⟩, ⟨by have := HLT.out; omega⟩, HD6, HB6⟩
    · obtain rfl : i = q := by have := HIQ.out; omega
      have hi : i < n := HQ1.out
      have hib : decide (i < n) = true := decide_eq_true hi
      have hit : (i < n) = True := eq_true hi
      obtain ⟨ad3, ce, e3, hcl3, hK3, hcell3⟩ := Kd.C_get HC.out ([] : List Int) (i : Int) (by omega) (by omega)
      subst e3
      obtain ⟨Ay, cy, rfl, hly, hCy⟩ := hK3
      have hx3 := hcell3 0 _ rfl
      rw [Int.toNat_natCast, show i * KB.sz + 0 = i from Nat.mul_one i] at hx3
      replace hx3 := (HB.out.cell (World.block_lt_of_cell? w1 _ hx3)).trans hx3
      have hne : (((imgs.getD i []).length : Int) != 512) = true := by have := HQ2.out; simp only [bne_iff_ne, ne_eq]; omega
      clear hcell3 hCy hly hi hiq
      generalize (imgs.getD i []).length = m at hx3 hne
      go_wp2
      go_ret2
      exact ⟨rfl, HB.out⟩
end Go.Proofs.Ytddnhcnkjcdfgaa.M

namespace Go.Proofs.Ytddnhcnkjcdfgaa.M
open Go.RowKit Go.Maps Go.Proofs.YtddnhcnkjcdfgaaW.PrintWords Go.Proofs.YtddnhcnkjcdfgaaW.PrintLast Go.Proofs.YtddnhcnkjcdfgaaW.PrintMore
open Go.Proofs.Ytddnhcnkjcdfgaa.P hiding S106 k106 rd_T106 at_T106
set_option linter.unusedVariables false
theorem Sep.load {w0 w : World} {L : List Th} (h : Sep w0 w L) (A : Option Addr) (c : Nat) (imgs : List (List Int)) (h2 : 2 ≤ imgs.length) (hm : imgs.length ≤ 65536) (hC : KB.C w A imgs.length imgs) (hl : ∀ i, i < imgs.length → (imgs.getD i []).length = 512) :
    Calls Try.prog 28 #[.slice A imgs.length c] w fun e w' => ∃ g, e = .returned (.tuple #[.pointer (some ⟨g, 0, none⟩), .int .i64 0]) ∧ Sep w0 w' (dkT g (DS.fresh imgs.length imgs) :: L) := by
  refine (load_calls A c imgs w h2 hm hC hl).mono ?_
  rintro e w' ⟨g, F, rfl, hd, hb⟩
  exact ⟨g, rfl, h.push hb (t := dkT g _) ⟨_, hd⟩ (fun b hF => (hd.foot b hF).1)⟩
end Go.Proofs.Ytddnhcnkjcdfgaa.M

namespace Go.Proofs.Ytddnhcnkjcdfgaa.M
open Go.RowKit Go.Maps Go.Proofs.YtddnhcnkjcdfgaaW.PrintWords Go.Proofs.YtddnhcnkjcdfgaaW.PrintLast Go.Proofs.YtddnhcnkjcdfgaaW.PrintMore
open Go.Proofs.Ytddnhcnkjcdfgaa.P hiding S106 k106 rd_T106 at_T106
open Go.Proofs.Ytddnhcnkjcdfgaa.R
set_option linter.unusedVariables false
set_option linter.unusedSimpArgs false
variable {w0 : World} {L : List Th}
def Sub (L M : List Th) : Prop := ∃ N, M = N ++ L
theorem Sub.r (L : List Th) : Sub L L := ⟨[], rfl⟩
theorem Sub.c {L M : List Th} {a : Th} (h : Sub L M) : Sub L (a :: M) := by
  obtain ⟨N, rfl⟩ := h
  exact ⟨a :: N, rfl⟩
theorem Sub.sep {w : World} {L M : List Th} (h : Sub L M) (hs : Sep w0 w M) : Sep w0 w L := by
  obtain ⟨N, rfl⟩ := h
  exact ⟨hs.below, (hs.hold.split.choose_spec.2.2).mono (fun b hb _ => hb.1)⟩
end Go.Proofs.Ytddnhcnkjcdfgaa.M

namespace Go.Proofs.Ytddnhcnkjcdfgaa.M
open Go.RowKit Go.Maps Go.Proofs.YtddnhcnkjcdfgaaW.PrintWords Go.Proofs.YtddnhcnkjcdfgaaW.PrintLast Go.Proofs.YtddnhcnkjcdfgaaW.PrintMore
open Go.Proofs.Ytddnhcnkjcdfgaa.P hiding S106 k106 rd_T106 at_T106
open Go.Proofs.Ytddnhcnkjcdfgaa.R
set_option linter.unusedVariables false
set_option linter.unusedSimpArgs false
variable {w0 : World} {L : List Th}
def PrS (w0 w : World) (gp : Nat) (L : List Th) (s : DS) (B : Nat) : Prop := ∃ g A1 c1 A2 c2 l1 l2,
  Sep w0 w (cellsT gp (prC g s (.slice A1 (List.length l1) c1) (.slice A2 (List.length l2) c2)) 78 :: dkT g s :: refT (.slice A1 (List.length l1) c1) (.slice A2 (List.length l2) c2) l1 l2 :: L) ∧
  Rl s l1 l2 ∧ 2 ≤ s.n ∧ s.n ≤ 65536 ∧ l1.length + l2.length ≤ B ∧ s.c ≤ B
end Go.Proofs.Ytddnhcnkjcdfgaa.M

namespace Go.Proofs.Ytddnhcnkjcdfgaa.M
open Go.RowKit Go.Maps Go.Proofs.YtddnhcnkjcdfgaaW.PrintWords Go.Proofs.YtddnhcnkjcdfgaaW.PrintLast Go.Proofs.YtddnhcnkjcdfgaaW.PrintMore
open Go.Proofs.Ytddnhcnkjcdfgaa.P hiding S106 k106 rd_T106 at_T106
open Go.Proofs.Ytddnhcnkjcdfgaa.R
set_option linter.unusedVariables false
set_option linter.unusedSimpArgs false
variable {w0 : World} {L : List Th}
theorem does_rd (gp : Nat) (s : DS) (B : Nat) (w : World) (h : PrS w0 w gp L s B) (hB2 : B ≤ 800000) (i : Nat) (hi : i < s.n) (t fl : Int) (dv fv : Value) :
    Calls Try.prog 38 #[.pointer (some ⟨gp, 0, none⟩), .agg #[.int .i64 0, .int .i64 (i : Int), .int .i64 t, dv, .int .i64 fl, fv]] w fun e w' => e = .returned (.bool true) ∧ PrS w0 w' gp L s.reads B := by
  obtain ⟨g, A1, c1, A2, c2, l1, l2, hS, hR, hn2, hnm, hlB, hcB⟩ := h
  refine (does_read gp g s A1 c1 A2 c2 l1 l2 w hS (by omega) hR i (by omega) t fl _ _).mono ?_
  rintro e w' ⟨he, A1', c1', A2', c2', h1⟩
  exact ⟨he, ⟨g, A1', c1', A2', c2', l1, l2, h1, hR.reads, hn2, hnm, by omega, hcB⟩⟩
def told1_T : Bool × List (List Nat × List Nat) := (true, [([], []), ([0], [0]), ([1], [1]), ([2], [2]), ([3], [3]), ([], []), ([5], [5]), ([6], [6]), ([7], [7]), ([8], [8]), ([4, 9], [4, 9]), ([10, 4], [10]), ([11], [11]), ([12, 11], [11, 12]), ([13, 11], [11, 13]), ([14, 11], [11, 14]), ([15, 11, 11], [11, 15]), ([11], [11]), ([17, 11], [11, 17]), ([18, 11], [11, 18]), ([19, 11], [11, 19]), ([20, 11], [11, 20]), ([16, 21, 11], [11, 16, 21]), ([11, 22], [11, 22]), ([23, 16], [23]), ([24], [24]), ([25, 24], [24, 25]), ([26, 24], [24, 26]), ([27, 24], [24, 27]), ([28, 24, 24], [24, 28]), ([24], [24]), ([30, 24], [24, 30]), ([31, 24], [24, 31]), ([32, 24], [24, 32]), ([33, 29, 24], [24, 33]), ([29, 34, 34, 24], [24, 29, 34]), ([35, 24], [24, 35]), ([24, 36], [24, 36])])
def told1_B : List Nat := [0, 1, 3, 7, 15, 0, 32, 96, 224, 480, 1023, 2047, 4095, 8191, 16383, 32767, 65535, 4095, 135167, 397311, 921599, 1970175, 4194303, 8388607, 16777215, 33554431, 67108863, 134217727, 268435455, 536870911, 33554431, 1107296255, 3254779903, 7549747199, 17179869183, 34359738367, 68719476735, 137438953471]
theorem told1_tab : rtab .any (opsOf Try.f39 1) = told1_T := by kernel_rfl
theorem told1_bits : waitsOk told1_T.2 told1_B = true := by kernel_rfl
def told8_T : Bool × List (List Nat × List Nat) := (true, [([], []), ([0], [0]), ([1], [1]), ([2], [2]), ([3], [3]), ([], []), ([5], [5]), ([6], [6]), ([7], [7]), ([8], [8]), ([4, 9], [4, 9]), ([10, 4, 0, 1, 2, 3, 4, 5, 6, 7, 8, 9, 10], [10])])
def told8_B : List Nat := [0, 1, 3, 7, 15, 0, 32, 96, 224, 480, 1023, 2047]
theorem told8_tab : rtab .any (opsOf Try.f39 8) = told8_T := by kernel_rfl
theorem told8_bits : waitsOk told8_T.2 told8_B = true := by kernel_rfl
set_option maxHeartbeats 8000000 in
set_option maxRecDepth 100000 in
theorem told_calls (gp : Nat) (s : DS) (B : Nat) (w : World) (h : PrS w0 w gp L s B) (hB2 : B ≤ 800000) :
    Calls Try.prog 39 #[.pointer (some ⟨gp, 0, none⟩)] w fun e w' => e = .returned (.bool true) ∧ ∃ s', PrS w0 w' gp L s' B := by
  obtain ⟨g, A1, c1, A2, c2, l1, l2, hS, hR, hn2, hnm, hlB, hcB⟩ := h
  have HS0 := Aside0.mk hS
  have HIM := Aside0.mk hR.image
  have HN := Aside0.mk (And.intro hn2 hnm)
  have HL1 := Aside0.mk (show l1.length ≤ 1000000000 by omega)
  have HLL := Aside0.mk (show s.L.length ≤ 1000000 by rw [hR.len]; omega)
  have HG := Aside0.mk (show ∀ j, j < l1.length → (∃ i : Nat, i < s.n ∧ (rd_T106 l1 (j : Int)).f0 = (i : Int)) ∧ (rd_T106 l1 (j : Int)).f1.length ≤ 1000000 from fun j hj => by
    rw [rd106 l1 j hj]
    obtain ⟨h1, h2⟩ := hR.e1 _ (List.getElem_mem hj)
    exact ⟨h1, by omega⟩)
  have HK := Aside0.mk (show ∀ W, Sep w0 W (cellsT gp (prC g s (.slice A1 l1.length c1) (.slice A2 l2.length c2)) 78 :: dkT g s :: refT (.slice A1 l1.length c1) (.slice A2 l2.length c2) l1 l2 :: L) → PrS w0 W gp L s B from fun W h => ⟨g, A1, c1, A2, c2, l1, l2, h, hR, hn2, hnm, hlB, hcB⟩)
  have HB2 := Aside0.mk hB2
  have hrr : (s.r == s.r) = true := beq_iff_eq.mpr rfl
  have hqq : (s.wr == s.wr) = true := beq_iff_eq.mpr rfl
  have hff : (s.fl == s.fl) = true := beq_iff_eq.mpr rfl
  have hnn : ((s.n : Int) != (s.n : Int)) = false := by simp
  clear hS hR hlB hcB hB2
  go_enter Try.func39, Try.ntmps39
  go_upto_region 1 with (fail)
  have HS1 := Aside0.mk (HS0.out.step (below_drew1 (Below.refl w.heap.size w)))
  refine start_ (n := 38) (S := fun W => W.cell? ⟨gp, 0, none⟩ = some (.pointer (some ⟨g, 0, none⟩)) ∧ W.cell? ⟨gp, 1, none⟩ = some (.int .i64 (s.n : Int)) ∧ W.cell? ⟨gp, 2, none⟩ = some (.slice A1 l1.length c1) ∧ W.cell? ⟨gp, 3, none⟩ = some (.slice A2 l2.length c2) ∧ W.cell? ⟨gp, 4, none⟩ = some (.int .i64 s.r) ∧ W.cell? ⟨gp, 5, none⟩ = some (.int .i64 s.wr) ∧ W.cell? ⟨gp, 6, none⟩ = some (.int .i64 s.fl)) (ds := [35]) (bb 38 0) (by kernel_rfl) rfl rfl ((pr_held0 HS1.out)) (fun hHeld => ?_); refine with_tabW told1_tab told1_bits (fun HT_ HW_ => ?_)
  generalize w.drew = wd at hHeld HS1 ⊢
  refine pure_ (i := 0) (N := (some 4)) (v := ?_) (a' := ?_) (bb 38 1) rfl rfl (any_of HT_.out (by kernel_rfl)) (fun _ _ _ h => h) (Or.inl ⟨by rfl, ?_⟩) ?_ ?_
  rotate_left
  · intro w'
    go_simp
    with_reducible rfl
  rotate_left
  · simp only [Act.put, List.setIfInBounds_toArray, List.set_cons_zero, List.set_cons_succ, i64_w, i32_w]
    rfl
  refine pure_ (i := 1) (N := (some 5)) (v := ?_) (a' := ?_) (bb 38 3) rfl rfl (any_of HT_.out (by kernel_rfl)) (fun _ _ _ h => h) (Or.inl ⟨by rfl, ?_⟩) ?_ ?_
  rotate_left
  · intro w'
    go_simp
    with_reducible rfl
  rotate_left
  · simp only [Act.put, List.setIfInBounds_toArray, List.set_cons_zero, List.set_cons_succ, i64_w, i32_w]
    rfl
  refine pure_ (i := 2) (N := (some 6)) (v := ?_) (a' := ?_) (bb 38 7) rfl rfl (any_of HT_.out (by kernel_rfl)) (fun _ _ _ h => h) (Or.inl ⟨by rfl, ?_⟩) ?_ ?_
  rotate_left
  · intro w'
    go_simp
    with_reducible rfl
  rotate_left
  · simp only [Act.put, List.setIfInBounds_toArray, List.set_cons_zero, List.set_cons_succ, i64_w, i32_w]
    rfl
  refine take_ (i := 3) (N := (some 7)) (v := ?_) (a' := ?_) (bb 38 15) rfl rfl (take_ofW HT_.out HW_.out (by kernel_rfl)) (fun _ _ _ h => h) (Or.inl ⟨by rfl, ?_⟩) hHeld ?_ ?_
  rotate_left
  · intro w' s0
    (try dsimp only at s0)
    go_simp
    with_reducible rfl
  rotate_left
  · simp only [Act.put, List.setIfInBounds_toArray, List.set_cons_zero, List.set_cons_succ, i64_w, i32_w]
    rfl
  refine pure_ (i := 5) (N := (some 9)) (v := ?_) (a' := ?_) (bb 38 47) rfl rfl (any_of HT_.out (by kernel_rfl)) (fun _ _ _ h => h) (Or.inl ⟨by rfl, ?_⟩) ?_ ?_
  rotate_left
  · intro w'
    go_simp
    with_reducible rfl
  rotate_left
  · simp only [Act.put, List.setIfInBounds_toArray, List.set_cons_zero, List.set_cons_succ, i64_w, i32_w]
    rfl
  refine pure_ (i := 6) (N := (some 10)) (v := ?_) (a' := ?_) (bb 38 111) rfl rfl (any_of HT_.out (by kernel_rfl)) (fun _ _ _ h => h) (Or.inl ⟨by rfl, ?_⟩) ?_ ?_
  rotate_left
  · intro w'
    go_simp
    with_reducible rfl
  rotate_left
  · simp only [Act.put, List.setIfInBounds_toArray, List.set_cons_zero, List.set_cons_succ, i64_w, i32_w]
    rfl
  refine pure_ (i := 7) (N := (some 11)) (v := ?_) (a' := ?_) (bb 38 239) rfl rfl (any_of HT_.out (by kernel_rfl)) (fun _ _ _ h => h) (Or.inl ⟨by rfl, ?_⟩) ?_ ?_
  rotate_left
  · intro w'
    go_simp
    with_reducible rfl
  rotate_left
  · simp only [Act.put, List.setIfInBounds_toArray, List.set_cons_zero, List.set_cons_succ, i64_w, i32_w]
    rfl
  refine pure_ (i := 8) (N := (some 12)) (v := ?_) (a' := ?_) (bb 38 495) rfl rfl (any_of HT_.out (by kernel_rfl)) (fun _ _ _ h => h) (Or.inl ⟨by rfl, ?_⟩) ?_ ?_
  rotate_left
  · intro w'
    go_simp
    with_reducible rfl
  rotate_left
  · simp only [Act.put, List.setIfInBounds_toArray, List.set_cons_zero, List.set_cons_succ, i64_w, i32_w]
    rfl
  refine take_ (i := 9) (N := (some 13)) (v := ?_) (a' := ?_) (bb 38 1007) rfl rfl (take_ofW HT_.out HW_.out (by kernel_rfl)) (fun _ _ _ h => h) (Or.inl ⟨by rfl, ?_⟩) hHeld ?_ ?_
  rotate_left
  · intro w' s0
    (try dsimp only at s0)
    go_simp
    with_reducible rfl
  rotate_left
  · simp only [Act.put, List.setIfInBounds_toArray, List.set_cons_zero, List.set_cons_succ, i64_w, i32_w]
    rfl
  refine one_ (i := 4) (N := (some 8)) (bb 38 1023) rfl rfl (one_of HT_.out (by kernel_rfl)) (by decide) (fun K hK => ?_)
  refine goes_ Try.func35 (by kernel_rfl) rfl #[.pointer (some ⟨g, 0, none⟩)] (by rfl) rfl rfl (by (try simp only [List.map_toArray, List.map_cons, List.map_nil]); first | done | rfl) ?_
  with_reducible refine (Sep.acts HS1.out.up1).mono ?_
  rintro e w2 ⟨rfl, h⟩
  have HS2 := Aside0.mk h.up1
  clear h
  refine ⟨_, rfl, ?_⟩
  refine hK.out _ _ (pr_held0 HS2.out) (fun hHeld => ?_)
  clear hK K
  refine norm_ (a' := ?_) ?_ ?_
  rotate_left
  · show Act.put _ (some 8) _ = _
    simp only [Act.put, List.setIfInBounds_toArray, List.set_cons_zero, List.set_cons_succ, i64_w, i32_w]
    rfl
  refine pure_ (i := 10) (N := (some 14)) (v := ?_) (a' := ?_) (bb 38 2047) rfl rfl (any_of HT_.out (by kernel_rfl)) (fun _ _ _ h => h) (Or.inl ⟨by rfl, ?_⟩) ?_ ?_
  rotate_left
  · intro w'
    go_simp
    with_reducible rfl
  rotate_left
  · simp only [Act.put, List.setIfInBounds_toArray, List.set_cons_zero, List.set_cons_succ, i64_w, i32_w]
    rfl
  refine pure_ (i := 11) (N := (some 15)) (v := ?_) (a' := ?_) (bb 38 4095) rfl rfl (any_of HT_.out (by kernel_rfl)) (fun _ _ _ h => h) (Or.inl ⟨by rfl, ?_⟩) ?_ ?_
  rotate_left
  · intro w'
    go_simp
    with_reducible rfl
  rotate_left
  · simp only [Act.put, List.setIfInBounds_toArray, List.set_cons_zero, List.set_cons_succ, i64_w, i32_w]
    rfl
  refine pure_ (i := 12) (N := (some 16)) (v := ?_) (a' := ?_) (bb 38 8191) rfl rfl (any_of HT_.out (by kernel_rfl)) (fun _ _ _ h => h) (Or.inl ⟨by rfl, ?_⟩) ?_ ?_
  rotate_left
  · intro w'
    go_simp
    with_reducible rfl
  rotate_left
  · simp only [Act.put, List.setIfInBounds_toArray, List.set_cons_zero, List.set_cons_succ, i64_w, i32_w]
    rfl
  refine pure_ (i := 13) (N := (some 17)) (v := ?_) (a' := ?_) (bb 38 16383) rfl rfl (any_of HT_.out (by kernel_rfl)) (fun _ _ _ h => h) (Or.inl ⟨by rfl, ?_⟩) ?_ ?_
  rotate_left
  · intro w'
    go_simp
    with_reducible rfl
  rotate_left
  · simp only [Act.put, List.setIfInBounds_toArray, List.set_cons_zero, List.set_cons_succ, i64_w, i32_w]
    rfl
  refine pure_ (i := 14) (N := (some 18)) (v := ?_) (a' := ?_) (bb 38 32767) rfl rfl (any_of HT_.out (by kernel_rfl)) (fun _ _ _ h => h) (Or.inl ⟨by rfl, ?_⟩) ?_ ?_
  rotate_left
  · intro w'
    go_simp
    with_reducible rfl
  rotate_left
  · simp only [Act.put, List.setIfInBounds_toArray, List.set_cons_zero, List.set_cons_succ, i64_w, i32_w]
    rfl
  refine take_ (i := 15) (N := (some 19)) (v := ?_) (a' := ?_) (bb 38 65535) rfl rfl (take_ofW HT_.out HW_.out (by kernel_rfl)) (fun _ _ _ h => h) (Or.inl ⟨by rfl, ?_⟩) hHeld ?_ ?_
  rotate_left
  · intro w' s0
    (try dsimp only at s0)
    go_simp
    with_reducible rfl
  rotate_left
  · simp only [Act.put, List.setIfInBounds_toArray, List.set_cons_zero, List.set_cons_succ, i64_w, i32_w]
    rfl
  refine pure_ (i := 17) (N := (some 21)) (v := ?_) (a' := ?_) (bb 38 196607) rfl rfl (any_of HT_.out (by kernel_rfl)) (fun _ _ _ h => h) (Or.inl ⟨by rfl, ?_⟩) ?_ ?_
  rotate_left
  · intro w'
    go_simp
    with_reducible rfl
  rotate_left
  · simp only [Act.put, List.setIfInBounds_toArray, List.set_cons_zero, List.set_cons_succ, i64_w, i32_w]
    rfl
  refine pure_ (i := 18) (N := (some 22)) (v := ?_) (a' := ?_) (bb 38 458751) rfl rfl (any_of HT_.out (by kernel_rfl)) (fun _ _ _ h => h) (Or.inl ⟨by rfl, ?_⟩) ?_ ?_
  rotate_left
  · intro w'
    go_simp
    with_reducible rfl
  rotate_left
  · simp only [Act.put, List.setIfInBounds_toArray, List.set_cons_zero, List.set_cons_succ, i64_w, i32_w]
    rfl
  refine pure_ (i := 19) (N := (some 23)) (v := ?_) (a' := ?_) (bb 38 983039) rfl rfl (any_of HT_.out (by kernel_rfl)) (fun _ _ _ h => h) (Or.inl ⟨by rfl, ?_⟩) ?_ ?_
  rotate_left
  · intro w'
    go_simp
    with_reducible rfl
  rotate_left
  · simp only [Act.put, List.setIfInBounds_toArray, List.set_cons_zero, List.set_cons_succ, i64_w, i32_w]
    rfl
  refine pure_ (i := 20) (N := (some 24)) (v := ?_) (a' := ?_) (bb 38 2031615) rfl rfl (any_of HT_.out (by kernel_rfl)) (fun _ _ _ h => h) (Or.inl ⟨by rfl, ?_⟩) ?_ ?_
  rotate_left
  · intro w'
    go_simp
    with_reducible rfl
  rotate_left
  · simp only [Act.put, List.setIfInBounds_toArray, List.set_cons_zero, List.set_cons_succ, i64_w, i32_w]
    rfl
  refine take_ (i := 21) (N := (some 25)) (v := ?_) (a' := ?_) (bb 38 4128767) rfl rfl (take_ofW HT_.out HW_.out (by kernel_rfl)) (fun _ _ _ h => h) (Or.inl ⟨by rfl, ?_⟩) hHeld ?_ ?_
  rotate_left
  · intro w' s0
    (try dsimp only at s0)
    go_simp
    with_reducible rfl
  rotate_left
  · simp only [Act.put, List.setIfInBounds_toArray, List.set_cons_zero, List.set_cons_succ, i64_w, i32_w]
    rfl
  refine one_ (i := 16) (N := (some 20)) (bb 38 4194303) rfl rfl (one_of HT_.out (by kernel_rfl)) (by decide) (fun K hK => ?_)
  refine goes_ Try.func29 (by kernel_rfl) rfl #[.pointer (some ⟨g, 0, none⟩)] (by rfl) rfl rfl (by (try simp only [List.map_toArray, List.map_cons, List.map_nil]); first | done | rfl) ?_
  with_reducible refine (Sep.sectors HS2.out.up1).mono ?_
  rintro e w3 ⟨rfl, hw⟩
  obtain rfl : w2 = w3 := hw.symm
  clear hw
  refine ⟨_, rfl, ?_⟩
  refine hK.out _ _ (hHeld) (fun hHeld => ?_)
  clear hK K
  refine norm_ (a' := ?_) ?_ ?_
  rotate_left
  · show Act.put _ (some 20) _ = _
    simp only [Act.put, List.setIfInBounds_toArray, List.set_cons_zero, List.set_cons_succ, i64_w, i32_w]
    rfl
  refine pure_ (i := 22) (N := (some 26)) (v := ?_) (a' := ?_) (bb 38 8388607) rfl rfl (any_of HT_.out (by kernel_rfl)) (fun _ _ _ h => h) (Or.inl ⟨by rfl, ?_⟩) ?_ ?_
  rotate_left
  · intro w'
    go_simp
    with_reducible rfl
  rotate_left
  · simp only [Act.put, List.setIfInBounds_toArray, List.set_cons_zero, List.set_cons_succ, i64_w, i32_w]
    rfl
  refine pure_ (i := 23) (N := (some 27)) (v := ?_) (a' := ?_) (bb 38 16777215) rfl rfl (any_of HT_.out (by kernel_rfl)) (fun _ _ _ h => h) (Or.inl ⟨by rfl, ?_⟩) ?_ ?_
  rotate_left
  · intro w'
    go_simp
    with_reducible rfl
  rotate_left
  · simp only [Act.put, List.setIfInBounds_toArray, List.set_cons_zero, List.set_cons_succ, i64_w, i32_w]
    rfl
  refine pure_ (i := 24) (N := (some 28)) (v := ?_) (a' := ?_) (bb 38 33554431) rfl rfl (any_of HT_.out (by kernel_rfl)) (fun _ _ _ h => h) (Or.inl ⟨by rfl, ?_⟩) ?_ ?_
  rotate_left
  · intro w'
    go_simp
    with_reducible rfl
  rotate_left
  · simp only [Act.put, List.setIfInBounds_toArray, List.set_cons_zero, List.set_cons_succ, i64_w, i32_w]
    rfl
  refine pure_ (i := 25) (N := (some 29)) (v := ?_) (a' := ?_) (bb 38 67108863) rfl rfl (any_of HT_.out (by kernel_rfl)) (fun _ _ _ h => h) (Or.inl ⟨by rfl, ?_⟩) ?_ ?_
  rotate_left
  · intro w'
    go_simp
    with_reducible rfl
  rotate_left
  · simp only [Act.put, List.setIfInBounds_toArray, List.set_cons_zero, List.set_cons_succ, i64_w, i32_w]
    rfl
  refine pure_ (i := 26) (N := (some 30)) (v := ?_) (a' := ?_) (bb 38 134217727) rfl rfl (any_of HT_.out (by kernel_rfl)) (fun _ _ _ h => h) (Or.inl ⟨by rfl, ?_⟩) ?_ ?_
  rotate_left
  · intro w'
    go_simp
    with_reducible rfl
  rotate_left
  · simp only [Act.put, List.setIfInBounds_toArray, List.set_cons_zero, List.set_cons_succ, i64_w, i32_w]
    rfl
  refine pure_ (i := 27) (N := (some 31)) (v := ?_) (a' := ?_) (bb 38 268435455) rfl rfl (any_of HT_.out (by kernel_rfl)) (fun _ _ _ h => h) (Or.inl ⟨by rfl, ?_⟩) ?_ ?_
  rotate_left
  · intro w'
    go_simp
    with_reducible rfl
  rotate_left
  · simp only [Act.put, List.setIfInBounds_toArray, List.set_cons_zero, List.set_cons_succ, i64_w, i32_w]
    rfl
  refine take_ (i := 28) (N := (some 32)) (v := ?_) (a' := ?_) (bb 38 536870911) rfl rfl (take_ofW HT_.out HW_.out (by kernel_rfl)) (fun _ _ _ h => h) (Or.inl ⟨by rfl, ?_⟩) hHeld ?_ ?_
  rotate_left
  · intro w' s0
    (try dsimp only at s0)
    go_simp
    with_reducible rfl
  rotate_left
  · simp only [Act.put, List.setIfInBounds_toArray, List.set_cons_zero, List.set_cons_succ, i64_w, i32_w]
    rfl
  refine pure_ (i := 30) (N := (some 34)) (v := ?_) (a' := ?_) (bb 38 1610612735) rfl rfl (any_of HT_.out (by kernel_rfl)) (fun _ _ _ h => h) (Or.inl ⟨by rfl, ?_⟩) ?_ ?_
  rotate_left
  · intro w'
    go_simp
    with_reducible rfl
  rotate_left
  · simp only [Act.put, List.setIfInBounds_toArray, List.set_cons_zero, List.set_cons_succ, i64_w, i32_w]
    rfl
  refine pure_ (i := 31) (N := (some 35)) (v := ?_) (a' := ?_) (bb 38 3758096383) rfl rfl (any_of HT_.out (by kernel_rfl)) (fun _ _ _ h => h) (Or.inl ⟨by rfl, ?_⟩) ?_ ?_
  rotate_left
  · intro w'
    go_simp
    with_reducible rfl
  rotate_left
  · simp only [Act.put, List.setIfInBounds_toArray, List.set_cons_zero, List.set_cons_succ, i64_w, i32_w]
    rfl
  refine pure_ (i := 32) (N := (some 36)) (v := ?_) (a' := ?_) (bb 38 8053063679) rfl rfl (any_of HT_.out (by kernel_rfl)) (fun _ _ _ h => h) (Or.inl ⟨by rfl, ?_⟩) ?_ ?_
  rotate_left
  · intro w'
    go_simp
    with_reducible rfl
  rotate_left
  · simp only [Act.put, List.setIfInBounds_toArray, List.set_cons_zero, List.set_cons_succ, i64_w, i32_w]
    rfl
  refine take_ (i := 33) (N := (some 37)) (v := ?_) (a' := ?_) (bb 38 16642998271) rfl rfl (take_ofW HT_.out HW_.out (by kernel_rfl)) (fun _ _ _ h => h) (Or.inl ⟨by rfl, ?_⟩) hHeld ?_ ?_
  rotate_left
  · intro w' s0
    (try dsimp only at s0)
    go_simp
    with_reducible rfl
  rotate_left
  · simp only [Act.put, List.setIfInBounds_toArray, List.set_cons_zero, List.set_cons_succ, i64_w, i32_w]
    rfl
  refine one_ (i := 29) (N := (some 33)) (bb 38 17179869183) rfl rfl (one_of HT_.out (by kernel_rfl)) (by decide) (fun K hK => ?_)
  refine goes_ Try.func26 (by kernel_rfl) rfl #[.pointer (some ⟨g, 0, none⟩)] (by rfl) rfl rfl (by (try simp only [List.map_toArray, List.map_cons, List.map_nil]); first | done | rfl) ?_
  with_reducible refine (Sep.image HS2.out.up1).mono ?_
  rintro e w3 ⟨go, c, rfl, h⟩
  have HS3 := Aside0.mk h
  clear h
  refine ⟨_, rfl, ?_⟩
  refine hK.out _ _ (pr_held0 HS3.out.up2) (fun hHeld => ?_)
  clear hK K
  refine norm_ (a' := ?_) ?_ ?_
  rotate_left
  · show Act.put _ (some 33) _ = _
    simp only [Act.put, List.setIfInBounds_toArray, List.set_cons_zero, List.set_cons_succ, i64_w, i32_w]
    rfl
  refine one_ (i := 34) (N := (some 38)) (bb 38 34359738367) rfl rfl (one_of HT_.out (by kernel_rfl)) (by decide) (fun K hK => ?_)
  refine goes_ Try.func54 (by kernel_rfl) rfl #[.agg #[.int .i64 (s.n : Int), .slice A1 l1.length c1, .slice A2 l2.length c2, .int .i64 s.r, .int .i64 s.wr, .int .i64 s.fl]] (by rfl) rfl rfl (by (try simp only [List.map_toArray, List.map_cons, List.map_nil]); first | done | rfl) ?_
  with_reducible refine (rImage_calls A1 c1 l1 A2 l2.length c2 s.n s.r s.wr s.fl w3 HS3.out.up3.ref_C.1 HS3.out.up3.ref_C.2.1 HN.out.1 HN.out.2 HL1.out HG.out).mono ?_
  rintro e w4 ⟨go2, c5, rfl, h⟩
  have HS4 := Aside0.mk (HS3.out.nest h)
  clear h
  rw [HIM.out] at HS4
  refine ⟨_, rfl, ?_⟩
  refine hK.out _ _ (pr_held0 HS4.out.up3) (fun hHeld => ?_)
  clear hK K
  refine norm_ (a' := ?_) ?_ ?_
  rotate_left
  · show Act.put _ (some 38) _ = _
    simp only [Act.put, List.setIfInBounds_toArray, List.set_cons_zero, List.set_cons_succ, i64_w, i32_w]
    rfl
  refine last_ (i := 35) (N := (some 39)) (bb 38 68719476735) rfl rfl (one_of HT_.out (by kernel_rfl)) (by decide) (fun K hK => ?_)
  refine goes_ Try.func36 (by kernel_rfl) rfl #[.slice (some ⟨go, 0, none⟩) s.n c, .slice (some ⟨go2, 0, none⟩) s.n c5] (by rfl) rfl rfl (by (try simp only [List.map_toArray, List.map_cons, List.map_nil]); first | done | rfl) ?_
  with_reducible refine (same_calls (HS4.out.up1.rows_own) HS4.out s.L.length (same_ok _ HLL.out)).mono ?_
  rintro e w5 ⟨rfl, hd⟩
  have HB5 := Aside0.mk hd
  clear hd
  refine ⟨_, rfl, ?_⟩
  refine hK.out _ _ ?_
  clear hK K
  refine norm_ (a' := ?_) ?_ ?_
  rotate_left
  · show Act.put _ (some 39) _ = _
    simp only [Act.put, List.setIfInBounds_toArray, List.set_cons_zero, List.set_cons_succ, i64_w, i32_w]
    rfl
  refine pure_ (i := 36) (N := (some 40)) (v := ?_) (a' := ?_) (bb 38 137438953471) rfl rfl (any_of HT_.out (by kernel_rfl)) (fun _ _ _ h => h) (Or.inl ⟨by rfl, ?_⟩) ?_ ?_
  rotate_left
  · intro w'
    go_simp
    with_reducible rfl
  rotate_left
  · simp only [Act.put, List.setIfInBounds_toArray, List.set_cons_zero, List.set_cons_succ, i64_w, i32_w]
    rfl
  refine pure_ (i := 37) (N := (some 41)) (v := ?_) (a' := ?_) (bb 38 274877906943) rfl rfl (any_of HT_.out (by kernel_rfl)) (fun _ _ _ h => h) (Or.inl ⟨by rfl, ?_⟩) ?_ ?_
  rotate_left
  · intro w'
    go_simp
    with_reducible rfl
  rotate_left
  · simp only [Act.put, List.setIfInBounds_toArray, List.set_cons_zero, List.set_cons_succ, i64_w, i32_w]
    rfl
  refine done_ (done_of HT_.out (by kernel_rfl)) ?_
  have HP0 := Aside0.mk (HK.out _ ((HS4.out.step (show Below w4.heap.size w4 w5 from by obtain ⟨nd, rfl⟩ := HB5.out; exact pw_below_drewN (Below.refl _ _) nd)).drop.drop.up1))
  clear HS0 HS1 HS2 HS3 HS4 HB5 HIM HL1 HLL HG HK hrr hqq hff hnn
  go_wp2
  go_loopg [3] s.n (fun kq v3 wr => ∃ (i : Nat) (s' : DS), v3 = .int .i64 i ∧ Aside0 (i + kq = s.n) ∧ Aside0 (s'.n = s.n) ∧ Aside0 (PrS w0 wr gp L s' B))
  case atStart => exact ⟨0, s, rfl, ⟨Nat.zero_add _⟩, ⟨rfl⟩, HP0⟩
  case round =>
    obtain ⟨i, s', rfl, HJ, HSN, HP⟩ := hrel
    obtain ⟨g', A1', c1', A2', c2', l1', l2', hS, hrest⟩ := HP.out
    have hp1 : wr.cell? ⟨gp, 1, none⟩ = some (.int .i64 (s'.n : Int)) := blk_cell hS.cells.1 1
    rw [HSN.out] at hp1
    by_cases hj : i < s.n
    · have HRD := Aside0.mk (does_rd gp s' B wr HP.out HB2.out i (by rw [HSN.out]; exact hj) 0 0 (.slice none 0 0) (.slice none 0 0))
      have hjb : decide (i < s.n) = true := decide_eq_true hj
      have HJ2 := Aside0.mk hj
      clear hS hrest hj
      go_wp2_with (go_at_call 38; (with_reducible refine HRD.out.mono ?_); rintro e w8 ⟨rfl, h⟩; have HP8 := Aside0.mk h; clear h)
      go_roundg (gk - 1)
      case measure => have := HJ.out; have := HJ2.out; omega
      case rel => exact ⟨i + 1, s'.reads, (by have hi_ := HJ2.out; have hl_ := HN.out; first | rfl | (simp; done) | (rw [show wrap64 ((i : Int) + 1) = (i : Int) + 1 from by unfold wrap64; omega]; rfl)), ⟨by have := HJ.out; have := HJ2.out; omega⟩, ⟨HSN.out⟩, HP8⟩
    · have hjb : decide (i < s.n) = false := decide_eq_false hj
      have HS6 := Aside0.mk (hS.step (below_drew1 (Below.refl wr.heap.size wr)))
      have HK := Aside0.mk (show ∀ W, Sep w0 W (cellsT gp (prC g' s' (.slice A1' l1'.length c1') (.slice A2' l2'.length c2')) 78 :: dkT g' s' :: refT (.slice A1' l1'.length c1') (.slice A2' l2'.length c2') l1' l2' :: L) → PrS w0 W gp L s' B from fun W h => ⟨g', A1', c1', A2', c2', l1', l2', h, hrest⟩)
      have hrr : (s'.r == s'.r) = true := beq_iff_eq.mpr rfl
      have hqq : (s'.wr == s'.wr) = true := beq_iff_eq.mpr rfl
      have hff : (s'.fl == s'.fl) = true := beq_iff_eq.mpr rfl
      clear hS hrest HP HP0 HB2 hj
      go_upto_region 8 with (fail)
      refine start_ (n := 12) (S := fun W => W.cell? ⟨gp, 0, none⟩ = some (.pointer (some ⟨g', 0, none⟩)) ∧ W.cell? ⟨gp, 4, none⟩ = some (.int .i64 s'.r) ∧ W.cell? ⟨gp, 5, none⟩ = some (.int .i64 s'.wr) ∧ W.cell? ⟨gp, 6, none⟩ = some (.int .i64 s'.fl)) (ds := [11]) (bb 12 0) (by kernel_rfl) rfl rfl ((let h := pr_held0 HS6.out; ⟨h.1, h.2.2.2.2.1, h.2.2.2.2.2.1, h.2.2.2.2.2.2⟩)) (fun hHeld => ?_); refine with_tabW told8_tab told8_bits (fun HT_ HW_ => ?_)
      generalize wr.drew = wd8 at hHeld HS6 ⊢
      refine pure_ (i := 0) (N := (some 56)) (v := ?_) (a' := ?_) (bb 12 1) rfl rfl (any_of HT_.out (by kernel_rfl)) (fun _ _ _ h => h) (Or.inl ⟨by rfl, ?_⟩) ?_ ?_
      rotate_left
      · intro w'
        go_simp
        with_reducible rfl
      rotate_left
      · simp only [Act.put, List.setIfInBounds_toArray, List.set_cons_zero, List.set_cons_succ, i64_w, i32_w]
        rfl
      refine pure_ (i := 1) (N := (some 57)) (v := ?_) (a' := ?_) (bb 12 3) rfl rfl (any_of HT_.out (by kernel_rfl)) (fun _ _ _ h => h) (Or.inl ⟨by rfl, ?_⟩) ?_ ?_
      rotate_left
      · intro w'
        go_simp
        with_reducible rfl
      rotate_left
      · simp only [Act.put, List.setIfInBounds_toArray, List.set_cons_zero, List.set_cons_succ, i64_w, i32_w]
        rfl
      refine pure_ (i := 2) (N := (some 58)) (v := ?_) (a' := ?_) (bb 12 7) rfl rfl (any_of HT_.out (by kernel_rfl)) (fun _ _ _ h => h) (Or.inl ⟨by rfl, ?_⟩) ?_ ?_
      rotate_left
      · intro w'
        go_simp
        with_reducible rfl
      rotate_left
      · simp only [Act.put, List.setIfInBounds_toArray, List.set_cons_zero, List.set_cons_succ, i64_w, i32_w]
        rfl
      refine take_ (i := 3) (N := (some 59)) (v := ?_) (a' := ?_) (bb 12 15) rfl rfl (take_ofW HT_.out HW_.out (by kernel_rfl)) (fun _ _ _ h => h) (Or.inl ⟨by rfl, ?_⟩) hHeld ?_ ?_
      rotate_left
      · intro w' s0
        (try dsimp only at s0)
        go_simp
        with_reducible rfl
      rotate_left
      · simp only [Act.put, List.setIfInBounds_toArray, List.set_cons_zero, List.set_cons_succ, i64_w, i32_w]
        rfl
      refine pure_ (i := 5) (N := (some 61)) (v := ?_) (a' := ?_) (bb 12 47) rfl rfl (any_of HT_.out (by kernel_rfl)) (fun _ _ _ h => h) (Or.inl ⟨by rfl, ?_⟩) ?_ ?_
      rotate_left
      · intro w'
        go_simp
        with_reducible rfl
      rotate_left
      · simp only [Act.put, List.setIfInBounds_toArray, List.set_cons_zero, List.set_cons_succ, i64_w, i32_w]
        rfl
      refine pure_ (i := 6) (N := (some 62)) (v := ?_) (a' := ?_) (bb 12 111) rfl rfl (any_of HT_.out (by kernel_rfl)) (fun _ _ _ h => h) (Or.inl ⟨by rfl, ?_⟩) ?_ ?_
      rotate_left
      · intro w'
        go_simp
        with_reducible rfl
      rotate_left
      · simp only [Act.put, List.setIfInBounds_toArray, List.set_cons_zero, List.set_cons_succ, i64_w, i32_w]
        rfl
      refine pure_ (i := 7) (N := (some 63)) (v := ?_) (a' := ?_) (bb 12 239) rfl rfl (any_of HT_.out (by kernel_rfl)) (fun _ _ _ h => h) (Or.inl ⟨by rfl, ?_⟩) ?_ ?_
      rotate_left
      · intro w'
        go_simp
        with_reducible rfl
      rotate_left
      · simp only [Act.put, List.setIfInBounds_toArray, List.set_cons_zero, List.set_cons_succ, i64_w, i32_w]
        rfl
      refine pure_ (i := 8) (N := (some 64)) (v := ?_) (a' := ?_) (bb 12 495) rfl rfl (any_of HT_.out (by kernel_rfl)) (fun _ _ _ h => h) (Or.inl ⟨by rfl, ?_⟩) ?_ ?_
      rotate_left
      · intro w'
        go_simp
        with_reducible rfl
      rotate_left
      · simp only [Act.put, List.setIfInBounds_toArray, List.set_cons_zero, List.set_cons_succ, i64_w, i32_w]
        rfl
      refine take_ (i := 9) (N := (some 65)) (v := ?_) (a' := ?_) (bb 12 1007) rfl rfl (take_ofW HT_.out HW_.out (by kernel_rfl)) (fun _ _ _ h => h) (Or.inl ⟨by rfl, ?_⟩) hHeld ?_ ?_
      rotate_left
      · intro w' s0
        (try dsimp only at s0)
        go_simp
        with_reducible rfl
      rotate_left
      · simp only [Act.put, List.setIfInBounds_toArray, List.set_cons_zero, List.set_cons_succ, i64_w, i32_w]
        rfl
      refine one_ (i := 4) (N := (some 60)) (bb 12 1023) rfl rfl (one_of HT_.out (by kernel_rfl)) (by decide) (fun K hK => ?_)
      refine goes_ Try.func35 (by kernel_rfl) rfl #[.pointer (some ⟨g', 0, none⟩)] (by rfl) rfl rfl (by (try simp only [List.map_toArray, List.map_cons, List.map_nil]); first | done | rfl) ?_
      with_reducible refine (Sep.acts HS6.out.up1).mono ?_
      rintro e w7 ⟨rfl, h⟩
      have HS7 := Aside0.mk h
      clear h
      refine ⟨_, rfl, ?_⟩
      refine hK.out _ _ ((let h := pr_held0 HS7.out.up1; ⟨h.1, h.2.2.2.2.1, h.2.2.2.2.2.1, h.2.2.2.2.2.2⟩)) (fun hHeld => ?_)
      clear hK K
      refine norm_ (a' := ?_) ?_ ?_
      rotate_left
      · show Act.put _ (some 60) _ = _
        simp only [Act.put, List.setIfInBounds_toArray, List.set_cons_zero, List.set_cons_succ, i64_w, i32_w]
        rfl
      refine pure_ (i := 10) (N := (some 66)) (v := ?_) (a' := ?_) (bb 12 2047) rfl rfl (any_of HT_.out (by kernel_rfl)) (fun _ _ _ h => h) (Or.inl ⟨by rfl, ?_⟩) ?_ ?_
      rotate_left
      · intro w'
        go_simp
        with_reducible rfl
      rotate_left
      · simp only [Act.put, List.setIfInBounds_toArray, List.set_cons_zero, List.set_cons_succ, i64_w, i32_w]
        rfl
      refine pure_ (i := 11) (N := (some 2)) (v := ?_) (a' := ?_) (bb 12 4095) rfl rfl (any_of HT_.out (by kernel_rfl)) (fun _ _ _ h => h) (Or.inl ⟨by rfl, ?_⟩) ?_ ?_
      rotate_left
      · intro w'
        go_simp
        with_reducible rfl
      rotate_left
      · simp only [Act.put, List.setIfInBounds_toArray, List.set_cons_zero, List.set_cons_succ, i64_w, i32_w]
        rfl
      refine done_ (done_of HT_.out (by kernel_rfl)) ?_
      go_wp2
      go_ret
      exact ⟨by simp, s', HK.out _ HS7.out.up1⟩
end Go.Proofs.Ytddnhcnkjcdfgaa.M

namespace Go.Proofs.Ytddnhcnkjcdfgaa.BulkW
open Go.ChangeShapes Go.WideShapes Go.Proofs.YtddnhcnkjcdfgaaW.PrintWords
set_option linter.unusedVariables false
section
variable {H : Type} (enc : TypeId × Value → H) (P : Program) (W : World) (base : Nat) (spare : Nat → Bool) (held : Bool)
def Opens {α : Type} (t : TypeId) (d : Kd α) (Ok : α → Prop) : Prop :=
  ∀ (fuel : Nat) (cs : List Value) (x : DataW H × List MemPlace), DataW.trod enc P W base spare held fuel t cs = some x → (∀ n ∈ x.1.weights P t, n ≤ reachBytes) → ∃ y, d.K W y cs ∧ Ok y
variable {enc P W base spare held}
theorem opens_int {t : TypeId} {k : IntKind} (ht : P.underlying t = some (.int k)) : Opens enc P W base spare held t (Kd.int k) (fun y => (Lit.int k y).wf = true) := by
  intro fuel cs x h _
  obtain ⟨n, rfl, rfl, hw⟩ := DataW.trod_int ht h
  exact ⟨n, rfl, hw⟩
theorem cells_of {a : Addr} {n : Nat} {cs : List Value} (h : W.cells? base a n = some cs) : cs.length = n ∧ ∀ i u, cs[i]? = some u → W.cell? (a.add i) = some u := by
  obtain ⟨_, hl, hc⟩ := World.cells?_some h
  refine ⟨hl, fun i u hu => ?_⟩
  have hi : i < cs.length := (List.getElem?_eq_some_iff.1 hu).1
  rw [hc i (by omega), hu]
theorem in_all {P : Program} {e : TypeId} {n : Nat} : ∀ {l : List (DataW H)} {d : DataW H}, d ∈ l → n ∈ d.weights P e → n ∈ DataW.weightsAll P e l
  | x :: r, d, hd, hn => by
    unfold DataW.weightsAll
    rcases List.mem_cons.1 hd with rfl | hd
    · exact List.mem_append_left _ hn
    · exact List.mem_append_right _ (in_all hd hn)
theorem opens_slice {α : Type} {t e q : TypeId} {d : Kd α} {Ok : α → Prop} (ht : P.underlying t = some (.slice e)) (hc : P.cellsOf e = d.sz)
    (he : Opens enc P W base spare held e d Ok) :
    Opens enc P W base spare held t (Kd.slice q d) (fun ys => ys.length * P.bytesOf e ≤ reachBytes ∧ ∀ y ∈ ys, Ok y) := by
  intro fuel cs x h hwt
  rcases DataW.trod_slice ht h with ⟨rfl, rfl⟩ | ⟨a, len, cap, elems, rest, n, _, rfl, rfl, hb, hl, hmax, hlen, hel, _, _⟩
  · refine ⟨[], ⟨none, 0, rfl, Nat.le_refl _, rfl, Nat.zero_le _, fun h => absurd h (Nat.lt_irrefl _)⟩, by simp, fun y hy => by cases hy⟩
  · have hw1 : ∀ n ∈ ((elems.map (·.1)).length + (rest.map (·.1)).length) * P.bytesOf e :: (DataW.weightsAll P e (elems.map (·.1)) ++ DataW.weightsAll P e (rest.map (·.1))), n ≤ reachBytes := by
      have h1 := hwt
      dsimp only at h1
      unfold DataW.weights at h1
      rw [ht] at h1
      exact h1
    have each : ∀ i (hi : i < elems.length), ∃ y, (∃ c, c.length = d.sz ∧ d.K W y c ∧ ∀ j u, c[j]? = some u → W.cell? (a.add (i * d.sz + j)) = some u) ∧ Ok y := by
      intro i hi
      have h1 := hel i (by omega)
      rw [List.getElem?_eq_getElem hi, Option.bind_eq_some_iff] at h1
      obtain ⟨c, h2, h3⟩ := h1
      obtain ⟨y, hk, hok⟩ := he _ _ _ h3 (fun n hn => hw1 n (List.mem_cons_of_mem _ (List.mem_append_left _ (in_all (List.mem_map.2 ⟨elems[i], List.getElem_mem hi, rfl⟩) hn))))
      obtain ⟨hcl, hcell⟩ := cells_of h2
      rw [hc] at hcl hcell
      refine ⟨y, ⟨c, hcl, hk, fun j u hu => ?_⟩, hok⟩
      have := hcell j u hu
      rwa [Addr.add_add] at this
    have all : ∀ m, m ≤ elems.length → ∃ ys : List α, ys.length = m ∧ ∀ i y, ys[i]? = some y → (∃ c, c.length = d.sz ∧ d.K W y c ∧ ∀ j u, c[j]? = some u → W.cell? (a.add (i * d.sz + j)) = some u) ∧ Ok y := by
      intro m
      induction m with
      | zero => intro _; exact ⟨[], rfl, fun i y hy => by simp at hy⟩
      | succ m ih =>
        intro hm1
        obtain ⟨ys, hys, hall⟩ := ih (by omega)
        obtain ⟨y, hy, hoky⟩ := each m (by omega)
        refine ⟨ys ++ [y], by simp [hys], fun i z hz => ?_⟩
        by_cases hi : i < m
        · rw [List.getElem?_append_left (by omega)] at hz
          exact hall i z hz
        · have hi2 : i < (ys ++ [y]).length := (List.getElem?_eq_some_iff.1 hz).1
          simp [hys] at hi2
          obtain rfl : i = m := by omega
          rw [List.getElem?_append_right (by omega), hys] at hz
          simp at hz
          subst hz
          exact ⟨hy, hoky⟩
    obtain ⟨ys, hys, hall⟩ := all elems.length (Nat.le_refl _)
    refine ⟨ys, ⟨some a, cap, by rw [hys, hlen], by omega, rfl, ?_, fun _ => ⟨a, rfl, fun j p hp => (hall j p hp).1⟩⟩, ?_, fun y hy => ?_⟩
    · rw [hys, hlen]
      have : (maxLen : Nat) ≤ 9223372036854775807 := by decide
      omega
    · have h1 := hw1 _ List.mem_cons_self
      rw [List.length_map, List.length_map] at h1
      rw [hys]
      exact Nat.le_trans (Nat.mul_le_mul_right _ (Nat.le_add_right _ _)) h1
    · obtain ⟨i, hi⟩ := List.getElem?_of_mem hy
      exact (hall i y hi).2
theorem arg_full {α : Type} {t q : TypeId} {d : Kd α} {Ok : List α → Prop} {a : Option Addr} {len cap : Nat} {dd : DataW H} {ps : List MemPlace}
    (hs : Opens enc P W base spare held t (Kd.slice q d) Ok) (h : DataW.Trod enc P W base spare held t (.slice a len cap) dd ps) (hw : ∀ n ∈ dd.weights P t, n ≤ reachBytes) : ∃ l, len = l.length ∧ l.length ≤ cap ∧ Kd.C d W a l.length l ∧ l.length ≤ 9223372036854775807 ∧ Ok l := by
  obtain ⟨fuel, hf⟩ := h
  obtain ⟨l, ⟨A, c, he, hl, hC⟩, hok⟩ := hs _ _ _ hf hw
  simp [Value.cells] at he
  obtain ⟨rfl, rfl, rfl⟩ := he
  exact ⟨l, rfl, hl, hC, hC.2.1, hok⟩
end
theorem weights_at {H : Type} {P : Program} : ∀ {ts : List TypeId} {ds : List (DataW H)}, (DataW.weightsEach P ts ds).all (· ≤ reachBytes) = true → ∀ (j : Nat) (t : TypeId) (d : DataW H), ts[j]? = some t → ds[j]? = some d → ∀ n ∈ d.weights P t, n ≤ reachBytes
  | t0 :: ts, d0 :: ds, h, j, t, d, ht, hd, n, hn => by
    unfold DataW.weightsEach at h
    rw [List.all_append, Bool.and_eq_true] at h
    cases j with
    | zero =>
      obtain rfl : t0 = t := Option.some.inj ht
      obtain rfl : d0 = d := Option.some.inj hd
      exact of_decide_eq_true (List.all_eq_true.1 h.1 n hn)
    | succ j => exact weights_at h.2 j t d ht hd n hn
  | [], _, _, j, t, d, ht, _, _, _ => by simp at ht
  | _ :: _, [], _, j, t, d, _, hd, _, _ => by simp at hd
end Go.Proofs.Ytddnhcnkjcdfgaa.BulkW

namespace Go.Proofs.Ytddnhcnkjcdfgaa.M
open Go.RowKit Go.Maps Go.Proofs.YtddnhcnkjcdfgaaW.PrintWords Go.Proofs.YtddnhcnkjcdfgaaW.PrintLast Go.Proofs.YtddnhcnkjcdfgaaW.PrintMore
set_option linter.unusedVariables false
set_option linter.unusedSimpArgs false
structure S73 where
  f0 : Int
  f1 : Int
  f2 : Int
  f3 : List Int
  f4 : Int
  f5 : List Int
end Go.Proofs.Ytddnhcnkjcdfgaa.M
namespace Go.Proofs.Ytddnhcnkjcdfgaa.BulkW
open Go.ChangeShapes Go.WideShapes Go.Proofs.YtddnhcnkjcdfgaaW.PrintWords Go.Proofs.Ytddnhcnkjcdfgaa.M
set_option linter.unusedVariables false
section
variable {H : Type} {enc : TypeId × Value → H} {W : World} {base : Nat} {spare : Nat → Bool} {held : Bool}
set_option maxRecDepth 100000 in
theorem opens_28 : Opens enc Try.prog W base spare held 28 (Kd.slice 5 (Kd.int .u8)) (fun ys => ys.length ≤ reachBytes) := fun f cs x h hw => by
  obtain ⟨y, h1, h2, _⟩ := opens_slice (q := 5) (d := Kd.int .u8) Try.underlying28 (by kernel_rfl) (opens_int Try.underlying5) f cs x h hw
  rw [show Try.prog.bytesOf 5 = 1 by kernel_rfl, Nat.mul_one] at h2
  exact ⟨y, h1, h2⟩
theorem arg_37 {a : Option Addr} {len cap : Nat} {dd : DataW H} {ps : List MemPlace}
    (h : DataW.Trod enc Try.prog W base spare held 37 (.slice a len cap) dd ps) (hw : ∀ n ∈ dd.weights Try.prog 37, n ≤ reachBytes) : ∃ l, len = l.length ∧ l.length ≤ cap ∧ Kd.C (Kd.slice 5 (Kd.int .u8)) W a l.length l ∧ l.length ≤ 9223372036854775807 ∧ ∀ y ∈ l, y.length ≤ 140737488351232 := by
  obtain ⟨l, h1, h2, h3, h4, _, h5⟩ := arg_full (q := 28) (opens_slice Try.underlying37 (by kernel_rfl) opens_28) h hw
  exact ⟨l, h1, h2, h3, h4, h5⟩
end
end Go.Proofs.Ytddnhcnkjcdfgaa.BulkW

namespace Go.Proofs.YtddnhcnkjcdfgaaW.PrintLast
open Go.RowKit
section
variable {P : Program} {ops : Array Oper} {Q : Exit → Act → World → Prop} {md : Region.Mode} {S S' : World → Prop} {ds ds' : List Nat}
theorem ready_undone {l : Array Bool} {i : Nat} (h : i ∈ Region.ready md ops l) : i < ops.size ∧ l.getD i true = false := by
  unfold Region.ready at h
  obtain ⟨h1, h2⟩ := List.mem_filter.1 h
  refine ⟨List.mem_range.1 h1, ?_⟩
  simp only [Bool.and_eq_true, Bool.not_eq_true'] at h2
  first | exact h2.1 | simpa using h2.1
theorem swap_any : ∀ (fuel : Nat) (l : Array Bool) (a : Act) (w : World), (∀ i, i < ops.size → l.getD i true = false → i ∈ ds) → wpAnyLast P md ops Q S' ds' fuel l a w → wpAnyLast P md ops Q S ds fuel l a w
  | 0, _, _, _, _, h => h
  | fuel + 1, l, a, w, hc, h => ⟨h.1, fun i hi => wpOp_mono (fun a' w' h' => ⟨fun hn => absurd (hc i (ready_undone hi).1 (ready_undone hi).2) hn, swap_any fuel _ a' w' (fun j hj hd => hc j hj (by
      by_cases e : j = i
      · subst e
        exact (ready_undone hi).2
      · rw [Array.getD_eq_getD_getElem?, Array.getElem?_setIfInBounds] at hd
        rw [Array.getD_eq_getD_getElem?]
        rwa [if_neg (fun h => e h.symm)] at hd)) h'.2⟩) (h.2 i hi)⟩
def leftB (ds : List Nat) (l : Array Bool) : Bool := (List.range l.size).all fun i => l.getD i true || ds.contains i
theorem swap_ {fuel : Nat} {l : Array Bool} {a : Act} {w : World} (S' : World → Prop) (ds' : List Nat) (hl : leftB ds l = true) (h : wpAnyLast P md ops Q S' ds' fuel l a w) : wpAnyLast P md ops Q S ds fuel l a w := by
  refine swap_any fuel l a w (fun i _ hd => ?_) h
  have hi : i < l.size := by
    rcases Nat.lt_or_ge i l.size with h1 | h1
    · exact h1
    · rw [Array.getD_eq_getD_getElem?, Array.getElem?_eq_none h1] at hd
      cases hd
  have h2 := List.all_eq_true.1 hl i (List.mem_range.2 hi)
  rw [hd, Bool.false_or] at h2
  simpa using h2
end
end Go.Proofs.YtddnhcnkjcdfgaaW.PrintLast
namespace Go.Proofs.Ytddnhcnkjcdfgaa.M
open Go.RowKit Go.Maps Go.Proofs.YtddnhcnkjcdfgaaW.PrintWords Go.Proofs.YtddnhcnkjcdfgaaW.PrintLast Go.Proofs.YtddnhcnkjcdfgaaW.PrintMore
open Go.Proofs.Ytddnhcnkjcdfgaa.P hiding S106 k106 rd_T106 at_T106
open Go.Proofs.Ytddnhcnkjcdfgaa.R
theorem PrS.start {w w' : World} {gp g n : Nat} {A1 A2 : Option Addr} {c1 c2 : Nat} (h2 : 2 ≤ n) (hm : n ≤ 65536) (h : Sep w w' (prL gp g (DS.fresh n (List.replicate n zeros)) (.slice A1 0 c1) (.slice A2 0 c2) [] [])) : PrS w w' gp [] (DS.fresh n (List.replicate n zeros)) 65536 :=
  ⟨g, A1, c1, A2, c2, [], [], h, Rl.fresh n, h2, hm, by simp, Nat.zero_le _⟩
end Go.Proofs.Ytddnhcnkjcdfgaa.M

namespace Go.Proofs.Ytddnhcnkjcdfgaa.M
open Go.RowKit Go.Maps Go.Proofs.YtddnhcnkjcdfgaaW.PrintWords Go.Proofs.YtddnhcnkjcdfgaaW.PrintLast Go.Proofs.YtddnhcnkjcdfgaaW.PrintMore
open Go.Proofs.Ytddnhcnkjcdfgaa.P hiding S106 k106 rd_T106 at_T106
open Go.Proofs.Ytddnhcnkjcdfgaa.R
set_option linter.unusedVariables false
set_option linter.unusedSimpArgs false
variable {w0 : World} {L : List Th}
theorem does_rd_any (gp : Nat) (s : DS) (B : Nat) (w : World) (h : PrS w0 w gp L s B) (hB2 : B ≤ 800000) (a : Int) (t fl : Int) (dv fv : Value) :
    Calls Try.prog 38 #[.pointer (some ⟨gp, 0, none⟩), .agg #[.int .i64 0, .int .i64 a, .int .i64 t, dv, .int .i64 fl, fv]] w fun e w' => e = .returned (.bool true) ∧ ∃ s', PrS w0 w' gp L s' B := by
  by_cases hi : 0 ≤ a ∧ a < (s.n : Int)
  · obtain ⟨i, rfl⟩ : ∃ i : Nat, a = (i : Int) := ⟨a.toNat, by omega⟩
    refine (does_rd gp s B w h hB2 i (by omega) t fl dv fv).mono ?_
    rintro e w' ⟨he, h1⟩
    exact ⟨he, _, h1⟩
  · obtain ⟨g, A1, c1, A2, c2, l1, l2, hS, hR, hn2, hnm, hlB, hcB⟩ := h
    refine (does_read_no gp g s A1 c1 A2 c2 l1 l2 w hS (by omega) hR a hi t fl _ _).mono ?_
    rintro e w' ⟨he, A1', c1', A2', c2', h1⟩
    exact ⟨he, s, ⟨g, A1', c1', A2', c2', l1, l2, h1, hR, hn2, hnm, by omega, by omega⟩⟩
theorem PrS.below {w : World} {gp : Nat} {s : DS} {B : Nat} (h : PrS w0 w gp L s B) : Below w0.heap.size w0 w := by
  obtain ⟨_, _, _, _, _, _, _, h, _⟩ := h
  exact h.below
theorem load_refused (A : Option Addr) (c : Nat) (imgs : List (List Int)) (w : World) (hC : KB.C w A imgs.length imgs) (hc : imgs.length ≤ c)
    (h : ¬ (2 ≤ imgs.length ∧ imgs.length ≤ 65536 ∧ ∀ i, i < imgs.length → (imgs.getD i []).length = 512)) : ∃ code : Int, code ≠ 0 ∧ (∀ W, Below w.heap.size w W → Calls Try.prog 28 #[.slice A imgs.length c] W fun e w' => e = .returned (.tuple #[.pointer none, .int .i64 code]) ∧ Below W.heap.size W w') ∧
      ∃ k, kilnref3_Load.f k imgs = some (0, [], [], 0, 0, 0, code) := by
  by_cases h1 : 2 ≤ imgs.length ∧ imgs.length ≤ 65536
  · obtain ⟨q, hq⟩ := first_bad imgs (fun h2 => h ⟨h1.1, h1.2, h2⟩)
    exact ⟨32, by decide, fun W hW => load_32 A c imgs W h1.1 h1.2 (Kd.C_below hC hW) q hq, load_ev32 imgs h1.1 h1.2 q hq⟩
  · refine ⟨30, by decide, fun W hW => ?_, 1, load_ev30 imgs (by omega)⟩
    refine (load_30 A imgs.length c W h1).mono ?_
    rintro e w' ⟨he, rfl⟩
    exact ⟨he, Below.refl _ _⟩
def makes2_T : Bool × List (List Nat × List Nat) := (true, [([], []), ([0], [0]), ([1], [1]), ([2], [2]), ([3, 2], [2, 3]), ([4, 2, 2], [2, 4]), ([5], [5]), ([6, 5], [5, 6]), ([7, 5], [5, 7]), ([8, 5], [5, 8]), ([9, 5, 5], [5, 9]), ([5], [5]), ([10, 11, 5], [5, 10, 11]), ([12, 10, 5], [5, 12]), ([13], [13]), ([13], [13]), ([15, 13], [13, 15]), ([14, 16, 13, 13], [13, 14, 16]), ([17, 13], [13, 17]), ([13, 18, 5], [5, 13, 18]), ([19, 17, 5], [5, 19]), ([20], [20]), ([21, 20], [20, 21]), ([22, 20], [20, 22]), ([23, 20], [20, 23]), ([24, 20, 20], [20, 24]), ([20], [20]), ([26, 20], [20, 26]), ([27, 20], [20, 27]), ([28, 20], [20, 28]), ([29, 20], [20, 29]), ([25, 30, 20], [20, 25, 30]), ([20, 31, 5], [5, 20, 31]), ([5, 32, 2], [2, 5, 32]), ([2, 33], [2, 33])])
def makes2_B : List Nat := [0, 1, 3, 7, 15, 31, 63, 127, 255, 511, 1023, 63, 4095, 8191, 16383, 16383, 49151, 131071, 262143, 524287, 1048575, 2097151, 4194303, 8388607, 16777215, 33554431, 2097151, 69206015, 203423743, 471859199, 1008730111, 2147483647, 4294967295, 8589934591, 17179869183]
theorem makes2_tab : rtab .any (opsOf Try.f12 2) = makes2_T := by kernel_rfl
theorem makes2_bits : waitsOk makes2_T.2 makes2_B = true := by kernel_rfl
set_option maxHeartbeats 8000000 in
set_option maxRecDepth 100000 in
theorem makes_calls (a0 : Int) (A1 : Option Addr) (c1 : Nat) (l1 : List (List Int)) (a2 : Int) (w : World) (hC : KB.C w A1 l1.length l1) (hc1 : l1.length ≤ c1) :
    Calls Try.prog 12 #[.int .i64 a0, .slice A1 l1.length c1, .int .i64 a2] w fun e w' => e = .returned (.bool true) ∧ Below w.heap.size w w' := by
  have HC := Aside0.mk hC
  have HC1 := Aside0.mk hc1
  by_cases hn : 2 ≤ a0 ∧ a0 ≤ 65536
  case pos =>
    obtain ⟨n, rfl⟩ : ∃ n : Nat, a0 = (n : Int) := ⟨a0.toNat, by omega⟩
    have HST := Aside0.mk (started_yes n (by omega) (by omega) w)
    have HN := Aside0.mk (show 2 ≤ n ∧ n ≤ 65536 by omega)
    have hnn : ((n : Int) != (n : Int)) = false := by simp
    clear hC hc1 hn
    go_enter Try.func12, Try.ntmps12
    go_upto_region 2 with (go_at_call 37; (with_reducible refine HST.out.mono ?_); rintro e w1 ⟨gp, g, A1', c1', A2', c2', rfl, h⟩; have HS0 := Aside0.mk h; clear h)
    have HS1 := Aside0.mk (HS0.out.step (below_drew1 (Below.refl w1.heap.size w1)))
    have HSC := Aside0.mk (fun W (h : PrS w W gp [] (DS.fresh n (List.replicate n zeros)) 65536 ∧ Sep w W (prL gp g (DS.fresh n (List.replicate n zeros)) (.slice A1' 0 c1') (.slice A2' 0 c2') [] [])) => (show Calls Try.prog 29 #[.pointer (some ⟨g, 0, none⟩)] W (fun e w' => e = .returned (.int .i64 (n : Int)) ∧ w' = W) from Sep.sectors h.2.up1))
    have HP := Aside0.mk (And.intro (PrS.start HN.out.1 HN.out.2 HS1.out) HS1.out)
    have hp0 : w1.drew.cell? ⟨gp, 0, none⟩ = some (.pointer (some ⟨g, 0, none⟩)) := blk_cell HS1.out.cells.1 0
    clear HS0 HS1 HST HN
    refine start_ (n := 35) (S := fun W => W.cell? ⟨gp, 0, none⟩ = some (.pointer (some ⟨g, 0, none⟩))) (ds := [17, 18, 19, 20, 21, 22, 23, 24, 25, 26, 27, 28, 29, 30, 31, 32, 33, 34]) (bb 35 0) (by kernel_rfl) rfl rfl (hp0) (fun hHeld => ?_); refine with_tabW makes2_tab makes2_bits (fun HT_ HW_ => ?_)
    generalize w1.drew = wd at hHeld HP ⊢
    refine pure_ (i := 0) (N := (some 19)) (v := ?_) (a' := ?_) (bb 35 1) rfl rfl (any_of HT_.out (by kernel_rfl)) (fun _ _ _ h => h) (Or.inl ⟨by rfl, ?_⟩) ?_ ?_
    rotate_left
    · intro w'
      go_simp
      with_reducible rfl
    rotate_left
    · simp only [Act.put, List.setIfInBounds_toArray, List.set_cons_zero, List.set_cons_succ, i64_w, i32_w]
      rfl
    refine pure_ (i := 1) (N := (some 20)) (v := ?_) (a' := ?_) (bb 35 3) rfl rfl (any_of HT_.out (by kernel_rfl)) (fun _ _ _ h => h) (Or.inl ⟨by rfl, ?_⟩) ?_ ?_
    rotate_left
    · intro w'
      go_simp
      with_reducible rfl
    rotate_left
    · simp only [Act.put, List.setIfInBounds_toArray, List.set_cons_zero, List.set_cons_succ, i64_w, i32_w]
      rfl
    refine pure_ (i := 2) (N := (some 21)) (v := ?_) (a' := ?_) (bb 35 7) rfl rfl (any_of HT_.out (by kernel_rfl)) (fun _ _ _ h => h) (Or.inl ⟨by rfl, ?_⟩) ?_ ?_
    rotate_left
    · intro w'
      go_simp
      with_reducible rfl
    rotate_left
    · simp only [Act.put, List.setIfInBounds_toArray, List.set_cons_zero, List.set_cons_succ, i64_w, i32_w]
      rfl
    refine pure_ (i := 3) (N := (some 22)) (v := ?_) (a' := ?_) (bb 35 15) rfl rfl (any_of HT_.out (by kernel_rfl)) (fun _ _ _ h => h) (Or.inl ⟨by rfl, ?_⟩) ?_ ?_
    rotate_left
    · intro w'
      go_simp
      with_reducible rfl
    rotate_left
    · simp only [Act.put, List.setIfInBounds_toArray, List.set_cons_zero, List.set_cons_succ, i64_w, i32_w]
      rfl
    refine pure_ (i := 4) (N := (some 23)) (v := ?_) (a' := ?_) (bb 35 31) rfl rfl (any_of HT_.out (by kernel_rfl)) (fun _ _ _ h => h) (Or.inl ⟨by rfl, ?_⟩) ?_ ?_
    rotate_left
    · intro w'
      go_simp
      with_reducible rfl
    rotate_left
    · simp only [Act.put, List.setIfInBounds_toArray, List.set_cons_zero, List.set_cons_succ, i64_w, i32_w]
      rfl
    refine pure_ (i := 5) (N := (some 24)) (v := ?_) (a' := ?_) (bb 35 63) rfl rfl (any_of HT_.out (by kernel_rfl)) (fun _ _ _ h => h) (Or.inl ⟨by rfl, ?_⟩) ?_ ?_
    rotate_left
    · intro w'
      go_simp
      with_reducible rfl
    rotate_left
    · simp only [Act.put, List.setIfInBounds_toArray, List.set_cons_zero, List.set_cons_succ, i64_w, i32_w]
      rfl
    refine pure_ (i := 6) (N := (some 25)) (v := ?_) (a' := ?_) (bb 35 127) rfl rfl (any_of HT_.out (by kernel_rfl)) (fun _ _ _ h => h) (Or.inl ⟨by rfl, ?_⟩) ?_ ?_
    rotate_left
    · intro w'
      go_simp
      with_reducible rfl
    rotate_left
    · simp only [Act.put, List.setIfInBounds_toArray, List.set_cons_zero, List.set_cons_succ, i64_w, i32_w]
      rfl
    refine pure_ (i := 7) (N := (some 26)) (v := ?_) (a' := ?_) (bb 35 255) rfl rfl (any_of HT_.out (by kernel_rfl)) (fun _ _ _ h => h) (Or.inl ⟨by rfl, ?_⟩) ?_ ?_
    rotate_left
    · intro w'
      go_simp
      with_reducible rfl
    rotate_left
    · simp only [Act.put, List.setIfInBounds_toArray, List.set_cons_zero, List.set_cons_succ, i64_w, i32_w]
      rfl
    refine pure_ (i := 8) (N := (some 27)) (v := ?_) (a' := ?_) (bb 35 511) rfl rfl (any_of HT_.out (by kernel_rfl)) (fun _ _ _ h => h) (Or.inl ⟨by rfl, ?_⟩) ?_ ?_
    rotate_left
    · intro w'
      go_simp
      with_reducible rfl
    rotate_left
    · simp only [Act.put, List.setIfInBounds_toArray, List.set_cons_zero, List.set_cons_succ, i64_w, i32_w]
      rfl
    refine take_ (i := 9) (N := (some 28)) (v := ?_) (a' := ?_) (bb 35 1023) rfl rfl (take_ofW HT_.out HW_.out (by kernel_rfl)) (fun _ _ _ h => h) (Or.inl ⟨by rfl, ?_⟩) hHeld ?_ ?_
    rotate_left
    · intro w' s0
      (try dsimp only at s0)
      go_simp
      with_reducible rfl
    rotate_left
    · simp only [Act.put, List.setIfInBounds_toArray, List.set_cons_zero, List.set_cons_succ, i64_w, i32_w]
      rfl
    refine pure_ (i := 11) (N := (some 30)) (v := ?_) (a' := ?_) (bb 35 3071) rfl rfl (any_of HT_.out (by kernel_rfl)) (fun _ _ _ h => h) (Or.inl ⟨by rfl, ?_⟩) ?_ ?_
    rotate_left
    · intro w'
      go_simp
      with_reducible rfl
    rotate_left
    · simp only [Act.put, List.setIfInBounds_toArray, List.set_cons_zero, List.set_cons_succ, i64_w, i32_w]
      rfl
    refine one_ (i := 10) (N := (some 29)) (bb 35 4095) rfl rfl (one_of HT_.out (by kernel_rfl)) (by decide) (fun K hK => ?_)
    refine goes_ Try.func29 (by kernel_rfl) rfl #[.pointer (some ⟨g, 0, none⟩)] (by rfl) rfl rfl (by (try simp only [List.map_toArray, List.map_cons, List.map_nil]); first | done | rfl) ?_
    with_reducible refine (HSC.out _ HP.out).mono ?_
    rintro e w3 ⟨rfl, hw⟩
    obtain rfl : wd = w3 := hw.symm
    clear hw
    refine ⟨_, rfl, ?_⟩
    refine hK.out _ _ (hHeld) (fun hHeld => ?_)
    clear hK K
    refine norm_ (a' := ?_) ?_ ?_
    rotate_left
    · show Act.put _ (some 29) _ = _
      simp only [Act.put, List.setIfInBounds_toArray, List.set_cons_zero, List.set_cons_succ, i64_w, i32_w]
      rfl
    refine pure_ (i := 12) (N := (some 31)) (v := ?_) (a' := ?_) (bb 35 8191) rfl rfl (any_of HT_.out (by kernel_rfl)) (fun _ _ _ h => h) (Or.inl ⟨by rfl, ?_⟩) ?_ ?_
    rotate_left
    · intro w'
      go_simp
      with_reducible rfl
    rotate_left
    · simp only [Act.put, List.setIfInBounds_toArray, List.set_cons_zero, List.set_cons_succ, i64_w, i32_w]
      rfl
    refine pure_ (i := 13) (N := (some 32)) (v := ?_) (a' := ?_) (bb 35 16383) rfl rfl (any_of HT_.out (by kernel_rfl)) (fun _ _ _ h => h) (Or.inl ⟨by rfl, ?_⟩) ?_ ?_
    rotate_left
    · intro w'
      go_simp
      with_reducible rfl
    rotate_left
    · simp only [Act.put, List.setIfInBounds_toArray, List.set_cons_zero, List.set_cons_succ, i64_w, i32_w]
      rfl
    refine pure_ (i := 14) (N := (some 33)) (v := ?_) (a' := ?_) (bb 35 32767) rfl rfl (any_of HT_.out (by kernel_rfl)) (fun _ _ _ h => h) (Or.inl ⟨by rfl, ?_⟩) ?_ ?_
    rotate_left
    · intro w'
      go_simp
      with_reducible rfl
    rotate_left
    · simp only [Act.put, List.setIfInBounds_toArray, List.set_cons_zero, List.set_cons_succ, i64_w, i32_w]
      rfl
    refine pure_ (i := 15) (N := (some 34)) (v := ?_) (a' := ?_) (bb 35 65535) rfl rfl (any_of HT_.out (by kernel_rfl)) (fun _ _ _ h => h) (Or.inl ⟨by rfl, ?_⟩) ?_ ?_
    rotate_left
    · intro w'
      go_simp
      with_reducible rfl
    rotate_left
    · simp only [Act.put, List.setIfInBounds_toArray, List.set_cons_zero, List.set_cons_succ, i64_w, i32_w]
      rfl
    refine pure_ (i := 16) (N := (some 35)) (v := ?_) (a' := ?_) (bb 35 131071) rfl rfl (any_of HT_.out (by kernel_rfl)) (fun _ _ _ h => h) (Or.inl ⟨by rfl, ?_⟩) ?_ ?_
    rotate_left
    · intro w'
      go_simp
      with_reducible rfl
    rotate_left
    · simp only [Act.put, List.setIfInBounds_toArray, List.set_cons_zero, List.set_cons_succ, i64_w, i32_w]
      rfl
    refine last_ (i := 17) (N := (some 36)) (bb 35 262143) rfl rfl (one_of HT_.out (by kernel_rfl)) (by decide) (fun K hK => ?_)
    refine goes_ Try.func38 (by kernel_rfl) rfl #[.pointer (some ⟨gp, 0, none⟩), .agg #[.int .i64 0, .int .i64 a2, .int .i64 0, .slice none 0 0, .int .i64 0, .slice none 0 0]] (by rfl) rfl rfl (by (try simp only [List.map_toArray, List.map_cons, List.map_nil]); first | done | rfl) ?_
    with_reducible refine (does_rd_any gp _ 65536 _ HP.out.1 (by decide) a2 0 0 (.slice none 0 0) (.slice none 0 0)).mono ?_
    rintro e w7 ⟨rfl, s7, h⟩
    have HP7 := Aside0.mk h
    clear h
    refine ⟨_, rfl, ?_⟩
    refine hK.out _ _ ?_
    clear hK K
    refine norm_ (a' := ?_) ?_ ?_
    rotate_left
    · show Act.put _ (some 36) _ = _
      simp only [Act.put, List.setIfInBounds_toArray, List.set_cons_zero, List.set_cons_succ, i64_w, i32_w]
      rfl
    obtain ⟨g7, A17, c17, A27, c27, l17, l27, hS7, hr7⟩ := HP7.out
    have HS7 := Aside0.mk hS7
    clear hS7 hr7 HP7
    have hrr : (s7.r == s7.r) = true := beq_iff_eq.mpr rfl
    have hqq : (s7.wr == s7.wr) = true := beq_iff_eq.mpr rfl
    have hff : (s7.fl == s7.fl) = true := beq_iff_eq.mpr rfl
    refine swap_ (fun W => W.cell? ⟨gp, 0, none⟩ = some (.pointer (some ⟨g7, 0, none⟩)) ∧ W.cell? ⟨gp, 4, none⟩ = some (.int .i64 s7.r) ∧ W.cell? ⟨gp, 5, none⟩ = some (.int .i64 s7.wr) ∧ W.cell? ⟨gp, 6, none⟩ = some (.int .i64 s7.fl)) [34] (by decide) ?_
    have hHeld := (let h := pr_held0 HS7.out; And.intro h.1 (And.intro h.2.2.2.2.1 (And.intro h.2.2.2.2.2.1 h.2.2.2.2.2.2)))
    refine pure_ (i := 18) (N := (some 37)) (v := ?_) (a' := ?_) (bb 35 524287) rfl rfl (any_of HT_.out (by kernel_rfl)) (fun _ _ _ h => h) (Or.inl ⟨by rfl, ?_⟩) ?_ ?_
    rotate_left
    · intro w'
      go_simp
      with_reducible rfl
    rotate_left
    · simp only [Act.put, List.setIfInBounds_toArray, List.set_cons_zero, List.set_cons_succ, i64_w, i32_w]
      rfl
    refine pure_ (i := 19) (N := (some 38)) (v := ?_) (a' := ?_) (bb 35 1048575) rfl rfl (any_of HT_.out (by kernel_rfl)) (fun _ _ _ h => h) (Or.inl ⟨by rfl, ?_⟩) ?_ ?_
    rotate_left
    · intro w'
      go_simp
      with_reducible rfl
    rotate_left
    · simp only [Act.put, List.setIfInBounds_toArray, List.set_cons_zero, List.set_cons_succ, i64_w, i32_w]
      rfl
    refine pure_ (i := 20) (N := (some 39)) (v := ?_) (a' := ?_) (bb 35 2097151) rfl rfl (any_of HT_.out (by kernel_rfl)) (fun _ _ _ h => h) (Or.inl ⟨by rfl, ?_⟩) ?_ ?_
    rotate_left
    · intro w'
      go_simp
      with_reducible rfl
    rotate_left
    · simp only [Act.put, List.setIfInBounds_toArray, List.set_cons_zero, List.set_cons_succ, i64_w, i32_w]
      rfl
    refine pure_ (i := 21) (N := (some 40)) (v := ?_) (a' := ?_) (bb 35 4194303) rfl rfl (any_of HT_.out (by kernel_rfl)) (fun _ _ _ h => h) (Or.inl ⟨by rfl, ?_⟩) ?_ ?_
    rotate_left
    · intro w'
      go_simp
      with_reducible rfl
    rotate_left
    · simp only [Act.put, List.setIfInBounds_toArray, List.set_cons_zero, List.set_cons_succ, i64_w, i32_w]
      rfl
    refine pure_ (i := 22) (N := (some 41)) (v := ?_) (a' := ?_) (bb 35 8388607) rfl rfl (any_of HT_.out (by kernel_rfl)) (fun _ _ _ h => h) (Or.inl ⟨by rfl, ?_⟩) ?_ ?_
    rotate_left
    · intro w'
      go_simp
      with_reducible rfl
    rotate_left
    · simp only [Act.put, List.setIfInBounds_toArray, List.set_cons_zero, List.set_cons_succ, i64_w, i32_w]
      rfl
    refine pure_ (i := 23) (N := (some 42)) (v := ?_) (a' := ?_) (bb 35 16777215) rfl rfl (any_of HT_.out (by kernel_rfl)) (fun _ _ _ h => h) (Or.inl ⟨by rfl, ?_⟩) ?_ ?_
    rotate_left
    · intro w'
      go_simp
      with_reducible rfl
    rotate_left
    · simp only [Act.put, List.setIfInBounds_toArray, List.set_cons_zero, List.set_cons_succ, i64_w, i32_w]
      rfl
    refine take_ (i := 24) (N := (some 43)) (v := ?_) (a' := ?_) (bb 35 33554431) rfl rfl (take_ofW HT_.out HW_.out (by kernel_rfl)) (fun _ _ _ h => h) (Or.inl ⟨by rfl, ?_⟩) hHeld ?_ ?_
    rotate_left
    · intro w' s0
      (try dsimp only at s0)
      go_simp
      with_reducible rfl
    rotate_left
    · simp only [Act.put, List.setIfInBounds_toArray, List.set_cons_zero, List.set_cons_succ, i64_w, i32_w]
      rfl
    refine pure_ (i := 26) (N := (some 45)) (v := ?_) (a' := ?_) (bb 35 100663295) rfl rfl (any_of HT_.out (by kernel_rfl)) (fun _ _ _ h => h) (Or.inl ⟨by rfl, ?_⟩) ?_ ?_
    rotate_left
    · intro w'
      go_simp
      with_reducible rfl
    rotate_left
    · simp only [Act.put, List.setIfInBounds_toArray, List.set_cons_zero, List.set_cons_succ, i64_w, i32_w]
      rfl
    refine pure_ (i := 27) (N := (some 46)) (v := ?_) (a' := ?_) (bb 35 234881023) rfl rfl (any_of HT_.out (by kernel_rfl)) (fun _ _ _ h => h) (Or.inl ⟨by rfl, ?_⟩) ?_ ?_
    rotate_left
    · intro w'
      go_simp
      with_reducible rfl
    rotate_left
    · simp only [Act.put, List.setIfInBounds_toArray, List.set_cons_zero, List.set_cons_succ, i64_w, i32_w]
      rfl
    refine pure_ (i := 28) (N := (some 47)) (v := ?_) (a' := ?_) (bb 35 503316479) rfl rfl (any_of HT_.out (by kernel_rfl)) (fun _ _ _ h => h) (Or.inl ⟨by rfl, ?_⟩) ?_ ?_
    rotate_left
    · intro w'
      go_simp
      with_reducible rfl
    rotate_left
    · simp only [Act.put, List.setIfInBounds_toArray, List.set_cons_zero, List.set_cons_succ, i64_w, i32_w]
      rfl
    refine pure_ (i := 29) (N := (some 48)) (v := ?_) (a' := ?_) (bb 35 1040187391) rfl rfl (any_of HT_.out (by kernel_rfl)) (fun _ _ _ h => h) (Or.inl ⟨by rfl, ?_⟩) ?_ ?_
    rotate_left
    · intro w'
      go_simp
      with_reducible rfl
    rotate_left
    · simp only [Act.put, List.setIfInBounds_toArray, List.set_cons_zero, List.set_cons_succ, i64_w, i32_w]
      rfl
    refine take_ (i := 30) (N := (some 49)) (v := ?_) (a' := ?_) (bb 35 2113929215) rfl rfl (take_ofW HT_.out HW_.out (by kernel_rfl)) (fun _ _ _ h => h) (Or.inl ⟨by rfl, ?_⟩) hHeld ?_ ?_
    rotate_left
    · intro w' s0
      (try dsimp only at s0)
      go_simp
      with_reducible rfl
    rotate_left
    · simp only [Act.put, List.setIfInBounds_toArray, List.set_cons_zero, List.set_cons_succ, i64_w, i32_w]
      rfl
    refine one_ (i := 25) (N := (some 44)) (bb 35 2147483647) rfl rfl (one_of HT_.out (by kernel_rfl)) (by decide) (fun K hK => ?_)
    refine goes_ Try.func35 (by kernel_rfl) rfl #[.pointer (some ⟨g7, 0, none⟩)] (by rfl) rfl rfl (by (try simp only [List.map_toArray, List.map_cons, List.map_nil]); first | done | rfl) ?_
    with_reducible refine (Sep.acts HS7.out.up1).mono ?_
    rintro e wa ⟨rfl, h⟩
    have HS8 := Aside0.mk h.up1
    clear h
    refine ⟨_, rfl, ?_⟩
    refine hK.out _ _ ((let h := pr_held0 HS8.out; ⟨h.1, h.2.2.2.2.1, h.2.2.2.2.2.1, h.2.2.2.2.2.2⟩)) (fun hHeld => ?_)
    clear hK K
    refine norm_ (a' := ?_) ?_ ?_
    rotate_left
    · show Act.put _ (some 44) _ = _
      simp only [Act.put, List.setIfInBounds_toArray, List.set_cons_zero, List.set_cons_succ, i64_w, i32_w]
      rfl
    refine pure_ (i := 31) (N := (some 50)) (v := ?_) (a' := ?_) (bb 35 4294967295) rfl rfl (any_of HT_.out (by kernel_rfl)) (fun _ _ _ h => h) (Or.inl ⟨by rfl, ?_⟩) ?_ ?_
    rotate_left
    · intro w'
      go_simp
      with_reducible rfl
    rotate_left
    · simp only [Act.put, List.setIfInBounds_toArray, List.set_cons_zero, List.set_cons_succ, i64_w, i32_w]
      rfl
    refine pure_ (i := 32) (N := (some 51)) (v := ?_) (a' := ?_) (bb 35 8589934591) rfl rfl (any_of HT_.out (by kernel_rfl)) (fun _ _ _ h => h) (Or.inl ⟨by rfl, ?_⟩) ?_ ?_
    rotate_left
    · intro w'
      go_simp
      with_reducible rfl
    rotate_left
    · simp only [Act.put, List.setIfInBounds_toArray, List.set_cons_zero, List.set_cons_succ, i64_w, i32_w]
      rfl
    refine pure_ (i := 33) (N := (some 52)) (v := ?_) (a' := ?_) (bb 35 17179869183) rfl rfl (any_of HT_.out (by kernel_rfl)) (fun _ _ _ h => h) (Or.inl ⟨by rfl, ?_⟩) ?_ ?_
    rotate_left
    · intro w'
      go_simp
      with_reducible rfl
    rotate_left
    · simp only [Act.put, List.setIfInBounds_toArray, List.set_cons_zero, List.set_cons_succ, i64_w, i32_w]
      rfl
    refine pure_ (i := 34) (N := (some 53)) (v := ?_) (a' := ?_) (bb 35 34359738367) rfl rfl (any_of HT_.out (by kernel_rfl)) (fun _ _ _ h => h) (Or.inl ⟨by rfl, ?_⟩) ?_ ?_
    rotate_left
    · intro w'
      go_simp
      with_reducible rfl
    rotate_left
    · simp only [Act.put, List.setIfInBounds_toArray, List.set_cons_zero, List.set_cons_succ, i64_w, i32_w]
      rfl
    refine done_ (done_of HT_.out (by kernel_rfl)) ?_
    have HBa := Aside0.mk HS8.out.below
    clear hHeld HS7 HS8 hrr hqq hff HSC HP hp0 hnn
    by_cases hg : 2 ≤ l1.length ∧ l1.length ≤ 65536 ∧ ∀ i, i < l1.length → (l1.getD i []).length = 512
    · have HG := Aside0.mk hg
      have HLD := Aside0.mk (fun W (h : Sep w W []) => Sep.load h A1 c1 l1 HG.out.1 HG.out.2.1 (Kd.C_below HC.out h.below) HG.out.2.2)
      obtain ⟨k0, hk0⟩ := load_ev l1 hg.1 hg.2.1 hg.2.2
      have HRL := Aside0.mk (fun W L (h : Sep w W L) => Sep.rLoad h k0 A1 c1 l1 (Kd.C_below HC.out h.below) HC1.out _ _ _ _ _ _ _ hk0)
      clear hk0 hg
      have HSa := Aside0.mk (show Sep w wa [] from ⟨HBa.out, trivial⟩)
      go_upto_region 6 with (first
        | (go_at_call 28; (with_reducible refine (HLD.out _ HSa.out).mono ?_); rintro e wb ⟨gn, rfl, h⟩; have HSb := Aside0.mk h; clear h)
        | (go_at_call 40; (with_reducible refine (HRL.out _ _ HSb.out).mono ?_); rintro e wc ⟨A1', c1', A2', c2', rfl, h⟩; have HSc := Aside0.mk h; clear h))
      have HSd := Aside0.mk (HSc.out.push_alloc #[.int .i64 (l1.length : Int), .slice A1' (ldR l1 l1.length).length c1', .slice A2' 0 c2', .int .i64 0, .int .i64 0, .int .i64 0] 76)
      generalize wc.alloc (.cells #[.int .i64 (l1.length : Int), .slice A1' (ldR l1 l1.length).length c1', .slice A2' 0 c2', .int .i64 0, .int .i64 0, .int .i64 0] 76) = we at HSd ⊢
      generalize wc.heap.size = gd at HSd ⊢
      have hd := blk_cell HSd.out.cells.1
      have hd0 : we.cell? ⟨gd, 0, none⟩ = some (.int .i64 (l1.length : Int)) := hd 0
      have hd1 : we.cell? ⟨gd, 1, none⟩ = some (.slice A1' (ldR l1 l1.length).length c1') := hd 1
      have hd2 : we.cell? ⟨gd, 2, none⟩ = some (.slice A2' 0 c2') := hd 2
      have hd3 : we.cell? ⟨gd, 3, none⟩ = some (.int .i64 0) := hd 3
      have hd4 : we.cell? ⟨gd, 4, none⟩ = some (.int .i64 0) := hd 4
      have hd5 : we.cell? ⟨gd, 5, none⟩ = some (.int .i64 0) := hd 5
      clear hd HLD HRL HSa HSb HSc
      go_upto_region 11 with (fail)
      clear hd0 hd1 hd2 hd3 hd4 hd5
      have HSf := Aside0.mk (HSd.out.push_alloc (prC gn (DS.fresh l1.length l1) (.slice A1' (ldR l1 l1.length).length c1') (.slice A2' 0 c2')) 78)
      have HPf := Aside0.mk (show PrS w (we.alloc (.cells #[.pointer (some ⟨gn, 0, none⟩), .int .i64 (l1.length : Int), .slice A1' (ldR l1 l1.length).length c1', .slice A2' 0 c2', .int .i64 0, .int .i64 0, .int .i64 0] 78)) we.heap.size [cellsT gd #[.int .i64 (l1.length : Int), .slice A1' (ldR l1 l1.length).length c1', .slice A2' 0 c2', .int .i64 0, .int .i64 0, .int .i64 0] 76] (DS.fresh l1.length l1) 65536 from ⟨gn, A1', c1', A2', c2', ldR l1 l1.length, [], HSf.out.sel 4 [0, 3, 2, 1] _ rfl (by decide) rfl, Rl.load l1 HG.out.2.2, HG.out.1, HG.out.2.1, by rw [ldR_len]; have := HG.out.2.1; simp only [List.length_nil]; omega, Nat.zero_le _⟩)
      clear HSd HSf
      go_wp2_with (go_at_call 39; (with_reducible refine (told_calls _ _ _ _ HPf.out (by decide)).mono ?_); rintro e wg ⟨rfl, s9, h⟩; have HPg := Aside0.mk h.below; clear h)
      go_ret
      exact ⟨rfl, HPg.out⟩
    · obtain ⟨code, hcode, hld, k0, hk0⟩ := load_refused A1 c1 l1 w HC.out HC1.out hg
      have HLD := Aside0.mk hld
      have HRL := Aside0.mk (fun W L (h : Sep w W L) => Sep.rLoad h k0 A1 c1 l1 (Kd.C_below HC.out h.below) HC1.out _ _ _ _ _ _ _ hk0)
      have hcc : (code != code) = false := by simp
      have hc0 : (code != 0) = true := by simpa using hcode
      clear hk0 hg hld hcode
      go_upto_region 6 with (first
        | (go_at_call 28; (with_reducible refine (HLD.out _ HBa.out).mono ?_); rintro e wb ⟨rfl, h⟩; have HSb := Aside0.mk (show Sep w wb [] from ⟨below_step HBa.out h, trivial⟩); clear h)
        | (go_at_call 40; (with_reducible refine (HRL.out _ _ HSb.out).mono ?_); rintro e wc ⟨A1', c1', A2', c2', rfl, h⟩; have HSc := Aside0.mk h; clear h))
      have HBd := Aside0.mk (below_alloc HSc.out.below (.cells #[.int .i64 0, .slice A1' 0 c1', .slice A2' 0 c2', .int .i64 0, .int .i64 0, .int .i64 0] 76))
      generalize wc.alloc (.cells #[.int .i64 0, .slice A1' 0 c1', .slice A2' 0 c2', .int .i64 0, .int .i64 0, .int .i64 0] 76) = we at HBd ⊢
      generalize wc.heap.size = gd at HBd ⊢
      clear HLD HRL HSb HSc
      go_wp2
      go_ret
      exact ⟨rfl, HBd.out⟩
  case neg =>
    have HST := Aside0.mk (started_no a0 hn w)
    clear hC hc1 hn
    go_enter Try.func12, Try.ntmps12
    go_upto_region 2 with (go_at_call 37; (with_reducible refine HST.out.mono ?_); rintro e w1 ⟨rfl, h⟩; have HB0 := Aside0.mk h; clear h)
    have HB1 := Aside0.mk (below_drew1 HB0.out)
    clear HB0 HST
    refine start_ (n := 35) (S := fun W => True) (ds := [34]) (bb 35 0) (by kernel_rfl) rfl rfl (trivial) (fun hHeld => ?_); refine with_tabW makes2_tab makes2_bits (fun HT_ HW_ => ?_)
    generalize w1.drew = wa at hHeld HB1 ⊢
    refine pure_ (i := 0) (N := (some 19)) (v := ?_) (a' := ?_) (bb 35 1) rfl rfl (any_of HT_.out (by kernel_rfl)) (fun _ _ _ h => h) (Or.inl ⟨by rfl, ?_⟩) ?_ ?_
    rotate_left
    · intro w'
      go_simp
      with_reducible rfl
    rotate_left
    · simp only [Act.put, List.setIfInBounds_toArray, List.set_cons_zero, List.set_cons_succ, i64_w, i32_w]
      rfl
    refine pure_ (i := 1) (N := (some 20)) (v := ?_) (a' := ?_) (bb 35 3) rfl rfl (any_of HT_.out (by kernel_rfl)) (fun _ _ _ h => h) (Or.inl ⟨by rfl, ?_⟩) ?_ ?_
    rotate_left
    · intro w'
      go_simp
      with_reducible rfl
    rotate_left
    · simp only [Act.put, List.setIfInBounds_toArray, List.set_cons_zero, List.set_cons_succ, i64_w, i32_w]
      rfl
    refine pure_ (i := 2) (N := (some 21)) (v := ?_) (a' := ?_) (bb 35 7) rfl rfl (any_of HT_.out (by kernel_rfl)) (fun _ _ _ h => h) (Or.inl ⟨by rfl, ?_⟩) ?_ ?_
    rotate_left
    · intro w'
      go_simp
      with_reducible rfl
    rotate_left
    · simp only [Act.put, List.setIfInBounds_toArray, List.set_cons_zero, List.set_cons_succ, i64_w, i32_w]
      rfl
    refine pure_ (i := 3) (N := (some 22)) (v := ?_) (a' := ?_) (bb 35 15) rfl rfl (any_of HT_.out (by kernel_rfl)) (fun _ _ _ h => h) (Or.inl ⟨by rfl, ?_⟩) ?_ ?_
    rotate_left
    · intro w'
      go_simp
      with_reducible rfl
    rotate_left
    · simp only [Act.put, List.setIfInBounds_toArray, List.set_cons_zero, List.set_cons_succ, i64_w, i32_w]
      rfl
    refine pure_ (i := 4) (N := (some 23)) (v := ?_) (a' := ?_) (bb 35 31) rfl rfl (any_of HT_.out (by kernel_rfl)) (fun _ _ _ h => h) (Or.inl ⟨by rfl, ?_⟩) ?_ ?_
    rotate_left
    · intro w'
      go_simp
      with_reducible rfl
    rotate_left
    · simp only [Act.put, List.setIfInBounds_toArray, List.set_cons_zero, List.set_cons_succ, i64_w, i32_w]
      rfl
    refine pure_ (i := 5) (N := (some 24)) (v := ?_) (a' := ?_) (bb 35 63) rfl rfl (any_of HT_.out (by kernel_rfl)) (fun _ _ _ h => h) (Or.inl ⟨by rfl, ?_⟩) ?_ ?_
    rotate_left
    · intro w'
      go_simp
      with_reducible rfl
    rotate_left
    · simp only [Act.put, List.setIfInBounds_toArray, List.set_cons_zero, List.set_cons_succ, i64_w, i32_w]
      rfl
    refine pure_ (i := 6) (N := (some 25)) (v := undef) (a' := ?_) (bb 35 127) rfl rfl (any_of HT_.out (by kernel_rfl)) (fun _ _ _ h => h) (Or.inr ⟨by rfl, rfl⟩) ?_ ?_
    rotate_left
    · simp only [Act.put, List.setIfInBounds_toArray, List.set_cons_zero, List.set_cons_succ, i64_w, i32_w]
      rfl
    refine pure_ (i := 7) (N := (some 26)) (v := undef) (a' := ?_) (bb 35 255) rfl rfl (any_of HT_.out (by kernel_rfl)) (fun _ _ _ h => h) (Or.inr ⟨by rfl, rfl⟩) ?_ ?_
    rotate_left
    · simp only [Act.put, List.setIfInBounds_toArray, List.set_cons_zero, List.set_cons_succ, i64_w, i32_w]
      rfl
    refine pure_ (i := 8) (N := (some 27)) (v := undef) (a' := ?_) (bb 35 511) rfl rfl (any_of HT_.out (by kernel_rfl)) (fun _ _ _ h => h) (Or.inr ⟨by rfl, rfl⟩) ?_ ?_
    rotate_left
    · simp only [Act.put, List.setIfInBounds_toArray, List.set_cons_zero, List.set_cons_succ, i64_w, i32_w]
      rfl
    refine pure_ (i := 9) (N := (some 28)) (v := undef) (a' := ?_) (bb 35 1023) rfl rfl (any_of HT_.out (by kernel_rfl)) (fun _ _ _ h => h) (Or.inr ⟨by rfl, rfl⟩) ?_ ?_
    rotate_left
    · simp only [Act.put, List.setIfInBounds_toArray, List.set_cons_zero, List.set_cons_succ, i64_w, i32_w]
      rfl
    refine pure_ (i := 10) (N := (some 29)) (v := undef) (a' := ?_) (bb 35 2047) rfl rfl (any_of HT_.out (by kernel_rfl)) (fun _ _ _ h => h) (Or.inr ⟨by rfl, rfl⟩) ?_ ?_
    rotate_left
    · simp only [Act.put, List.setIfInBounds_toArray, List.set_cons_zero, List.set_cons_succ, i64_w, i32_w]
      rfl
    refine pure_ (i := 11) (N := (some 30)) (v := undef) (a' := ?_) (bb 35 4095) rfl rfl (any_of HT_.out (by kernel_rfl)) (fun _ _ _ h => h) (Or.inr ⟨by rfl, rfl⟩) ?_ ?_
    rotate_left
    · simp only [Act.put, List.setIfInBounds_toArray, List.set_cons_zero, List.set_cons_succ, i64_w, i32_w]
      rfl
    refine pure_ (i := 12) (N := (some 31)) (v := undef) (a' := ?_) (bb 35 8191) rfl rfl (any_of HT_.out (by kernel_rfl)) (fun _ _ _ h => h) (Or.inr ⟨by rfl, rfl⟩) ?_ ?_
    rotate_left
    · simp only [Act.put, List.setIfInBounds_toArray, List.set_cons_zero, List.set_cons_succ, i64_w, i32_w]
      rfl
    refine pure_ (i := 13) (N := (some 32)) (v := undef) (a' := ?_) (bb 35 16383) rfl rfl (any_of HT_.out (by kernel_rfl)) (fun _ _ _ h => h) (Or.inr ⟨by rfl, rfl⟩) ?_ ?_
    rotate_left
    · simp only [Act.put, List.setIfInBounds_toArray, List.set_cons_zero, List.set_cons_succ, i64_w, i32_w]
      rfl
    refine pure_ (i := 14) (N := (some 33)) (v := undef) (a' := ?_) (bb 35 32767) rfl rfl (any_of HT_.out (by kernel_rfl)) (fun _ _ _ h => h) (Or.inr ⟨by rfl, rfl⟩) ?_ ?_
    rotate_left
    · simp only [Act.put, List.setIfInBounds_toArray, List.set_cons_zero, List.set_cons_succ, i64_w, i32_w]
      rfl
    refine pure_ (i := 15) (N := (some 34)) (v := undef) (a' := ?_) (bb 35 65535) rfl rfl (any_of HT_.out (by kernel_rfl)) (fun _ _ _ h => h) (Or.inr ⟨by rfl, rfl⟩) ?_ ?_
    rotate_left
    · simp only [Act.put, List.setIfInBounds_toArray, List.set_cons_zero, List.set_cons_succ, i64_w, i32_w]
      rfl
    refine pure_ (i := 16) (N := (some 35)) (v := undef) (a' := ?_) (bb 35 131071) rfl rfl (any_of HT_.out (by kernel_rfl)) (fun _ _ _ h => h) (Or.inr ⟨by rfl, rfl⟩) ?_ ?_
    rotate_left
    · simp only [Act.put, List.setIfInBounds_toArray, List.set_cons_zero, List.set_cons_succ, i64_w, i32_w]
      rfl
    refine pure_ (i := 17) (N := (some 36)) (v := undef) (a' := ?_) (bb 35 262143) rfl rfl (any_of HT_.out (by kernel_rfl)) (fun _ _ _ h => h) (Or.inr ⟨by rfl, rfl⟩) ?_ ?_
    rotate_left
    · simp only [Act.put, List.setIfInBounds_toArray, List.set_cons_zero, List.set_cons_succ, i64_w, i32_w]
      rfl
    refine pure_ (i := 18) (N := (some 37)) (v := undef) (a' := ?_) (bb 35 524287) rfl rfl (any_of HT_.out (by kernel_rfl)) (fun _ _ _ h => h) (Or.inr ⟨by rfl, rfl⟩) ?_ ?_
    rotate_left
    · simp only [Act.put, List.setIfInBounds_toArray, List.set_cons_zero, List.set_cons_succ, i64_w, i32_w]
      rfl
    refine pure_ (i := 19) (N := (some 38)) (v := undef) (a' := ?_) (bb 35 1048575) rfl rfl (any_of HT_.out (by kernel_rfl)) (fun _ _ _ h => h) (Or.inr ⟨by rfl, rfl⟩) ?_ ?_
    rotate_left
    · simp only [Act.put, List.setIfInBounds_toArray, List.set_cons_zero, List.set_cons_succ, i64_w, i32_w]
      rfl
    refine pure_ (i := 20) (N := (some 39)) (v := undef) (a' := ?_) (bb 35 2097151) rfl rfl (any_of HT_.out (by kernel_rfl)) (fun _ _ _ h => h) (Or.inr ⟨by rfl, rfl⟩) ?_ ?_
    rotate_left
    · simp only [Act.put, List.setIfInBounds_toArray, List.set_cons_zero, List.set_cons_succ, i64_w, i32_w]
      rfl
    refine pure_ (i := 21) (N := (some 40)) (v := undef) (a' := ?_) (bb 35 4194303) rfl rfl (any_of HT_.out (by kernel_rfl)) (fun _ _ _ h => h) (Or.inr ⟨by rfl, rfl⟩) ?_ ?_
    rotate_left
    · simp only [Act.put, List.setIfInBounds_toArray, List.set_cons_zero, List.set_cons_succ, i64_w, i32_w]
      rfl
    refine pure_ (i := 22) (N := (some 41)) (v := undef) (a' := ?_) (bb 35 8388607) rfl rfl (any_of HT_.out (by kernel_rfl)) (fun _ _ _ h => h) (Or.inr ⟨by rfl, rfl⟩) ?_ ?_
    rotate_left
    · simp only [Act.put, List.setIfInBounds_toArray, List.set_cons_zero, List.set_cons_succ, i64_w, i32_w]
      rfl
    refine pure_ (i := 23) (N := (some 42)) (v := undef) (a' := ?_) (bb 35 16777215) rfl rfl (any_of HT_.out (by kernel_rfl)) (fun _ _ _ h => h) (Or.inr ⟨by rfl, rfl⟩) ?_ ?_
    rotate_left
    · simp only [Act.put, List.setIfInBounds_toArray, List.set_cons_zero, List.set_cons_succ, i64_w, i32_w]
      rfl
    refine pure_ (i := 24) (N := (some 43)) (v := undef) (a' := ?_) (bb 35 33554431) rfl rfl (any_of HT_.out (by kernel_rfl)) (fun _ _ _ h => h) (Or.inr ⟨by rfl, rfl⟩) ?_ ?_
    rotate_left
    · simp only [Act.put, List.setIfInBounds_toArray, List.set_cons_zero, List.set_cons_succ, i64_w, i32_w]
      rfl
    refine pure_ (i := 25) (N := (some 44)) (v := undef) (a' := ?_) (bb 35 67108863) rfl rfl (any_of HT_.out (by kernel_rfl)) (fun _ _ _ h => h) (Or.inr ⟨by rfl, rfl⟩) ?_ ?_
    rotate_left
    · simp only [Act.put, List.setIfInBounds_toArray, List.set_cons_zero, List.set_cons_succ, i64_w, i32_w]
      rfl
    refine pure_ (i := 26) (N := (some 45)) (v := undef) (a' := ?_) (bb 35 134217727) rfl rfl (any_of HT_.out (by kernel_rfl)) (fun _ _ _ h => h) (Or.inr ⟨by rfl, rfl⟩) ?_ ?_
    rotate_left
    · simp only [Act.put, List.setIfInBounds_toArray, List.set_cons_zero, List.set_cons_succ, i64_w, i32_w]
      rfl
    refine pure_ (i := 27) (N := (some 46)) (v := undef) (a' := ?_) (bb 35 268435455) rfl rfl (any_of HT_.out (by kernel_rfl)) (fun _ _ _ h => h) (Or.inr ⟨by rfl, rfl⟩) ?_ ?_
    rotate_left
    · simp only [Act.put, List.setIfInBounds_toArray, List.set_cons_zero, List.set_cons_succ, i64_w, i32_w]
      rfl
    refine pure_ (i := 28) (N := (some 47)) (v := undef) (a' := ?_) (bb 35 536870911) rfl rfl (any_of HT_.out (by kernel_rfl)) (fun _ _ _ h => h) (Or.inr ⟨by rfl, rfl⟩) ?_ ?_
    rotate_left
    · simp only [Act.put, List.setIfInBounds_toArray, List.set_cons_zero, List.set_cons_succ, i64_w, i32_w]
      rfl
    refine pure_ (i := 29) (N := (some 48)) (v := undef) (a' := ?_) (bb 35 1073741823) rfl rfl (any_of HT_.out (by kernel_rfl)) (fun _ _ _ h => h) (Or.inr ⟨by rfl, rfl⟩) ?_ ?_
    rotate_left
    · simp only [Act.put, List.setIfInBounds_toArray, List.set_cons_zero, List.set_cons_succ, i64_w, i32_w]
      rfl
    refine pure_ (i := 30) (N := (some 49)) (v := undef) (a' := ?_) (bb 35 2147483647) rfl rfl (any_of HT_.out (by kernel_rfl)) (fun _ _ _ h => h) (Or.inr ⟨by rfl, rfl⟩) ?_ ?_
    rotate_left
    · simp only [Act.put, List.setIfInBounds_toArray, List.set_cons_zero, List.set_cons_succ, i64_w, i32_w]
      rfl
    refine pure_ (i := 31) (N := (some 50)) (v := undef) (a' := ?_) (bb 35 4294967295) rfl rfl (any_of HT_.out (by kernel_rfl)) (fun _ _ _ h => h) (Or.inr ⟨by rfl, rfl⟩) ?_ ?_
    rotate_left
    · simp only [Act.put, List.setIfInBounds_toArray, List.set_cons_zero, List.set_cons_succ, i64_w, i32_w]
      rfl
    refine pure_ (i := 32) (N := (some 51)) (v := undef) (a' := ?_) (bb 35 8589934591) rfl rfl (any_of HT_.out (by kernel_rfl)) (fun _ _ _ h => h) (Or.inr ⟨by rfl, rfl⟩) ?_ ?_
    rotate_left
    · simp only [Act.put, List.setIfInBounds_toArray, List.set_cons_zero, List.set_cons_succ, i64_w, i32_w]
      rfl
    refine pure_ (i := 33) (N := (some 52)) (v := ?_) (a' := ?_) (bb 35 17179869183) rfl rfl (any_of HT_.out (by kernel_rfl)) (fun _ _ _ h => h) (Or.inl ⟨by rfl, ?_⟩) ?_ ?_
    rotate_left
    · intro w'
      go_simp
      with_reducible rfl
    rotate_left
    · simp only [Act.put, List.setIfInBounds_toArray, List.set_cons_zero, List.set_cons_succ, i64_w, i32_w]
      rfl
    refine pure_ (i := 34) (N := (some 53)) (v := ?_) (a' := ?_) (bb 35 34359738367) rfl rfl (any_of HT_.out (by kernel_rfl)) (fun _ _ _ h => h) (Or.inl ⟨by rfl, ?_⟩) ?_ ?_
    rotate_left
    · intro w'
      go_simp
      with_reducible rfl
    rotate_left
    · simp only [Act.put, List.setIfInBounds_toArray, List.set_cons_zero, List.set_cons_succ, i64_w, i32_w]
      rfl
    refine done_ (done_of HT_.out (by kernel_rfl)) ?_
    have HBa := Aside0.mk HB1.out
    clear HB1 hHeld
    by_cases hg : 2 ≤ l1.length ∧ l1.length ≤ 65536 ∧ ∀ i, i < l1.length → (l1.getD i []).length = 512
    · have HG := Aside0.mk hg
      have HLD := Aside0.mk (fun W (h : Sep w W []) => Sep.load h A1 c1 l1 HG.out.1 HG.out.2.1 (Kd.C_below HC.out h.below) HG.out.2.2)
      obtain ⟨k0, hk0⟩ := load_ev l1 hg.1 hg.2.1 hg.2.2
      have HRL := Aside0.mk (fun W L (h : Sep w W L) => Sep.rLoad h k0 A1 c1 l1 (Kd.C_below HC.out h.below) HC1.out _ _ _ _ _ _ _ hk0)
      clear hk0 hg
      have HSa := Aside0.mk (show Sep w wa [] from ⟨HBa.out, trivial⟩)
      go_upto_region 6 with (first
        | (go_at_call 28; (with_reducible refine (HLD.out _ HSa.out).mono ?_); rintro e wb ⟨gn, rfl, h⟩; have HSb := Aside0.mk h; clear h)
        | (go_at_call 40; (with_reducible refine (HRL.out _ _ HSb.out).mono ?_); rintro e wc ⟨A1', c1', A2', c2', rfl, h⟩; have HSc := Aside0.mk h; clear h))
      have HSd := Aside0.mk (HSc.out.push_alloc #[.int .i64 (l1.length : Int), .slice A1' (ldR l1 l1.length).length c1', .slice A2' 0 c2', .int .i64 0, .int .i64 0, .int .i64 0] 76)
      generalize wc.alloc (.cells #[.int .i64 (l1.length : Int), .slice A1' (ldR l1 l1.length).length c1', .slice A2' 0 c2', .int .i64 0, .int .i64 0, .int .i64 0] 76) = we at HSd ⊢
      generalize wc.heap.size = gd at HSd ⊢
      have hd := blk_cell HSd.out.cells.1
      have hd0 : we.cell? ⟨gd, 0, none⟩ = some (.int .i64 (l1.length : Int)) := hd 0
      have hd1 : we.cell? ⟨gd, 1, none⟩ = some (.slice A1' (ldR l1 l1.length).length c1') := hd 1
      have hd2 : we.cell? ⟨gd, 2, none⟩ = some (.slice A2' 0 c2') := hd 2
      have hd3 : we.cell? ⟨gd, 3, none⟩ = some (.int .i64 0) := hd 3
      have hd4 : we.cell? ⟨gd, 4, none⟩ = some (.int .i64 0) := hd 4
      have hd5 : we.cell? ⟨gd, 5, none⟩ = some (.int .i64 0) := hd 5
      clear hd HLD HRL HSa HSb HSc
      go_upto_region 11 with (fail)
      clear hd0 hd1 hd2 hd3 hd4 hd5
      have HSf := Aside0.mk (HSd.out.push_alloc (prC gn (DS.fresh l1.length l1) (.slice A1' (ldR l1 l1.length).length c1') (.slice A2' 0 c2')) 78)
      have HPf := Aside0.mk (show PrS w (we.alloc (.cells #[.pointer (some ⟨gn, 0, none⟩), .int .i64 (l1.length : Int), .slice A1' (ldR l1 l1.length).length c1', .slice A2' 0 c2', .int .i64 0, .int .i64 0, .int .i64 0] 78)) we.heap.size [cellsT gd #[.int .i64 (l1.length : Int), .slice A1' (ldR l1 l1.length).length c1', .slice A2' 0 c2', .int .i64 0, .int .i64 0, .int .i64 0] 76] (DS.fresh l1.length l1) 65536 from ⟨gn, A1', c1', A2', c2', ldR l1 l1.length, [], HSf.out.sel 4 [0, 3, 2, 1] _ rfl (by decide) rfl, Rl.load l1 HG.out.2.2, HG.out.1, HG.out.2.1, by rw [ldR_len]; have := HG.out.2.1; simp only [List.length_nil]; omega, Nat.zero_le _⟩)
      clear HSd HSf
      go_wp2_with (go_at_call 39; (with_reducible refine (told_calls _ _ _ _ HPf.out (by decide)).mono ?_); rintro e wg ⟨rfl, s9, h⟩; have HPg := Aside0.mk h.below; clear h)
      go_ret
      exact ⟨rfl, HPg.out⟩
    · obtain ⟨code, hcode, hld, k0, hk0⟩ := load_refused A1 c1 l1 w HC.out HC1.out hg
      have HLD := Aside0.mk hld
      have HRL := Aside0.mk (fun W L (h : Sep w W L) => Sep.rLoad h k0 A1 c1 l1 (Kd.C_below HC.out h.below) HC1.out _ _ _ _ _ _ _ hk0)
      have hcc : (code != code) = false := by simp
      have hc0 : (code != 0) = true := by simpa using hcode
      clear hk0 hg hld hcode
      go_upto_region 6 with (first
        | (go_at_call 28; (with_reducible refine (HLD.out _ HBa.out).mono ?_); rintro e wb ⟨rfl, h⟩; have HSb := Aside0.mk (show Sep w wb [] from ⟨below_step HBa.out h, trivial⟩); clear h)
        | (go_at_call 40; (with_reducible refine (HRL.out _ _ HSb.out).mono ?_); rintro e wc ⟨A1', c1', A2', c2', rfl, h⟩; have HSc := Aside0.mk h; clear h))
      have HBd := Aside0.mk (below_alloc HSc.out.below (.cells #[.int .i64 0, .slice A1' 0 c1', .slice A2' 0 c2', .int .i64 0, .int .i64 0, .int .i64 0] 76))
      generalize wc.alloc (.cells #[.int .i64 0, .slice A1' 0 c1', .slice A2' 0 c2', .int .i64 0, .int .i64 0, .int .i64 0] 76) = we at HBd ⊢
      generalize wc.heap.size = gd at HBd ⊢
      clear HLD HRL HSb HSc
      go_wp2
      go_ret
      exact ⟨rfl, HBd.out⟩
end Go.Proofs.Ytddnhcnkjcdfgaa.M

namespace Go.Proofs.Ytddnhcnkjcdfgaa.M
open Go.RowKit Go.Maps Go.Proofs.YtddnhcnkjcdfgaaW.PrintWords Go.Proofs.YtddnhcnkjcdfgaaW.PrintLast Go.Proofs.YtddnhcnkjcdfgaaW.PrintMore
set_option linter.unusedVariables false
def makesF (_k : Nat) (_a : Int) (_l : List (List Int)) (_b : Int) : Option Bool := some true
theorem makes_row (k : Nat) (a : Int) (A1 : Option Addr) (c1 : Nat) (l1 : List (List Int)) (b : Int) (r : Bool) (w : World) (hC : Kd.C (Kd.slice 5 (Kd.int .u8)) w A1 l1.length l1) (hc1 : l1.length ≤ c1) (h : makesF k a l1 b = some r) :
    Calls Try.prog 12 #[.int .i64 a, .slice A1 l1.length c1, .int .i64 b] w fun e w' => e = .returned (.bool r) ∧ Below w.heap.size w w' := by
  cases h
  exact makes_calls a A1 c1 l1 b w hC hc1
theorem makes_pure : ∀ (a : Int) (l : List (List Int)) (b : Int), (Lit.int .i64 a).wf = true → l.length ≤ 9223372036854775807 → (∀ y ∈ l, y.length ≤ 140737488351232) → (Lit.int .i64 b).wf = true → ∃ k, makesF k a l b = some true := fun _ _ _ _ _ _ _ => ⟨0, rfl⟩
end Go.Proofs.Ytddnhcnkjcdfgaa.M

namespace Go.Proofs.Ytddnhcnkjcdfgaa.diskMakes
open Go.ChangeShapes Go.WideShapes Go.ChangeAt Go.RowKit Go.Proofs.YtddnhcnkjcdfgaaW.PrintWords Go.Proofs.YtddnhcnkjcdfgaaW.PrintLast Go.Proofs.YtddnhcnkjcdfgaaW.PrintMore Go.Proofs.Ytddnhcnkjcdfgaa.P Go.Proofs.Ytddnhcnkjcdfgaa.M
set_option linter.unusedVariables false
theorem own : ownKnob Try.prog.godebug = none := by kernel_rfl
theorem laidOut : laidOutB Try.prog = true := by kernel_rfl
def IsRow (k : IntKind) (w : World) (a : Option Addr) (len cap : Nat) (zs : List Int) : Prop :=
  (a = none ∧ len = 0 ∧ cap = 0 ∧ zs = []) ∨
  ∃ x, a = some x ∧ len ≤ cap ∧ cap ≤ maxLen ∧ zs.length = cap ∧ (∀ i, i < zs.length → w.cell? (x.add i) = some (.int k (zs.getD i 0))) ∧ ∀ n ∈ zs, (Lit.int k n).wf = true
set_option maxRecDepth 100000 in
theorem contract (H : Type) (enc : TypeId × Value → H) (W : World) (base : Nat) (args : Array Value) (ds gs : List (DataW H)) (before : List MemPlace)
    (hval : ∀ (j : Nat) t v, Try.f12.params[j]? = some t → args[j]? = some v → Value.okWide Try.prog W .any base t v)
    (hW : DataW.Whole enc Try.prog Try.f12.params.toList Rows.diskMakesSpec.vars false W args.toList ds gs before)
    (hsz0 : (DataW.weightsEach Try.prog (Try.f12.params.toList ++ Rows.diskMakesSpec.plain.varTypes Try.prog) (ds ++ gs)).all (· ≤ reachBytes) = true)
    (hL : laidMetH Try.prog Rows.diskMakesRow.laid W) :
    Calls Try.prog 12 args W fun e W' => ∃ v, e = .returned v ∧ Rows.diskMakesSpec.post enc Try.prog Try.f12 false true false false W args v W' := by
  have hW' := hW
  have hsz : (DataW.weightsEach Try.prog (Try.f12.params.toList ++ Rows.diskMakesSpec.plain.varTypes Try.prog) (ds ++ gs)).all (· ≤ reachBytes) = true := hsz0
  obtain ⟨p, q, hA0, hV, rfl, hfz, hnd⟩ := hW
  have hA : DataW.TrodAll enc Try.prog W 0 (fun _ => true) true Try.f12.params.toList args.toList ds p := hA0
  rw [Try.params12] at hA hval hsz
  obtain ⟨v0, vs0, d0, ds0, p0, q0, hargs, rfl, rfl, h0, r0⟩ := trodAll_cons hA
  obtain ⟨v1, vs1, d1, ds1, p1, q1, rfl, rfl, rfl, h1, r1⟩ := trodAll_cons r0
  obtain ⟨v2, vs2, d2, ds2, p2, q2, rfl, rfl, rfl, h2, r2⟩ := trodAll_cons r1
  obtain ⟨rfl, rfl, rfl⟩ := trodAll_nil r2
  obtain rfl : args = #[v0, v1, v2] := by cases args; simp_all
  obtain ⟨rfl, rfl⟩ := trodVars_none hV
  obtain ⟨a0, rfl, rfl, rfl, w0⟩ := open_int Try.underlying3 (hval 0 3 v0 rfl rfl) h0
  obtain ⟨a1, len1, cap1, rfl⟩ := okWide_slice Try.underlying37 (hval 1 37 v1 rfl rfl)
  have k1 := h1
  have lt1 : ∀ x ∈ p1, x.block < W.heap.size := by obtain ⟨m, hm⟩ := k1; exact DataW.trod_lt m _ _ _ hm
  obtain ⟨l1, rfl, hc1, hr1, hn1, hw1⟩ := BulkW.arg_37 h1 (BulkW.weights_at hsz 1 37 d1 rfl rfl)
  obtain ⟨a2, rfl, rfl, rfl, w2⟩ := open_int Try.underlying3 (hval 2 3 v2 rfl rfl) h2
  clear hA0 hsz0 hsz
  obtain ⟨k, h⟩ := M.makes_pure a0 l1 a2 w0 (by omega) hw1 w2
  refine (M.makes_row k a0 _ _ l1 a2 true W hr1 hc1 h).mono ?_
  rintro e W' ⟨rfl, bel⟩
  exact ⟨_, rfl, _, _, _, [], _, [], hW', trodAll_mk1 (shut_bool Try.underlying4 _), (trodAll_cons_mk (shut_int Try.underlying3 w0) (trodAll_cons_mk (Below.trod laidOut (by kernel_rfl) (of_decide_eq_true (by kernel_rfl)) k1 bel lt1) (trodAll_cons_mk (shut_int Try.underlying3 w2) trodAll_mk0))), rfl, bel.frame _, fun h => by cases h⟩
noncomputable def laidWorld (os : Os) : World := World.holding Try.prog os ⟨#[], #[], []⟩
theorem laid_met (os : Os) : laidMet Try.prog Rows.diskMakesRow.laid ((laidWorld os).forCall (fun _ _ => 0) ⟨#[], #[.int .i64 0, .slice none 0 0, .int .i64 0], []⟩).memory :=
  laidMet_of_run' 8 (by kernel_rfl) (by kernel_rfl)
theorem reads (os : Os) {H : Type} (enc : TypeId × Value → H) : ∃ places, DataW.whole enc Try.prog ((laidWorld os).forCall (fun _ _ => 0) ⟨#[], #[.int .i64 0, .slice none 0 0, .int .i64 0], []⟩).memory Try.f12.params.toList Rows.diskMakesSpec.vars false (#[.int .i64 0, .slice none 0 0, .int .i64 0] : Array Value).toList 8 = some ([.lit (.int .i64 0), .nil, .lit (.int .i64 0)], [], places) :=
  ⟨[], by kernel_rfl⟩
set_option maxRecDepth 100000 in
theorem lifted (os : Os) (started : os.Started) (H : Type) (enc : TypeId × Value → H) (F : Stop.Interp) :
    ReturnsInHanded {} Try.checked os 12 .any ((OpenSpec.ofChange Rows.diskMakesSpec).preRow enc Try.prog Try.f12 Rows.diskMakesRow.domain false Rows.diskMakesRow.laid) (((OpenSpec.ofChange Rows.diskMakesSpec).at F).post enc Try.prog Try.f12 false true false false) := by
  obtain ⟨places, hx⟩ := reads os enc
  refine returnsInHanded_of_row (C := Try.checked) (s := OpenSpec.ofChange Rows.diskMakesSpec) own started (by kernel_rfl) Try.func12
    (witness_row_at (enc := enc) (C := Try.checked) false (laidWorld os) #[.int .i64 0, .slice none 0 0, .int .i64 0] rfl (by kernel_rfl) (by kernel_rfl) (by kernel_rfl)
      (OpenSpec.preRow_of_cond 8 hx (by kernel_rfl) (fun k hk => by cases hk) (by kernel_rfl) (laid_met os))) ?_
  intro W base args ds gs before hval hW _ hcond hsz hL _ _
  exact contract H enc W base args ds gs before hval hW hsz hL
theorem said : Rows.DiskMakesSaid :=
  OpenClaim.holds_of_cond 12 Try.f12 rfl rfl rfl rfl rfl rfl rfl ⟨rfl, rfl, rfl, rfl, rfl⟩ rfl rfl rfl rfl rfl (by kernel_rfl) Try.func12 (by kernel_rfl)
    (of_decide_eq_true (by kernel_rfl)) (by unfold Func.isWrapper; first | (rw [if_pos (by decide +kernel)]; kernel_rfl) | (rw [if_neg (by decide +kernel)]; exact ⟨rfl, rfl⟩))
    (fun os started H enc _ F => by rw [OpenClaim.pre_eq_preRow]; exact lifted os started H enc F)
#print axioms said
end Go.Proofs.Ytddnhcnkjcdfgaa.diskMakes
namespace Go.Proofs.Ytddnhcnkjcdfgaa
theorem diskMakes_holds : Rows.DiskMakesSaid := diskMakes.said
end Go.Proofs.Ytddnhcnkjcdfgaa
