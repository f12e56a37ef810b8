import Derived.Test.YtddnhcnkjcdfgaaDh
import Derived.Test.YtddnhcnkjcdfgaaProg
import Derived.Below
import Derived.Deep.Draws
import Derived.Deep.AppendLies
import Derived.Maps.AppendAt
import Derived.OwnWalk
import Derived.Laws.BytesArg
import Derived.Laws.MakeOwn
import Derived.Laws.OwnMore
import Derived.Deep.OwnRows
import Derived.Tactics
import Derived.Lib.ConvBytes
import Derived.Laws.Slices
import Derived.WalkKit
import Derived.KernelRfl
import Derived.RowKit3
import Derived.Deep.LoopGhost
import Derived.Deep.QuietTactic
import Derived.BigQuiet
import Derived.WideLaws
import Derived.Deep.DeepCutAuto
import Derived.Deep.CutBlock
import Derived.Deep.RegionHeld3
import Derived.Laws.Rows
import Derived.Lib.AppendStr
import Derived.ArgAppend
import Derived.Laws.IdiomCopy
import Derived.OrdersHeld
import Derived.Laws.BitsLemmas
import Derived.RowKit
import Derived.Test.YtddnhcnkjcdfgaaWWords
import Derived.Test.YtddnhcnkjcdfgaaWLast
import Derived.Test.YtddnhcnkjcdfgaaWTab
import Derived.Test.YtddnhcnkjcdfgaaWFour
import Derived.Test.YtddnhcnkjcdfgaaWQPut
import Derived.Test.YtddnhcnkjcdfgaaWApart
import Derived.Test.YtddnhcnkjcdfgaaWArr
import Derived.Test.YtddnhcnkjcdfgaaWZeros
import Derived.Test.YtddnhcnkjcdfgaaWFoot
import Derived.Test.YtddnhcnkjcdfgaaWKept
import Derived.Test.YtddnhcnkjcdfgaaWShare
import Derived.Test.YtddnhcnkjcdfgaaWN
import Derived.Test.YtddnhcnkjcdfgaaWFootNe
import Derived.Test.YtddnhcnkjcdfgaaWAt
import Derived.Test.YtddnhcnkjcdfgaaWEqStruct
import Derived.Test.YtddnhcnkjcdfgaaWRepsOne
import Derived.Test.YtddnhcnkjcdfgaaWInv
import Derived.Test.YtddnhcnkjcdfgaaWInvWords
import Derived.Test.YtddnhcnkjcdfgaaWGuard
import Derived.Test.YtddnhcnkjcdfgaaWNEv
import Derived.Test.YtddnhcnkjcdfgaaWMore
import Derived.Laws.BitsAllLaws
import Derived.StillTailTactics
import Derived.Deep.WholeRow
import Derived.Maps.RangeWalk
import Derived.Maps.OwnOps
namespace Go.Proofs.Ytddnhcnkjcdfgaa.M
open Go.RowKit Go.Maps Go.Proofs.YtddnhcnkjcdfgaaW.PrintWords Go.Proofs.YtddnhcnkjcdfgaaW.PrintLast Go.Proofs.YtddnhcnkjcdfgaaW.PrintMore
set_option linter.unusedVariables false
set_option linter.unusedSimpArgs false
open Go.ChangeMaps (setBlock)
/-- What lasts while the writes are gone through: 'left' says what is still to come. -/
def Half (s : DS) (left : Lit → Bool) (L : List (List Int)) : Prop := L.length = s.n ∧ ∀ j, j < s.n → L.getD j [] = if s.W j ≠ [] ∧ left (.int .i64 (j : Int)) = false then s.cur j else s.L.getD j []
theorem Half.step {s : DS} {left : Lit → Bool} {L : List (List Int)} (h : Half s left L) (i : Nat) (hi : i < s.n) (hW : s.W i ≠ []) : Half s (fun z => left z && !z.sameKey (.int .i64 (i : Int))) (L.set i (s.cur i)) := by
  refine ⟨by rw [List.length_set]; exact h.1, fun j hj => ?_⟩
  by_cases e : j = i
  · subst e
    have : (Lit.int .i64 (j : Int)).sameKey (.int .i64 (j : Int)) = true := WideAt.sameKey_self trivial
    rw [if_pos ⟨hW, by simp [this]⟩, List.getD_eq_getElem?_getD, List.getElem?_set_self (by rw [h.1]; exact hj)]
    rfl
  · have hne : (Lit.int .i64 (j : Int)).sameKey (.int .i64 (i : Int)) = false := Maps.sameKey_ne (fun e2 => e (by injection e2 with _ e2; omega))
    rw [List.getD_eq_getElem?_getD, List.getElem?_set_ne (Ne.symm e), ← List.getD_eq_getElem?_getD, h.2 j hj]
    simp [hne]
theorem Half.done {s : DS} {left : Lit → Bool} {L : List (List Int)} (h : Half s left L) (hl : ∀ kl, left kl = false) : L = (List.range s.n).map s.cur := by
  apply List.ext_getElem?
  intro j
  by_cases hj : j < s.n
  · have h1 := h.2 j hj
    rw [List.getElem?_map, List.getElem?_range hj, List.getElem?_eq_getElem (by rw [h.1]; exact hj)]
    rw [List.getD_eq_getElem?_getD, List.getElem?_eq_getElem (by rw [h.1]; exact hj)] at h1
    show some _ = some _
    congr 1
    have h1 : L[j]'(by rw [h.1]; exact hj) = _ := h1
    rw [h1]
    by_cases hW : s.W j = []
    · rw [if_neg (fun e => e.1 hW), cur_nil hW]
    · rw [if_pos ⟨hW, hl _⟩]
  · rw [List.getElem?_eq_none (by rw [h.1]; omega), List.getElem?_eq_none (by simp; omega)]
theorem Half.start {w : World} {base g lb cp mb k : Nat} {s : DS} {f : Nat → Value} {D : DataW Value} (h : DkIn w base g s lb cp mb f k D) : Half s (Maps.has D) s.L := by
  refine ⟨(Kd.R_reads' h.la).1.symm, fun j hj => ?_⟩
  rw [if_neg]
  rintro ⟨h1, h2⟩
  have h3 := h.at_ j hj
  rw [Maps.atKey_of_not_has h2] at h3
  have h4 : f j = .slice none 0 0 := (DataW.held.inj h3).symm
  have h5 := h.rows j hj
  rw [h4] at h5
  have h6 := (Kd.R_reads' h5).1
  exact h1 (List.length_eq_zero_iff.1 h6.symm)
theorem DkIn.iter {w : World} {base g lb cp mb k r n : Nat} {s : DS} {f : Nat → Value} {D D' : DataW Value} {left : Lit → Bool} {cnt : Nat} (h : DkIn w base g s lb cp mb f k D) (hr : w.ranges Try.prog 3 asIs mb r n D' left cnt) : ¬ Fp g lb mb f s.n r := by
  have hne := hr.ne
  obtain ⟨es, clock, since, seen, c0, _, _, _, _, hb, _⟩ := hr
  rintro (e | e | e | ⟨i, hi, e⟩)
  · rw [e, h.hd] at hb; cases hb
  · obtain ⟨cs, hc⟩ := (h.la.typed rfl).2.2
    rw [e, hc] at hb; cases hb
  · exact hne e
  · obtain ⟨cs, hc⟩ := ((h.rows i hi).typed e).2.2
    rw [hc] at hb; cases hb
set_option maxHeartbeats 1000000 in
set_option maxRecDepth 100000 in
theorem flush_in (g : Nat) (w : World) (base lb cp mb k : Nat) (f : Nat → Value) (D : DataW Value) (s : DS) (h : DkIn w base g s lb cp mb f k D) :
    Calls Try.prog 17 #[.pointer (some ⟨g, 0, none⟩)] w fun e w' => (∃ v, e = .returned v) ∧ DkIn w' base g s.flush lb cp mb (fun _ => .slice none 0 0) 0 (.map []) ∧ Chg (fun x => x = g ∨ x = lb ∨ x = mb) w w' := by
  have hn2 := h.n2
  have hnm := h.nm
  have hg4 : w.cell? ⟨g, 4, none⟩ = some (.int .i64 s.fl) := blk_cell h.hd 4
  have hgf : w.frozen? ⟨g, 4, none⟩ = false := blk_frozen h.hd 4
  have H1 := Aside0.mk (h.acts 4 (wrap64 (s.fl + 1)) ⟨s.n, s.L, s.W, s.c, s.r, s.wr, wrap64 (s.fl + 1)⟩ ⟨rfl, rfl, rfl, rfl⟩ rfl)
  have HX := Aside0.mk (Chg.setCell (F := fun x => x = g ∨ x = lb ∨ x = mb) (Chg.refl _ w) (.inl rfl) 4 (.int .i64 (wrap64 (s.fl + 1))))
  clear h
  go_enter Try.func17, Try.ntmps17
  go_upto_region 1 with (fail)
  clear hg4 hgf
  generalize w.setCell ⟨g, 4, none⟩ (.int .i64 (wrap64 (s.fl + 1))) = w2 at H1 HX ⊢
  have hg1 : w2.cell? ⟨g, 1, none⟩ = some (.map (some mb)) := blk_cell H1.out.hd 1
  have HH := Aside0.mk (Half.start H1.out)
  go_wp2_with (at_range; refine wpList_range_own _ rfl _ 87 rfl 3 86 keyed Try.underlying87 asIs mb k D rfl H1.out.mp ?_; intro w3 hrg hgr hsz)
  have HR0 := Aside0.mk hrg
  have HD0 := Aside0.mk (H1.out.chg (G := fun _ => False) (Chg.of_grown hgr (fun _ h => by cases h)) (fun _ _ => id))
  have HX0 := Aside0.mk (HX.out.trans (Chg.of_grown (F := fun _ => False) hgr (fun _ h => by cases h)) (fun _ h => h.elim))
  have HRF := Aside0.mk HX.out.size
  clear hrg hgr hsz hg1
  generalize w2.heap.size = r at HR0 HRF ⊢
  go_loopg [] (Maps.size D) (fun q wr => ∃ (L : List (List Int)) (left : Lit → Bool), Aside0 (wr.ranges Try.prog 3 asIs mb r k D left q) ∧ Aside0 (DkIn wr base g ⟨s.n, L, s.W, s.c, s.r, s.wr, wrap64 (s.fl + 1)⟩ lb cp mb f k D) ∧ Aside0 (Half s left L) ∧ Aside0 (Chg (fun x => x = g ∨ x = lb ∨ x = mb) w wr))
  case atStart => exact ⟨s.L, _, HR0, HD0, ⟨HH.out⟩, HX0⟩
  case round =>
    clear HR0 HD0 HX0 HH
    obtain ⟨L, left, HR, HD, HF, HX1⟩ := hrel
    rcases HR.out.next keyed 0 with ⟨hc0, hl0, hrun⟩ | ⟨key, v, kl, y, w4, cnt, hkey, hlk, hv, hat, hrun, hrg, hlt, hgr, hsz, hen⟩
    · have hLd := HF.out.done hl0
      have hg1 : wr.cell? ⟨g, 1, none⟩ = some (.map (some mb)) := blk_cell HD.out.hd 1
      obtain ⟨ck, hclr⟩ := run_clear (by obtain ⟨es, ck, hb, _⟩ := HD.out.mp; exact ⟨es, ck, hb⟩) 0
      have HE := Aside0.mk (HD.out.clear ck)
      go_wp2
      refine bodyPost_end (results_none rfl _ _ _) rfl ?_
      refine ⟨⟨_, rfl⟩, ?_, HX1.out.trans HE.out.2 (fun x h => .inl (.inr (.inr h)))⟩
      have h1 := HE.out.1
      rw [hLd] at h1
      exact h1
    · obtain ⟨i, hi, rfl, hW⟩ := HD.out.ks kl (Maps.has_true_of_atKey hat)
      have hvf : v = f i := by
        have h1 := HD.out.at_ i hi
        rw [hat] at h1
        have h2 : some (DataW.held v, ([] : List MemPlace)) = some y := hv
        have h3 := congrArg Prod.fst (Option.some.inj h2)
        exact DataW.held.inj (h3.trans h1)
      subst hvf
      obtain ⟨x, rfl, hx, _⟩ := Maps.keyOf_int_inv Try.underlying3 hkey
      obtain rfl : x = (i : Int) := by injection hx with _ hx; exact hx.symm
      have hW : s.W i ≠ [] := hW
      have hi : i < s.n := hi
      have hit := HD.out.iter HR.out
      have HD4 := Aside0.mk (HD.out.chg (G := fun x => x = r) (Chg.of_grown hgr (fun x hx => (Option.some.inj hx).symm)) (fun x hx e => hit (e ▸ hx)))
      have hWl : 0 < (s.W i).length := List.length_pos_iff.2 hW
      have hrow := HD4.out.rows i hi
      have hWc : (s.W i).length ≤ 9223372036854775807 := by
        obtain ⟨A7, c7, e7⟩ := Kd.R_slice hrow
        exact (Kd.R_reads' (e7 ▸ hrow)).2.2.2.1
      obtain ⟨b7, c7, e7, _⟩ := Kd.R_form hrow hWl
      rw [e7] at hrow hrun hen
      have hS7 := sec_at hrow ((s.W i).length - 1) (show (s.W i).length - 1 < (s.W i).length by omega)
      have hcur : (s.W i).getD ((s.W i).length - 1) [] = s.cur i := (cur_last hW).symm
      have hS7' : w4.rangeAt b7 (((s.W i).length - 1) * 512) (nums .u8 (s.cur i)) ∧ (s.cur i).length = 512 := by
        rw [← hcur]; exact ⟨hS7.1, hS7.2.1⟩
      have HST := Aside0.mk (And.intro hi hW)
      have HIT := Aside0.mk hit
      have hth : w4.there lb (i * 512) 512 := (sec_at HD4.out.la i hi).2.2
      have hg0 : w4.cell? ⟨g, 0, none⟩ = some (.slice (some ⟨lb, 0, none⟩) s.n cp) := blk_cell HD4.out.hd 0
      have HRG := Aside0.mk hrg
      have HLT := Aside0.mk hlt
      have HX4 := Aside0.mk (HX1.out.trans (Chg.of_grown (F := fun x => x = r) hgr (fun x hx => (Option.some.inj hx).symm)) (fun x hx => .inr (by subst hx; exact HRF.out)))
      have hi0 : (0 : Int) ≤ (i : Int) := by omega
      have hi1 : (i : Int) < (s.n : Int) := by omega
      have hneb : b7 ≠ lb := by
        have h1 := HD4.out.rowg (b := b7) hi (by rw [e7]; rfl)
        exact h1.2.2
      have hlbg : lb ≠ g := HD4.out.lbg
      have Hcl := Aside0.mk hS7'.2
      obtain ⟨bC, hbC⟩ : ∃ x, x = s.cur i := ⟨_, rfl⟩
      have HbC := Aside0.mk hbC
      rw [← hbC] at hS7'
      obtain ⟨hSr, hSl⟩ := hS7'
      generalize (s.W i).length = ln at *
      have hl1 : (0 : Int) ≤ (ln : Int) - 1 := by omega
      have hl2 : (ln : Int) - 1 < (ln : Int) := by omega
      have hcl : (nums .u8 bC).length = 512 := by rw [nums_length, hSl]
      have hnb := nums_one bC
      have hu91 := Try.underlying91
      have hi91 : (Try.prog.info? 91).map (·.size) = some (nums .u8 bC).length := by rw [hcl]; exact size91
      have HSl := Aside0.mk hSl
      generalize hcb : nums .u8 bC = cb at *
      have HCB := Aside0.mk hcb
      clear hcb hit hrow e7 hS7 hcur hW hi hrg hlt hsz hgr hbC hlk hat hv hkey hx HD HR hSl
      have hlw : IntKind.i64.wrap ((ln : Int) - 1) = (ln : Int) - 1 := IntWalk.i64_in _ (by omega)
      have hlt0 : ((ln : Int) - 1).toNat = ln - 1 := by omega
      have hix : ∀ W : World, (Instr.indexAt 86 (.slice (some ⟨b7, 0, none⟩) ln c7) (.int .i64 ((ln : Int) - 1))).run Try.prog W = .ok (.pointer (some ⟨b7, (ln - 1) * 512, none⟩)) W := fun W => by go_simp; intro h; exact absurd h (by omega)
      go_wp2
      go_region_held3 (fun W => W.cell? ⟨g, 0, none⟩ = some (.slice (some ⟨lb, 0, none⟩) s.n cp) ∧ W.rangeAt b7 ((ln - 1) * 512) cb ∧ W.there lb (i * 512) 512) (first | assumption | (simp only [World.cell?_drew]; exact ⟨hg0, hSr, hth⟩) | exact ⟨(World.cell?_setCells_out lb cb _ _ _ (fun e => absurd e.symm hlbg)).trans hg0, World.rangeAt_setCells_apart (w := w4.drew) hSr lb _ cb (.inl hneb), World.there_setCells (w := w4.drew) hth lb _ cb⟩ | fail) (fail)
      have HP := (HD4.out.chg (G := fun _ => False) (w' := w4.drew) ⟨rfl, rfl, rfl, Nat.le_refl _, fun _ _ _ => rfl⟩ (fun _ _ => id)).putL i HST.out.1 (s.cur i) Hcl.out
      rw [← HbC.out, HCB.out] at HP
      have HR6 := Aside0.mk ((HRG.out.kept (row := none) (w' := w4.drew) ⟨rfl, rfl, rfl, Nat.le_refl _, fun _ _ _ => rfl⟩ (by simp) (by simp)).kept HP.2 (by have := HD4.out.mbl; simpa using this) (by have := HIT.out; simpa using fun e => this (.inr (.inl e))))
      have HD6 := Aside0.mk HP.1
      have HF6 := Aside0.mk (HF.out.step i HST.out.1 HST.out.2)
      have HX6 := Aside0.mk ((HX4.out.trans (b := w4) (c := w4.drew) (G := fun _ => False) ⟨rfl, rfl, rfl, Nat.le_refl _, fun _ _ _ => rfl⟩ (fun _ h => h.elim)).trans (Chg.of_grown (F := fun x => x = lb) HP.2 (fun x hx => (Option.some.inj hx).symm)) (fun x hx => .inl (.inr (.inl hx))))
      rw [HbC.out] at HD6
      clear HP hSr hth hg0 hix
      generalize w4.drew.setCells lb (i * 512) cb = w5 at HR6 HD6 HX6 ⊢
      go_wp2
      go_roundg cnt
      case rel => exact ⟨_, _, HR6, HD6, HF6, HX6⟩
      case measure => exact HLT.out
end Go.Proofs.Ytddnhcnkjcdfgaa.M
