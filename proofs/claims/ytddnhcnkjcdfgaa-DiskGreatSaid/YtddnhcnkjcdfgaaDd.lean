import Derived.Test.YtddnhcnkjcdfgaaDc
import Derived.Test.YtddnhcnkjcdfgaaProg
import Derived.Below
import Derived.Deep.Draws
import Derived.Deep.AppendLies
import Derived.Maps.AppendAt
import Derived.OwnWalk
import Derived.Laws.BytesArg
import Derived.Laws.MakeOwn
import Derived.Laws.OwnMore
import Derived.Deep.OwnRows
import Derived.Tactics
import Derived.Lib.ConvBytes
import Derived.Laws.Slices
import Derived.WalkKit
import Derived.KernelRfl
import Derived.RowKit3
import Derived.Deep.LoopGhost
import Derived.Deep.QuietTactic
import Derived.BigQuiet
import Derived.WideLaws
import Derived.Deep.DeepCutAuto
import Derived.Deep.CutBlock
import Derived.Deep.RegionHeld3
import Derived.Laws.Rows
import Derived.Lib.AppendStr
import Derived.ArgAppend
import Derived.Laws.IdiomCopy
import Derived.OrdersHeld
import Derived.Laws.BitsLemmas
import Derived.RowKit
import Derived.Test.YtddnhcnkjcdfgaaWWords
import Derived.Test.YtddnhcnkjcdfgaaWLast
import Derived.Test.YtddnhcnkjcdfgaaWTab
import Derived.Test.YtddnhcnkjcdfgaaWFour
import Derived.Test.YtddnhcnkjcdfgaaWQPut
import Derived.Test.YtddnhcnkjcdfgaaWApart
import Derived.Test.YtddnhcnkjcdfgaaWArr
import Derived.Test.YtddnhcnkjcdfgaaWZeros
import Derived.Test.YtddnhcnkjcdfgaaWFoot
import Derived.Test.YtddnhcnkjcdfgaaWKept
import Derived.Test.YtddnhcnkjcdfgaaWShare
import Derived.Test.YtddnhcnkjcdfgaaWN
import Derived.Test.YtddnhcnkjcdfgaaWFootNe
import Derived.Test.YtddnhcnkjcdfgaaWAt
import Derived.Test.YtddnhcnkjcdfgaaWEqStruct
import Derived.Test.YtddnhcnkjcdfgaaWRepsOne
import Derived.Test.YtddnhcnkjcdfgaaWInv
import Derived.Test.YtddnhcnkjcdfgaaWInvWords
import Derived.Test.YtddnhcnkjcdfgaaWGuard
import Derived.Test.YtddnhcnkjcdfgaaWNEv
import Derived.Test.YtddnhcnkjcdfgaaWMore
import Derived.Laws.BitsAllLaws
import Derived.StillTailTactics
import Derived.Deep.WholeRow
import Derived.Maps.RangeWalk
import Derived.Maps.OwnOps
namespace Go.Proofs.Ytddnhcnkjcdfgaa.M
open Go.RowKit Go.Maps Go.Proofs.YtddnhcnkjcdfgaaW.PrintWords Go.Proofs.YtddnhcnkjcdfgaaW.PrintLast Go.Proofs.YtddnhcnkjcdfgaaW.PrintMore
set_option linter.unusedVariables false
set_option linter.unusedSimpArgs false
attribute [local go_sem ↓] Go.wp_at_zero Go.wp_at_succ wp_bs
section
variable {w w2 w3 w4 : World} {base g lb cp mb k i : Nat} {s : DS} {f : Nat → Value} {D : DataW Value} {b : List Int} {v1 : Value}
/-- What stands once a write is made. -/
theorem write_end (hi : i < s.n) (hx : Chg (Fp g lb mb f s.n) w w2) (h : DkIn w2.drew base g ⟨s.n, s.L, s.W, s.c, s.r, wrap64 (s.wr + 1), s.fl⟩ lb cp mb f k D)
    (ho : Kd.R sec 91 w3 base (fun x => (f i).ownBlock = some x ∨ w2.drew.heap.size ≤ x) v1 (s.W i ++ [b]) ∧ w2.drew.grownBy w3 (f i).ownBlock ∧ (v1.ownBlock = (f i).ownBlock ∨ ∃ q, v1.ownBlock = some q ∧ w2.drew.heap.size ≤ q) ∧ w4.ownsMap Try.prog 3 asIs mb (k + 1) (D.put (.int .i64 (i : Int)) (.held v1)) ∧ w3.grownBy w4 (some mb)) :
    ∃ F', DkAt w4 base g F' (s.put i b) ∧ (∀ x, F' x → Fp g lb mb f s.n x ∨ w.heap.size ≤ x) ∧ Chg (Fp g lb mb f s.n) w w4 := by
  obtain ⟨hr, hg, hat, hown, hgr⟩ := ho
  have hh : w2.drew.heap = w2.heap := rfl
  have hc3 : Chg (fun x => (f i).ownBlock = some x) w2.drew w3 := Chg.of_grown hg (fun x hx => hx)
  have hc4 : Chg (fun x => x = mb) w3 w4 := Chg.of_grown hgr (fun x hx => (Option.some.inj hx).symm)
  have hc : Chg (fun x => x = mb ∨ (f i).ownBlock = some x) w2.drew w4 := (hc3.mono (fun x hx => .inr hx)).trans hc4 (fun x hx => .inl (.inl hx))
  have hkey : WideAt.IsKeyLit (.int .i64 (i : Int)) := trivial
  have hf : ∀ j, j ≠ i → ∀ x, j < s.n → (f j).ownBlock = some x → v1.ownBlock = some x → False := by
    intro j hj x hjn hx hv
    rcases hat with e | ⟨q, e, hq⟩
    · rw [e] at hv
      exact hj (h.sep j i x hjn hi hx hv)
    · rw [e] at hv
      have := ((h.rows j hjn).typed hx).2.1
      cases hv
      omega
  refine ⟨Fp g lb mb (fun j => if j = i then v1 else f j) s.n, ⟨lb, cp, mb, fun j => if j = i then v1 else f j, k + 1, D.put (.int .i64 (i : Int)) (.held v1), ⟨?_, ?_, hown, Nat.succ_le_succ h.kc, ?_, ?_, ?_, ?_, ?_, ?_, h.gb, h.mbb, h.n2, h.nm⟩, fun x => Iff.rfl⟩, ?_, ?_⟩
  · exact (hc.block g (blk_lt h.hd) (fun e => by rcases e with e | e; exact h.mbg e.symm; exact (h.rowg hi e).1 rfl)).trans h.hd
  · exact h.la.chg hc (fun x hx e => by cases hx; rcases e with e | e; exact h.mbl e.symm; exact (h.rowg hi e).2.2 rfl)
  · intro j hj
    by_cases e : j = i
    · subst e
      rw [if_pos rfl]
      exact atKey_put_same (h.mp.isMap) hkey _ _
    · rw [if_neg e]
      exact (atKey_put_other (fun e2 => e (by injection e2 with _ e2; omega)) _ _).trans (h.at_ j hj)
  · intro kl hkl
    by_cases e : kl = .int .i64 (i : Int)
    · exact ⟨i, hi, e, by show (if i = i then s.W i ++ [b] else s.W i) ≠ []; rw [if_pos rfl]; simp⟩
    · rw [has_put_other e] at hkl
      obtain ⟨j, hj, e1, e2⟩ := h.ks kl hkl
      refine ⟨j, hj, e1, ?_⟩
      show (if j = i then s.W i ++ [b] else s.W j) ≠ []
      by_cases e3 : j = i
      · rw [if_pos e3]; simp
      · rw [if_neg e3]; exact e2
  · intro j hj
    show Rs w4 base (if j = i then v1 else f j) (if j = i then s.W i ++ [b] else s.W j)
    by_cases e : j = i
    · rw [if_pos e, if_pos e]
      refine (Rs.of hr).chg hc4 (fun x hx e2 => ?_)
      have e2 : x = mb := e2
      obtain ⟨cs, hcs⟩ := (Rs.typed (Rs.of hr) hx).2.2
      rw [e2] at hcs
      obtain ⟨es, ck, hm, _⟩ := h.mp.kept hg (fun e => (h.rowg hi e.symm).2.1 rfl)
      rw [hcs] at hm
      cases hm
    · rw [if_neg e, if_neg e]
      refine (h.rows j hj).chg hc (fun x hx e2 => ?_)
      rcases e2 with e2 | e2
      · exact (h.rowg hj hx).2.1 e2
      · exact e (h.sep j i x hj hi hx e2)
  · intro j hj
    show (if j = i then s.W i ++ [b] else s.W j).length ≤ s.c + 1
    by_cases e : j = i
    · rw [if_pos e, List.length_append]
      have : (s.W i).length ≤ s.c := h.wl i hi
      simp
      omega
    · rw [if_neg e]
      have : (s.W j).length ≤ s.c := h.wl j hj
      omega
  · intro j q x hj hq h1 h2
    have h1 : (if j = i then v1 else f j).ownBlock = some x := h1
    have h2 : (if q = i then v1 else f q).ownBlock = some x := h2
    by_cases e : j = i
    · by_cases e2 : q = i
      · omega
      · rw [if_pos e] at h1
        rw [if_neg e2] at h2
        exact (hf q e2 x hq h2 h1).elim
    · rw [if_neg e] at h1
      by_cases e2 : q = i
      · rw [if_pos e2] at h2
        exact (hf j e x hj h1 h2).elim
      · rw [if_neg e2] at h2
        exact h.sep j q x hj hq h1 h2
  · intro j hj e
    have e : (if j = i then v1 else f j).ownBlock = some lb := e
    by_cases e1 : j = i
    · rw [if_pos e1] at e
      rcases hat with e2 | ⟨q, e2, hq⟩
      · rw [e2] at e
        exact h.sepl i hi e
      · rw [e2] at e
        have h5 := (h.la.typed rfl).2.1
        have h6 : q = lb := Option.some.inj e
        rw [h6] at hq
        exact absurd hq (Nat.not_le.2 h5)
    · rw [if_neg e1] at e
      exact h.sepl j hj e
  · intro x hx2
    rcases hx2 with e | e | e | ⟨j, hj, e⟩
    · exact .inl (.inl e)
    · exact .inl (.inr (.inl e))
    · exact .inl (.inr (.inr (.inl e)))
    · have e : (if j = i then v1 else f j).ownBlock = some x := e
      by_cases e1 : j = i
      · rw [if_pos e1] at e
        rcases hat with e2 | ⟨q, e2, hq⟩
        · rw [e2] at e
          exact .inl (.inr (.inr (.inr ⟨i, hi, e⟩)))
        · rw [e2] at e
          cases e
          right
          have := hx.size
          rw [hh] at hq
          omega
      · rw [if_neg e1] at e
        exact .inl (.inr (.inr (.inr ⟨j, hj, e⟩)))
  · refine (hx.trans (Chg.of_below (below_drew1 (Below.refl _ _)) : Chg (Fp g lb mb f s.n) w2 w2.drew) (fun x hx => .inl hx)).trans (hc.mono (fun x e => ?_)) (fun x e => .inl e)
    rcases e with e | e
    · exact .inr (.inr (.inl e))
    · exact .inr (.inr (.inr ⟨i, hi, e⟩))
end
set_option maxHeartbeats 1000000 in
set_option maxRecDepth 100000 in
theorem write_in (g i : Nat) (A : Option Addr) (c : Nat) (b : List Int) (w : World) (base lb cp mb k : Nat) (f : Nat → Value) (D : DataW Value) (s : DS) (h : DkIn w base g s lb cp mb f k D) (hi : i < s.n) (hC : (Kd.int .u8).C w A 512 b) (hne : ∀ ad, A = some ad → ¬ Fp g lb mb f s.n ad.block) (hc : s.c < 1073741824) :
    Calls Try.prog 16 #[.pointer (some ⟨g, 0, none⟩), .int .i64 (i : Int), .slice A 512 c] w fun e w' => e = .returned (.int .i64 0) ∧ ∃ F', DkAt w' base g F' (s.put i b) ∧ (∀ b, F' b → Fp g lb mb f s.n b ∨ w.heap.size ≤ b) ∧ Chg (Fp g lb mb f s.n) w w' := by
  obtain ⟨ad, rfl, _⟩ := Kd.at_int hC 0 (by omega) (by omega)
  have hspot := spot_of_C hC (by omega)
  obtain ⟨ab, ao, asp⟩ := ad
  obtain rfl : asp = none := hspot
  have hrange := rangeAt_of_C hC rfl
  have hblen : b.length = 512 := hC.1
  have hag : ab ≠ g := fun e => hne _ rfl (.inl e)
  have hn2 := h.n2
  have hnm := h.nm
  have hg0 : w.cell? ⟨g, 0, none⟩ = some (.slice (some ⟨lb, 0, none⟩) s.n cp) := blk_cell h.hd 0
  have hg3 : w.cell? ⟨g, 3, none⟩ = some (.int .i64 s.wr) := blk_cell h.hd 3
  have hgf : w.frozen? ⟨g, 3, none⟩ = false := blk_frozen h.hd 3
  have Hout := Aside0.mk (show Calls Try.prog 41 #[.pointer (some ⟨g, 0, none⟩), .int .i64 (i : Int)] w fun e w' => e = .returned (.bool false) ∧ w' = w from by
    have h_ := outside_calls g (i : Int) s.n (some ⟨lb, 0, none⟩) cp w hg0
    rw [show (!decide (0 ≤ (i : Int) ∧ (i : Int) < (s.n : Int))) = false by simp; omega] at h_
    exact h_)
  have H1 := Aside0.mk (h.acts 3 (wrap64 (s.wr + 1)) ⟨s.n, s.L, s.W, s.c, s.r, wrap64 (s.wr + 1), s.fl⟩ ⟨rfl, rfl, rfl, rfl⟩ rfl)
  have HR := Aside0.mk (show (w.setCell ⟨g, 3, none⟩ (.int .i64 (wrap64 (s.wr + 1)))).rangeAt ab ao (nums .u8 b) from fun j v hv => (World.cell?_setCell_far w ⟨g, 3, none⟩ ⟨ab, ao + j, none⟩ _ (fun e => hag e.symm)).trans (hrange j v hv))
  have HNE := Aside0.mk (hne _ rfl)
  have hsap := sap (some ⟨ab, ao, none⟩) c
  have HI := Aside0.mk hi
  have HC := Aside0.mk hc
  have HBL := Aside0.mk hblen
  have HX := Aside0.mk (Chg.setCell (F := Fp g lb mb f s.n) (Chg.refl _ w) (.inl rfl) 3 (.int .i64 (wrap64 (s.wr + 1))))
  have hi0 : (0 : Int) ≤ (i : Int) := by omega
  clear hrange hblen hi hc h hC hne hag
  go_enter Try.func16, Try.ntmps16
  go_wp2_with (go_at_call 41; (with_reducible refine Hout.out.mono ?_); rintro e w1 ⟨rfl, hw_⟩; subst hw_)
  have hg1 : ∀ W, DkIn W base g ⟨s.n, s.L, s.W, s.c, s.r, wrap64 (s.wr + 1), s.fl⟩ lb cp mb f k D → W.cell? ⟨g, 1, none⟩ = some (.map (some mb)) := fun W h => blk_cell h.hd 1
  have HG1 := Aside0.mk hg1
  clear hg1 Hout hg0 hg3 hgf
  generalize w1.setCell ⟨g, 3, none⟩ (.int .i64 (wrap64 (s.wr + 1))) = w2 at H1 HR HX ⊢
  have HS := Aside0.mk (fun (W : World) (hb : Chg (fun x => x = mb ∨ (f i).ownBlock = some x) w2 W) => (show W.cell? ⟨g, 1, none⟩ = some (.map (some mb)) ∧ W.rangeAt ab ao (nums .u8 b) from
    ⟨(blk_cell ((hb.block g (blk_lt H1.out.hd) (fun e => by rcases e with e | e; exact H1.out.mbg e.symm; exact (H1.out.rowg HI.out e).1 rfl)).trans H1.out.hd) 1).trans rfl, fun j v hv => by
      have h1 := HR.out j v hv
      have h2 := hb.block ab (World.block_lt_of_cell? w2 _ h1) (fun e => HNE.out (by rcases e with e | e; exact .inr (.inr (.inl e)); exact .inr (.inr (.inr ⟨i, HI.out, e⟩))))
      rw [← h1]
      unfold World.cell?
      rw [h2]⟩))
  have hlb : (nums .u8 b).length = 512 := by rw [nums_length, HBL.out]
  have hnb : ∀ v ∈ nums .u8 b, v.oneCell' = true := fun v hv => by obtain ⟨y, _, rfl⟩ := List.mem_map.1 hv; rfl
  have hu91 := Try.underlying91
  have hi91 : (Try.prog.info? 91).map (·.size) = some (nums .u8 b).length := by rw [hlb]; kernel_rfl
  generalize hcb : nums .u8 b = cb at *
  have HCB := Aside0.mk hcb
  clear hcb
  have HD := Aside0.mk (H1.out.chg (G := fun _ => False) (Chg.of_below (below_drew1 (Below.refl _ _))) (fun _ _ => id))
  have hlk := HD.out.look i HI.out
  have hlk2 : (Instr.lookup 87 (.map (some mb)) (.int .i64 (i : Int)) false).run Try.prog (w2.alloc (.cells cb.toArray 91)).drew = .ok (f i) (w2.alloc (.cells cb.toArray 91)).drew := (HD.out.chg (w' := (w2.alloc (.cells cb.toArray 91)).drew) (G := fun _ => False) (Chg.of_below (below_alloc (w := w2.drew) (Below.refl _ _) (.cells cb.toArray 91))) (fun _ _ => id)).look i HI.out
  have HSD := Aside0.mk (HS.out w2.drew (Chg.of_below (below_drew1 (Below.refl _ _))))
  have HSA := Aside0.mk (HS.out (w2.drew.alloc (.cells cb.toArray 91)) (Chg.of_below (below_alloc (below_drew1 (Below.refl _ _)) _)))
  have HSC := Aside0.mk (show sec.M w2.drew base (fun _ => False) b cb from ⟨HBL.out, HCB.out.symm⟩)
  refine wp_region_noPanic ?_
  refine wp_region_held_drew (S := (fun W => W.cell? ⟨g, 1, none⟩ = some (.map (some mb)) ∧ W.rangeAt ab ao cb)) (by kernel_rfl) HSD.out (fun hHeld => ?_)
  refine wpAnyH_take (i := 0) (oi := { dst := some 24, op := Go.Op.move (Go.Operand.tmp 0), type := 23, pos := "disk.go:73", after := #[], guard := none }) (v := ?_) rfl (by kernel_rfl) (by kernel_rfl) (by kernel_rfl) (fun _ _ _ h => h) (Or.inl ⟨by rfl, ?_⟩) (by assumption) ?_
  rotate_left
  · intro W hSw; (try dsimp only at hSw); go_simp; first | done | with_reducible rfl
  (try simp only [Act.put, List.setIfInBounds_toArray, List.set_cons_zero, List.set_cons_succ])
  refine wpAnyH_take (i := 1) (oi := { dst := some 25, op := Go.Op.nilCheck (Go.Operand.tmp 24), type := 0, pos := "disk.go:73", after := #[{ on := 0, ground := Go.Ground.data }], guard := none }) (v := ?_) rfl (by kernel_rfl) (by kernel_rfl) (by kernel_rfl) (fun _ _ _ h => h) (Or.inl ⟨by rfl, ?_⟩) (by assumption) ?_
  rotate_left
  · intro W hSw; (try dsimp only at hSw); go_simp; first | done | with_reducible rfl
  (try simp only [Act.put, List.setIfInBounds_toArray, List.set_cons_zero, List.set_cons_succ])
  refine wpAnyH_take (i := 2) (oi := { dst := some 26, op := Go.Op.fieldAddr 89 (Go.Operand.tmp 25) 1, type := 0, pos := "disk.go:73", after := #[{ on := 1, ground := Go.Ground.data }], guard := none }) (v := ?_) rfl (by kernel_rfl) (by kernel_rfl) (by kernel_rfl) (fun _ _ _ h => h) (Or.inl ⟨by rfl, ?_⟩) (by assumption) ?_
  rotate_left
  · intro W hSw; (try dsimp only at hSw); go_simp; first | done | with_reducible rfl
  (try simp only [Act.put, List.setIfInBounds_toArray, List.set_cons_zero, List.set_cons_succ])
  refine wpAnyH_take (i := 3) (oi := { dst := some 27, op := Go.Op.load 87 (Go.Operand.tmp 26), type := 87, pos := "disk.go:73", after := #[{ on := 2, ground := Go.Ground.data }], guard := none }) (v := ?_) rfl (by kernel_rfl) (by kernel_rfl) (by kernel_rfl) (fun _ _ _ h => h) (Or.inl ⟨by rfl, ?_⟩) (by assumption) ?_
  rotate_left
  · intro W hSw; (try dsimp only at hSw); go_simp; first | done | with_reducible rfl
  (try simp only [Act.put, List.setIfInBounds_toArray, List.set_cons_zero, List.set_cons_succ])
  refine wpAnyH_take (i := 4) (oi := { dst := some 28, op := Go.Op.move (Go.Operand.tmp 1), type := 3, pos := "disk.go:73", after := #[], guard := none }) (v := ?_) rfl (by kernel_rfl) (by kernel_rfl) (by kernel_rfl) (fun _ _ _ h => h) (Or.inl ⟨by rfl, ?_⟩) (by assumption) ?_
  rotate_left
  · intro W hSw; (try dsimp only at hSw); go_simp; first | done | with_reducible rfl
  (try simp only [Act.put, List.setIfInBounds_toArray, List.set_cons_zero, List.set_cons_succ])
  refine wpAnyH_take (i := 5) (oi := { dst := some 29, op := Go.Op.move (Go.Operand.tmp 0), type := 23, pos := "disk.go:73", after := #[], guard := none }) (v := ?_) rfl (by kernel_rfl) (by kernel_rfl) (by kernel_rfl) (fun _ _ _ h => h) (Or.inl ⟨by rfl, ?_⟩) (by assumption) ?_
  rotate_left
  · intro W hSw; (try dsimp only at hSw); go_simp; first | done | with_reducible rfl
  (try simp only [Act.put, List.setIfInBounds_toArray, List.set_cons_zero, List.set_cons_succ])
  refine wpAnyH_take (i := 6) (oi := { dst := some 30, op := Go.Op.nilCheck (Go.Operand.tmp 29), type := 0, pos := "disk.go:73", after := #[{ on := 5, ground := Go.Ground.data }], guard := none }) (v := ?_) rfl (by kernel_rfl) (by kernel_rfl) (by kernel_rfl) (fun _ _ _ h => h) (Or.inl ⟨by rfl, ?_⟩) (by assumption) ?_
  rotate_left
  · intro W hSw; (try dsimp only at hSw); go_simp; first | done | with_reducible rfl
  (try simp only [Act.put, List.setIfInBounds_toArray, List.set_cons_zero, List.set_cons_succ])
  refine wpAnyH_take (i := 7) (oi := { dst := some 31, op := Go.Op.fieldAddr 89 (Go.Operand.tmp 30) 1, type := 0, pos := "disk.go:73", after := #[{ on := 6, ground := Go.Ground.data }], guard := none }) (v := ?_) rfl (by kernel_rfl) (by kernel_rfl) (by kernel_rfl) (fun _ _ _ h => h) (Or.inl ⟨by rfl, ?_⟩) (by assumption) ?_
  rotate_left
  · intro W hSw; (try dsimp only at hSw); go_simp; first | done | with_reducible rfl
  (try simp only [Act.put, List.setIfInBounds_toArray, List.set_cons_zero, List.set_cons_succ])
  refine wpAnyH_take (i := 8) (oi := { dst := some 32, op := Go.Op.load 87 (Go.Operand.tmp 31), type := 87, pos := "disk.go:73", after := #[{ on := 7, ground := Go.Ground.data }], guard := none }) (v := ?_) rfl (by kernel_rfl) (by kernel_rfl) (by kernel_rfl) (fun _ _ _ h => h) (Or.inl ⟨by rfl, ?_⟩) (by assumption) ?_
  rotate_left
  · intro W hSw; (try dsimp only at hSw); go_simp; first | done | with_reducible rfl
  (try simp only [Act.put, List.setIfInBounds_toArray, List.set_cons_zero, List.set_cons_succ])
  refine wpAnyH_take (i := 9) (oi := { dst := some 33, op := Go.Op.move (Go.Operand.tmp 1), type := 3, pos := "disk.go:73", after := #[], guard := none }) (v := ?_) rfl (by kernel_rfl) (by kernel_rfl) (by kernel_rfl) (fun _ _ _ h => h) (Or.inl ⟨by rfl, ?_⟩) (by assumption) ?_
  rotate_left
  · intro W hSw; (try dsimp only at hSw); go_simp; first | done | with_reducible rfl
  (try simp only [Act.put, List.setIfInBounds_toArray, List.set_cons_zero, List.set_cons_succ])
  refine wpAnyH_take (i := 11) (oi := { dst := some 35, op := Go.Op.move (Go.Operand.tmp 2), type := 28, pos := "disk.go:73", after := #[], guard := none }) (v := ?_) rfl (by kernel_rfl) (by kernel_rfl) (by kernel_rfl) (fun _ _ _ h => h) (Or.inl ⟨by rfl, ?_⟩) (by assumption) ?_
  rotate_left
  · intro W hSw; (try dsimp only at hSw); go_simp; first | done | with_reducible rfl
  (try simp only [Act.put, List.setIfInBounds_toArray, List.set_cons_zero, List.set_cons_succ])
  refine wpAnyH_take (i := 12) (oi := { dst := some 36, op := Go.Op.sliceToArrayPointer 91 (Go.Operand.tmp 35), type := 0, pos := "disk.go:73", after := #[{ on := 11, ground := Go.Ground.data }], guard := none }) (v := ?_) rfl (by kernel_rfl) (by kernel_rfl) (by kernel_rfl) (fun _ _ _ h => h) (Or.inl ⟨by rfl, ?_⟩) (by assumption) ?_
  rotate_left
  · intro W hSw; (try dsimp only at hSw); go_simp; first | done | with_reducible rfl
  (try simp only [Act.put, List.setIfInBounds_toArray, List.set_cons_zero, List.set_cons_succ])
  refine wpAnyH_take (i := 13) (oi := { dst := some 37, op := Go.Op.load 91 (Go.Operand.tmp 36), type := 91, pos := "disk.go:73", after := #[{ on := 12, ground := Go.Ground.data }], guard := none }) (v := .agg cb.toArray) rfl (by kernel_rfl) (by kernel_rfl) (by kernel_rfl) (fun _ _ _ h => h) (yieldsIf_load_mid (by rfl) 91 (.tmp 36) rfl ab ao rfl cb _ (fun W hSw => hSw.2) hu91 rfl hi91) (by assumption) ?_
  (try simp only [Act.put, List.setIfInBounds_toArray, List.set_cons_zero, List.set_cons_succ])
  refine wpAnyH_ready (rs := [10, 14]) (by kernel_rfl) (by simp) ?_
  refine AllReadyH.cons (o := { dst := some 34, op := Go.Op.lookup 87 (Go.Operand.tmp 32) (Go.Operand.tmp 33) false, type := 86, pos := "disk.go:73", after := #[{ on := 8, ground := Go.Ground.data }, { on := 9, ground := Go.Ground.data }], guard := none }) rfl (fun K hK => ?_) ?_
  · go_simp
    refine hK.out _ _ HSD.out (fun hHeld => ?_)
    clear hK K
    (try simp only [Act.put, List.setIfInBounds_toArray, List.set_cons_zero, List.set_cons_succ])
    refine wpAnyH_ready (rs := [14]) (by kernel_rfl) (by simp) ?_
    refine AllReadyH.cons (o := { dst := some 38, op := Go.Op.buildSlice 86 1 #[(0, Go.Operand.tmp 37)], type := 86, pos := "disk.go:73", after := #[{ on := 13, ground := Go.Ground.data }], guard := none }) rfl (fun K hK => ?_) AllReadyH.nil
    go_simp
    refine hK.out _ (w2.alloc (.cells cb.toArray 91)).drew HSA.out (fun hHeld => ?_)
    clear hK K
    (try simp only [Act.put, List.setIfInBounds_toArray, List.set_cons_zero, List.set_cons_succ])
    refine wpAnyH_ready (rs := [15]) (by kernel_rfl) (by simp) ?_
    refine AllReadyH.cons (o := { dst := some 39, op := Go.Op.call { callee := Go.Callee.builtin Go.Builtin.append, args := #[Go.Operand.tmp 34, Go.Operand.tmp 38], argTypes := #[86, 86] }, type := 86, pos := "disk.go:73", after := #[{ on := 10, ground := Go.Ground.data }, { on := 14, ground := Go.Ground.data }], guard := none }) rfl (fun K hK => ?_) AllReadyH.nil
    (refine Kd.R_append_step sec (w0 := w2.drew) (W := w2.drew) base (by rfl) (.tmp 34) (.tmp 38) 86 91 (.agg (Array.replicate 512 (.int .u8 0))) 512 (by rfl) Try.underlying86 info91 (by simp [sec, Value.cells]) (by decide) (by decide) (f i) (s.W i) b cb (fun x => (f i).ownBlock = some x ∨ w2.drew.heap.size ≤ x) (fun _ => False) (by rfl) (by rfl) HSC.out (fun _ h => h.elim) (fun _ h => .inr h) (Kd.R_mono (HD.out.rows i HI.out) (fun _ h => .inl h)) (Below.refl _ _) (by have := HD.out.gb; have := blk_lt HD.out.hd; omega) (by have h3 : (s.W i).length ≤ s.c := HD.out.wl i HI.out; have := HC.out; omega) ?_)
    intro v1 w3 ho hb hg hat
    obtain ⟨w4, hrun, hown, hgr⟩ := (HD.out.mp.kept hg (fun e => (HD.out.rowg HI.out e.symm).2.1 rfl)).update keyed Try.underlying87 (by have := HD.out.kc; have h2 : k ≤ s.c := this; have := HC.out; unfold maxLen; omega) (key_int (i : Int) (by have := HI.out; omega)) (show asIs v1 = some (.held v1, []) from rfl)
    have HO := Aside0.mk (And.intro ho (And.intro hg (And.intro hat (And.intro hown hgr))))
    have HSB := Aside0.mk (HS.out w3 ((Chg.of_below (below_drew1 (Below.refl _ _))).trans (Chg.of_grown hg (fun k hk => .inr hk)) (fun _ h => .inl h)))
    have HSE := Aside0.mk (HS.out w4 (((Chg.of_below (below_drew1 (Below.refl _ _))).trans (Chg.of_grown hg (fun k hk => .inr hk)) (fun _ h => .inl h)).trans (Chg.of_grown hgr (fun k hk => .inl (Option.some.inj hk).symm)) (fun _ h => .inl h)))
    clear ho hb hg hat hown hgr
    refine hK.out _ _ HSB.out (fun hHeld => ?_)
    clear hK K
    (try simp only [Act.put, List.setIfInBounds_toArray, List.set_cons_zero, List.set_cons_succ])
    refine wpAnyH_ready (rs := [16]) (by kernel_rfl) (by simp) ?_
    refine AllReadyH.cons (o := { dst := none, op := Go.Op.mapUpdate 87 (Go.Operand.tmp 27) (Go.Operand.tmp 28) (Go.Operand.tmp 39), type := 0, pos := "disk.go:73", after := #[{ on := 3, ground := Go.Ground.data }, { on := 4, ground := Go.Ground.data }, { on := 15, ground := Go.Ground.data }, { on := 15, ground := Go.Ground.chain }, { on := 0, ground := Go.Ground.phase }, { on := 1, ground := Go.Ground.phase }, { on := 2, ground := Go.Ground.phase }, { on := 3, ground := Go.Ground.phase }, { on := 4, ground := Go.Ground.phase }, { on := 5, ground := Go.Ground.phase }, { on := 6, ground := Go.Ground.phase }, { on := 7, ground := Go.Ground.phase }, { on := 8, ground := Go.Ground.phase }, { on := 9, ground := Go.Ground.phase }, { on := 10, ground := Go.Ground.phase }, { on := 11, ground := Go.Ground.phase }, { on := 12, ground := Go.Ground.phase }, { on := 13, ground := Go.Ground.phase }, { on := 14, ground := Go.Ground.phase }, { on := 15, ground := Go.Ground.phase }], guard := none }) rfl (fun K hK => ?_) AllReadyH.nil
    go_simp
    refine hK.out _ _ HSE.out (fun hHeld => ?_)
    clear hK K
    (try simp only [Act.put, List.setIfInBounds_toArray, List.set_cons_zero, List.set_cons_succ])
    refine wpAnyH_done (by kernel_rfl) ?_ _
    refine NoPanic.normal ?_
    go_wp2
    go_ret
    exact ⟨rfl, write_end HI.out HX.out HD.out HO.out⟩
  refine AllReadyH.cons (o := { dst := some 38, op := Go.Op.buildSlice 86 1 #[(0, Go.Operand.tmp 37)], type := 86, pos := "disk.go:73", after := #[{ on := 13, ground := Go.Ground.data }], guard := none }) rfl (fun K hK => ?_) AllReadyH.nil
  go_simp
  refine hK.out _ (w2.alloc (.cells cb.toArray 91)).drew HSA.out (fun hHeld => ?_)
  clear hK K
  (try simp only [Act.put, List.setIfInBounds_toArray, List.set_cons_zero, List.set_cons_succ])
  refine wpAnyH_ready (rs := [10]) (by kernel_rfl) (by simp) ?_
  refine AllReadyH.cons (o := { dst := some 34, op := Go.Op.lookup 87 (Go.Operand.tmp 32) (Go.Operand.tmp 33) false, type := 86, pos := "disk.go:73", after := #[{ on := 8, ground := Go.Ground.data }, { on := 9, ground := Go.Ground.data }], guard := none }) rfl (fun K hK => ?_) AllReadyH.nil
  go_simp
  refine hK.out _ (w2.alloc (.cells cb.toArray 91)).drew HSA.out (fun hHeld => ?_)
  clear hK K
  (try simp only [Act.put, List.setIfInBounds_toArray, List.set_cons_zero, List.set_cons_succ])
  refine wpAnyH_ready (rs := [15]) (by kernel_rfl) (by simp) ?_
  refine AllReadyH.cons (o := { dst := some 39, op := Go.Op.call { callee := Go.Callee.builtin Go.Builtin.append, args := #[Go.Operand.tmp 34, Go.Operand.tmp 38], argTypes := #[86, 86] }, type := 86, pos := "disk.go:73", after := #[{ on := 10, ground := Go.Ground.data }, { on := 14, ground := Go.Ground.data }], guard := none }) rfl (fun K hK => ?_) AllReadyH.nil
  (refine Kd.R_append_step sec (w0 := w2.drew) (W := w2.drew) base (by rfl) (.tmp 34) (.tmp 38) 86 91 (.agg (Array.replicate 512 (.int .u8 0))) 512 (by rfl) Try.underlying86 info91 (by simp [sec, Value.cells]) (by decide) (by decide) (f i) (s.W i) b cb (fun x => (f i).ownBlock = some x ∨ w2.drew.heap.size ≤ x) (fun _ => False) (by rfl) (by rfl) HSC.out (fun _ h => h.elim) (fun _ h => .inr h) (Kd.R_mono (HD.out.rows i HI.out) (fun _ h => .inl h)) (Below.refl _ _) (by have := HD.out.gb; have := blk_lt HD.out.hd; omega) (by have h3 : (s.W i).length ≤ s.c := HD.out.wl i HI.out; have := HC.out; omega) ?_)
  intro v1 w3 ho hb hg hat
  obtain ⟨w4, hrun, hown, hgr⟩ := (HD.out.mp.kept hg (fun e => (HD.out.rowg HI.out e.symm).2.1 rfl)).update keyed Try.underlying87 (by have := HD.out.kc; have h2 : k ≤ s.c := this; have := HC.out; unfold maxLen; omega) (key_int (i : Int) (by have := HI.out; omega)) (show asIs v1 = some (.held v1, []) from rfl)
  have HO := Aside0.mk (And.intro ho (And.intro hg (And.intro hat (And.intro hown hgr))))
  have HSB := Aside0.mk (HS.out w3 ((Chg.of_below (below_drew1 (Below.refl _ _))).trans (Chg.of_grown hg (fun k hk => .inr hk)) (fun _ h => .inl h)))
  have HSE := Aside0.mk (HS.out w4 (((Chg.of_below (below_drew1 (Below.refl _ _))).trans (Chg.of_grown hg (fun k hk => .inr hk)) (fun _ h => .inl h)).trans (Chg.of_grown hgr (fun k hk => .inl (Option.some.inj hk).symm)) (fun _ h => .inl h)))
  clear ho hb hg hat hown hgr
  refine hK.out _ _ HSB.out (fun hHeld => ?_)
  clear hK K
  (try simp only [Act.put, List.setIfInBounds_toArray, List.set_cons_zero, List.set_cons_succ])
  refine wpAnyH_ready (rs := [16]) (by kernel_rfl) (by simp) ?_
  refine AllReadyH.cons (o := { dst := none, op := Go.Op.mapUpdate 87 (Go.Operand.tmp 27) (Go.Operand.tmp 28) (Go.Operand.tmp 39), type := 0, pos := "disk.go:73", after := #[{ on := 3, ground := Go.Ground.data }, { on := 4, ground := Go.Ground.data }, { on := 15, ground := Go.Ground.data }, { on := 15, ground := Go.Ground.chain }, { on := 0, ground := Go.Ground.phase }, { on := 1, ground := Go.Ground.phase }, { on := 2, ground := Go.Ground.phase }, { on := 3, ground := Go.Ground.phase }, { on := 4, ground := Go.Ground.phase }, { on := 5, ground := Go.Ground.phase }, { on := 6, ground := Go.Ground.phase }, { on := 7, ground := Go.Ground.phase }, { on := 8, ground := Go.Ground.phase }, { on := 9, ground := Go.Ground.phase }, { on := 10, ground := Go.Ground.phase }, { on := 11, ground := Go.Ground.phase }, { on := 12, ground := Go.Ground.phase }, { on := 13, ground := Go.Ground.phase }, { on := 14, ground := Go.Ground.phase }, { on := 15, ground := Go.Ground.phase }], guard := none }) rfl (fun K hK => ?_) AllReadyH.nil
  go_simp
  refine hK.out _ _ HSE.out (fun hHeld => ?_)
  clear hK K
  (try simp only [Act.put, List.setIfInBounds_toArray, List.set_cons_zero, List.set_cons_succ])
  refine wpAnyH_done (by kernel_rfl) ?_ _
  refine NoPanic.normal ?_
  go_wp2
  go_ret
  exact ⟨rfl, write_end HI.out HX.out HD.out HO.out⟩
end Go.Proofs.Ytddnhcnkjcdfgaa.M
