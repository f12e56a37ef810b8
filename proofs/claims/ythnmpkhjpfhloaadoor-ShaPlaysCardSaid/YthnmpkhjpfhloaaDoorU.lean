import Derived.Test.YthnmpkhjpfhloaaDoorProg
import Derived.Below
import Derived.Deep.Draws
import Derived.Deep.AppendLies
import Derived.Maps.AppendAt
import Derived.OwnWalk
import Derived.Laws.BytesArg
import Derived.Laws.MakeOwn
import Derived.Laws.OwnMore
import Derived.Deep.OwnRows
import Derived.Tactics
import Derived.Lib.ConvBytes
import Derived.Laws.Slices
import Derived.WalkKit
import Derived.KernelRfl
import Derived.RowKit3
import Derived.Deep.LoopGhost
import Derived.Deep.QuietTactic
import Derived.BigQuiet
import Derived.WideLaws
import Derived.Deep.DeepCutAuto
import Derived.Deep.CutBlock
import Derived.Deep.RegionHeld3
import Derived.Laws.Rows
import Derived.Lib.AppendStr
import Derived.ArgAppend
import Derived.Laws.IdiomCopy
import Derived.OrdersHeld
import Derived.Laws.BitsLemmas
import Derived.RowKit
import Derived.Test.YthnmpkhjpfhloaaDoorWWords
import Derived.Test.YthnmpkhjpfhloaaDoorWLast
import Derived.Test.YthnmpkhjpfhloaaDoorWTab
import Derived.Test.YthnmpkhjpfhloaaDoorWFour
import Derived.Test.YthnmpkhjpfhloaaDoorWQPut
import Derived.Test.YthnmpkhjpfhloaaDoorWApart
import Derived.Test.YthnmpkhjpfhloaaDoorWArr
import Derived.Test.YthnmpkhjpfhloaaDoorWZeros
import Derived.Test.YthnmpkhjpfhloaaDoorWFoot
import Derived.Test.YthnmpkhjpfhloaaDoorWKept
import Derived.Test.YthnmpkhjpfhloaaDoorWShare
import Derived.Test.YthnmpkhjpfhloaaDoorWN
import Derived.Test.YthnmpkhjpfhloaaDoorWFootNe
import Derived.Test.YthnmpkhjpfhloaaDoorWAt
import Derived.Test.YthnmpkhjpfhloaaDoorWEqStruct
import Derived.Test.YthnmpkhjpfhloaaDoorWRepsOne
import Derived.Test.YthnmpkhjpfhloaaDoorWInv
import Derived.Test.YthnmpkhjpfhloaaDoorWInvWords
import Derived.Test.YthnmpkhjpfhloaaDoorWGuard
import Derived.Test.YthnmpkhjpfhloaaDoorWNEv
import Derived.Test.YthnmpkhjpfhloaaDoorWMore
import Derived.Laws.BitsAllLaws
import Derived.StillTailTactics
import Derived.Test.YthnmpkhjpfhloaaDoorMs
import Derived.Deep.WholeRow
import Derived.Test.YthnmpkhjpfhloaaDoorOc
import Derived.Test.YthnmpkhjpfhloaaDoorOd
import Derived.Test.YthnmpkhjpfhloaaDoorOe
namespace Go.Proofs.YthnmpkhjpfhloaaDoor.M
open Go.RowKit Go.Proofs.YthnmpkhjpfhloaaDoorW.PrintWords Go.Proofs.YthnmpkhjpfhloaaDoorW.PrintLast Go.Proofs.YthnmpkhjpfhloaaDoorW.PrintMore Go.Proofs.YthnmpkhjpfhloaaDoor.P
set_option linter.unusedVariables false
set_option linter.unusedSimpArgs false
/-! Three hashes beside one another. -/
def ptrs (gs : List Nat) : Array Value := (gs.map (fun g => Value.pointer (some ⟨g, 0, none⟩))).toArray
theorem ptrs_at {gs : List Nat} (hl : gs.length = 3) (o : Nat) (ho : o < 3) : (ptrs gs)[o]? = some (.pointer (some ⟨gs.getD o 0, 0, none⟩)) := by
  simp [ptrs, List.getElem?_eq_getElem (show o < gs.length by omega), List.getD_eq_getElem?_getD]
theorem ptrs_set {gs : List Nat} (p g : Nat) : (ptrs gs).setIfInBounds p (.pointer (some ⟨g, 0, none⟩)) = ptrs (gs.set p g) := by simp [ptrs, List.map_set]
theorem vals_at {vs : List Value} (hl : vs.length = 3) (o : Nat) (ho : o < 3) : vs.toArray[o]? = some (vs.getD o (.slice none 0 0)) := by
  simp [List.getElem?_eq_getElem (show o < vs.length by omega), List.getD_eq_getElem?_getD]
theorem getD_set_eq {α : Type} (l : List α) (p : Nat) (x d : α) (h : p < l.length) : (l.set p x).getD p d = x := by simp [List.getD_eq_getElem?_getD, h]
theorem getD_set_ne {α : Type} (l : List α) (p o : Nat) (x d : α) (h : o ≠ p) : (l.set p x).getD o d = l.getD o d := by
  simp [List.getD_eq_getElem?_getD, List.getElem?_set, Ne.symm h]
structure Pl (w0 : World) (nh nb : Nat) (ok : Nat → Prop) (gs : List Nat) (vs : List Value) (hm bm : List (List Int)) (w : World) : Prop where
  hb : w.heap[nh]? = some (.cells (ptrs gs) 40 (0, 0))
  bb : w.heap[nb]? = some (.cells vs.toArray 41 (0, 0))
  gl : gs.length = 3
  vl : vs.length = 3
  hl : hm.length = 3
  bl : bm.length = 3
  h : ∀ o, o < 3 → HashAt w (gs.getD o 0) (hm.getD o [])
  r : ∀ o, o < 3 → Kd.R (Kd.int .u8) 5 w w0.heap.size ok (vs.getD o (.slice none 0 0)) (bm.getD o [])
  ne : ∀ o p, o < 3 → p < 3 → o ≠ p → gs.getD o 0 ≠ gs.getD p 0
  ge : ∀ o, o < 3 → w0.heap.size ≤ gs.getD o 0
  nh0 : w0.heap.size ≤ nh
  nb0 : w0.heap.size ≤ nb
  pos : 0 < w0.heap.size
  tab : Tab w0
  bel : Below w0.heap.size w0 w
section
variable {w0 w w' : World} {nh nb : Nat} {ok : Nat → Prop} {gs : List Nat} {vs : List Value} {hm bm : List (List Int)}
theorem Pl.below (h : Pl w0 nh nb ok gs vs hm bm w) (hb : Below w.heap.size w w') : Pl w0 nh nb ok gs vs hm bm w' :=
  ⟨blk_below h.hb hb, blk_below h.bb hb, h.gl, h.vl, h.hl, h.bl, fun o ho => (h.h o ho).below hb, fun o ho => Kd.R_below (h.r o ho) hb, h.ne, h.ge, h.nh0, h.nb0, h.pos, h.tab, below_step h.bel hb⟩
theorem Pl.mono {ok' : Nat → Prop} (h : Pl w0 nh nb ok gs vs hm bm w) (hk : ∀ k, ok k → ok' k) : Pl w0 nh nb ok' gs vs hm bm w :=
  ⟨h.hb, h.bb, h.gl, h.vl, h.hl, h.bl, h.h, fun o ho => Kd.R_mono (h.r o ho) hk, h.ne, h.ge, h.nh0, h.nb0, h.pos, h.tab, h.bel⟩
/-- What is new is none of the rows. -/
theorem Pl.apart (h : Pl w0 nh nb ok gs vs hm bm w) (g : Nat) (hg : w.heap.size ≤ g) : Pl w0 nh nb (fun k => k ≠ g) gs vs hm bm w :=
  ⟨h.hb, h.bb, h.gl, h.vl, h.hl, h.bl, h.h, fun o ho => Kd.R_mono (Kd.R_bound (h.r o ho)) (fun k hk => by have := hk.2.2.1; omega), h.ne, h.ge, h.nh0, h.nb0, h.pos, h.tab, h.bel⟩
theorem Pl.tabw (h : Pl w0 nh nb ok gs vs hm bm w) : Tab w := h.tab.below h.bel
theorem hash_cells {w : World} {g : Nat} {m : List Int} (h : HashAt w g m) : ∃ cs, w.heap[g]? = some (.cells cs 61 (0, 0)) := by
  obtain ⟨a, b, h1, _⟩ := h
  exact ⟨_, h1⟩
theorem Pl.g_pos (h : Pl w0 nh nb ok gs vs hm bm w) (o : Nat) (ho : o < 3) : gs.getD o 0 ≠ 0 := by have := h.ge o ho; have := h.pos; omega
/-- A row of bytes is none of the blocks beside. -/
theorem Pl.row_ne (h : Pl w0 nh nb ok gs vs hm bm w) (o p : Nat) (ho : o < 3) (hp : p < 3) : some (gs.getD p 0) ≠ (vs.getD o (.slice none 0 0)).ownBlock := by
  obtain ⟨cs, hc⟩ := hash_cells (h.h p hp)
  exact Kd.R_ne (h.r o ho) hc (by decide)
/-- Bytes come to one hash. -/
theorem Pl.write (h : Pl w0 nh nb ok gs vs hm bm w) {o : Nat} (ho : o < 3) {m' : List Int} (hH : HashAt w' (gs.getD o 0) m') (hb : But (gs.getD o 0) w w') : Pl w0 nh nb ok gs vs (hm.set o m') bm w' := by
  obtain ⟨cs, hc⟩ := hash_cells (h.h o ho)
  refine ⟨(hb.block nh (blk_lt h.hb) (blk_ne h.hb hc (by decide))).trans h.hb, (hb.block nb (blk_lt h.bb) (blk_ne h.bb hc (by decide))).trans h.bb, h.gl, h.vl, by rw [List.length_set]; exact h.hl, h.bl, fun p hp => ?_, fun p hp => ?_, h.ne, h.ge, h.nh0, h.nb0, h.pos, h.tab, But.below h.bel hb (h.ge o ho)⟩
  · by_cases e : p = o
    · subst e
      rw [getD_set_eq _ _ _ _ (by rw [h.hl]; exact hp)]
      exact hH
    · rw [getD_set_ne _ _ _ _ _ e]
      exact (h.h p hp).but hb (h.ne p o hp ho e)
  · refine Kd.R_step (Kd.R_flat (ok' := fun k => ok k ∧ (vs.getD p (.slice none 0 0)).ownBlock = some k) (fun h => h) (h.r p hp) (fun k hk ho => ⟨ho, hk⟩)) (fun k hk hlt => hb.block k hlt (fun e => ?_)) |> fun r => Kd.R_mono r (fun k hk => hk.1)
    exact h.row_ne p o hp ho (by rw [hk.2, e])
/-- A hash is put into the array of hashes. -/
theorem Pl.put (h : Pl w0 nh nb ok gs vs hm bm w) {p g : Nat} (hp : p < 3) {m' : List Int} (hH : HashAt w g m') (hg : ∀ o, o < 3 → gs.getD o 0 ≠ g) (hg0 : w0.heap.size ≤ g) :
    Pl w0 nh nb ok (gs.set p g) vs (hm.set p m') bm (w.setCell ⟨nh, p, none⟩ (.pointer (some ⟨g, 0, none⟩))) := by
  have hset := blk_set h.hb p (.pointer (some ⟨g, 0, none⟩))
  rw [ptrs_set] at hset
  have far : ∀ k, k ≠ nh → (w.setCell ⟨nh, p, none⟩ (.pointer (some ⟨g, 0, none⟩))).heap[k]? = w.heap[k]? := fun k hk => Below.heap_setCell w ⟨nh, p, none⟩ _ k hk
  have hfar : ∀ {q : Nat} {m : List Int}, HashAt w q m → HashAt (w.setCell ⟨nh, p, none⟩ (.pointer (some ⟨g, 0, none⟩))) q m := fun {q m} hq => by
    obtain ⟨cs, hc⟩ := hash_cells hq
    obtain ⟨a, b, h1, h2⟩ := hq
    exact ⟨a, b, (far q (blk_ne hc h.hb (by decide))).trans h1, h2⟩
  refine ⟨hset, (far nb (blk_ne h.bb h.hb (by decide))).trans h.bb, by rw [List.length_set]; exact h.gl, h.vl, by rw [List.length_set]; exact h.hl, h.bl, fun o ho => ?_, fun o ho => ?_, fun o q ho hq hne => ?_, fun o ho => ?_, h.nh0, h.nb0, h.pos, h.tab, h.bel.setCell (p := ⟨nh, p, none⟩) h.nh0 _⟩
  · by_cases e : o = p
    · subst e
      rw [getD_set_eq _ _ _ _ (by rw [h.gl]; exact ho), getD_set_eq _ _ _ _ (by rw [h.hl]; exact ho)]
      exact hfar hH
    · rw [getD_set_ne _ _ _ _ _ e, getD_set_ne _ _ _ _ _ e]
      exact hfar (h.h o ho)
  · exact Kd.R_mono (Kd.R_set (h.r o ho) h.hb (by intro q hq; simp [Kd.int, Kd.scalar] at hq; omega) p _) (fun _ hk => hk)
  · by_cases e : o = p
    · subst e
      rw [getD_set_eq _ _ _ _ (by rw [h.gl]; exact ho), getD_set_ne _ _ _ _ _ (Ne.symm hne)]
      exact (hg q hq).symm
    · rw [getD_set_ne _ _ _ _ _ e]
      by_cases e2 : q = p
      · subst e2
        rw [getD_set_eq _ _ _ _ (by rw [h.gl]; exact hq)]
        exact hg o ho
      · rw [getD_set_ne _ _ _ _ _ e2]
        exact h.ne o q ho hq hne
  · by_cases e : o = p
    · subst e
      rw [getD_set_eq _ _ _ _ (by rw [h.gl]; exact ho)]
      exact hg0
    · rw [getD_set_ne _ _ _ _ _ e]
      exact h.ge o ho
/-- A row of bytes is put into the array of rows. -/
theorem Pl.lay (h : Pl w0 nh nb ok gs vs hm bm w) {p : Nat} {v : Value} (hp : p < 3) {m' : List Int} (hR : Kd.R (Kd.int .u8) 5 w w0.heap.size ok v m') :
    Pl w0 nh nb ok gs (vs.set p v) hm (bm.set p m') (w.setCell ⟨nb, p, none⟩ v) := by
  have hset := blk_set h.bb p v
  rw [List.setIfInBounds_toArray] at hset
  have far : ∀ k, k ≠ nb → (w.setCell ⟨nb, p, none⟩ v).heap[k]? = w.heap[k]? := fun k hk => Below.heap_setCell w ⟨nb, p, none⟩ _ k hk
  have hR' : ∀ {u : Value} {m : List Int}, Kd.R (Kd.int .u8) 5 w w0.heap.size ok u m → Kd.R (Kd.int .u8) 5 (w.setCell ⟨nb, p, none⟩ v) w0.heap.size ok u m := fun {u m} hr => Kd.R_set hr h.bb (by intro q hq; simp [Kd.int, Kd.scalar] at hq; omega) p _
  refine ⟨(far nh (blk_ne h.hb h.bb (by decide))).trans h.hb, hset, h.gl, by rw [List.length_set]; exact h.vl, h.hl, by rw [List.length_set]; exact h.bl, fun o ho => ?_, fun o ho => ?_, h.ne, h.ge, h.nh0, h.nb0, h.pos, h.tab, h.bel.setCell (p := ⟨nb, p, none⟩) h.nb0 _⟩
  · obtain ⟨cs, hc⟩ := hash_cells (h.h o ho)
    obtain ⟨a, b, h1, h2⟩ := h.h o ho
    exact ⟨a, b, (far _ (blk_ne hc h.bb (by decide))).trans h1, h2⟩
  · by_cases e : o = p
    · subst e
      rw [getD_set_eq _ _ _ _ (by rw [h.vl]; exact ho), getD_set_eq _ _ _ _ (by rw [h.bl]; exact ho)]
      exact hR' hR
    · rw [getD_set_ne _ _ _ _ _ e, getD_set_ne _ _ _ _ _ e]
      exact hR' (h.r o ho)
/-- Another row of bytes is written. -/
theorem Pl.other {gi : Nat} (h : Pl w0 nh nb (fun k => k ≠ gi) gs vs hm bm w) {cs : Array Value} (hc : w.heap[gi]? = some (.cells cs 5 (0, 0))) (h0 : w0.heap.size ≤ gi) (hg : w.grownBy w' (some gi)) : Pl w0 nh nb (fun k => k ≠ gi) gs vs hm bm w' := by
  refine ⟨blk_grown h.hb hg (by have := blk_ne h.hb hc (by decide); simpa using this), blk_grown h.bb hg (by have := blk_ne h.bb hc (by decide); simpa using this), h.gl, h.vl, h.hl, h.bl, fun o ho => ?_, fun o ho => Kd.R_grown (h.r o ho) hg (fun k hk => by simpa using hk), h.ne, h.ge, h.nh0, h.nb0, h.pos, h.tab, h.bel.grown hg h.bel.size (fun k hk => by cases hk; exact h0)⟩
  · obtain ⟨c2, hc2⟩ := hash_cells (h.h o ho)
    exact (h.h o ho).grown hg (by have := blk_ne hc2 hc (by decide); simpa using this)
end
/-! Where it begins. -/
def iniA (gs : List Nat) : Array Value := (gs.map (fun g => Value.pointer (some ⟨g, 0, none⟩)) ++ List.replicate (3 - gs.length) (Value.pointer none)).toArray
theorem iniA_set (gs : List Nat) (g : Nat) (h : gs.length < 3) : (iniA gs).setIfInBounds gs.length (.pointer (some ⟨g, 0, none⟩)) = iniA (gs ++ [g]) := by
  unfold iniA
  rw [List.setIfInBounds_toArray, List.set_append_right _ _ (by simp)]
  obtain ⟨n, hn⟩ : ∃ n, 3 - gs.length = n + 1 := ⟨3 - gs.length - 1, by omega⟩
  simp [hn, List.replicate_succ, show 3 - (gs.length + 1) = n by omega]
structure Ini (w0 : World) (nh nb : Nat) (gs : List Nat) (w : World) : Prop where
  hb : w.heap[nh]? = some (.cells (iniA gs) 40 (0, 0))
  bb : w.heap[nb]? = some (.cells #[.slice none 0 0, .slice none 0 0, .slice none 0 0] 41 (0, 0))
  gl : gs.length ≤ 3
  h : ∀ o, o < gs.length → HashAt w (gs.getD o 0) []
  ne : ∀ o p, o < gs.length → p < gs.length → o ≠ p → gs.getD o 0 ≠ gs.getD p 0
  ge : ∀ o, o < gs.length → w0.heap.size ≤ gs.getD o 0
  nh0 : w0.heap.size ≤ nh
  nb0 : w0.heap.size ≤ nb
  pos : 0 < w0.heap.size
  tab : Tab w0
  bel : Below w0.heap.size w0 w
theorem getD_snoc_lt {α : Type} (l : List α) (x d : α) (o : Nat) (h : o < l.length) : (l ++ [x]).getD o d = l.getD o d := by simp [List.getD_eq_getElem?_getD, List.getElem?_append_left h]
theorem getD_snoc_eq {α : Type} (l : List α) (x d : α) : (l ++ [x]).getD l.length d = x := by simp [List.getD_eq_getElem?_getD]
theorem Ini.step {w0 w w1 : World} {nh nb g : Nat} {gs : List Nat} (h : Ini w0 nh nb gs w) (hl : gs.length < 3) (hb : Below w.heap.size w w1) (hH : HashAt w1 g []) (hg : w.heap.size ≤ g) :
    Ini w0 nh nb (gs ++ [g]) (w1.setCell ⟨nh, gs.length, none⟩ (.pointer (some ⟨g, 0, none⟩))) := by
  have h1 := blk_below h.hb hb
  have hset := blk_set h1 gs.length (.pointer (some ⟨g, 0, none⟩))
  rw [iniA_set gs g hl] at hset
  have far : ∀ k, k ≠ nh → (w1.setCell ⟨nh, gs.length, none⟩ (.pointer (some ⟨g, 0, none⟩))).heap[k]? = w1.heap[k]? := fun k hk => Below.heap_setCell w1 ⟨nh, gs.length, none⟩ _ k hk
  have hfar : ∀ {q : Nat} {m : List Int}, HashAt w1 q m → HashAt (w1.setCell ⟨nh, gs.length, none⟩ (.pointer (some ⟨g, 0, none⟩))) q m := fun {q m} hq => by
    obtain ⟨cs, hc⟩ := hash_cells hq
    obtain ⟨a, b, h2, h3⟩ := hq
    exact ⟨a, b, (far q (blk_ne hc h1 (by decide))).trans h2, h3⟩
  refine ⟨hset, (far nb (blk_ne h.bb h.hb (by decide))).trans (blk_below h.bb hb), by rw [List.length_append]; exact hl, fun o ho => ?_, fun o p ho hp hne => ?_, fun o ho => ?_, h.nh0, h.nb0, h.pos, h.tab, (below_step h.bel hb).setCell (p := ⟨nh, gs.length, none⟩) h.nh0 _⟩
  · rw [List.length_append, List.length_singleton] at ho
    by_cases e : o = gs.length
    · subst e
      rw [getD_snoc_eq]
      exact hfar hH
    · rw [getD_snoc_lt _ _ _ _ (by omega)]
      exact hfar ((h.h o (by omega)).below hb)
  · rw [List.length_append, List.length_singleton] at ho hp
    by_cases e : o = gs.length
    · subst e
      rw [getD_snoc_eq, getD_snoc_lt _ _ _ _ (by omega)]
      have := (h.h p (by omega)).lt
      omega
    · rw [getD_snoc_lt _ _ _ _ (by omega)]
      by_cases e2 : p = gs.length
      · subst e2
        rw [getD_snoc_eq]
        have := (h.h o (by omega)).lt
        omega
      · rw [getD_snoc_lt _ _ _ _ (by omega)]
        exact h.ne o p (by omega) (by omega) hne
  · rw [List.length_append, List.length_singleton] at ho
    by_cases e : o = gs.length
    · subst e
      rw [getD_snoc_eq]
      have := h.bel.size
      omega
    · rw [getD_snoc_lt _ _ _ _ (by omega)]
      exact h.ge o (by omega)
theorem Ini.all {w0 w : World} {nh nb : Nat} {gs : List Nat} (h : Ini w0 nh nb gs w) (hl : gs.length = 3) : Pl w0 nh nb (fun _ => True) gs [.slice none 0 0, .slice none 0 0, .slice none 0 0] [[], [], []] [[], [], []] w := by
  refine ⟨by have := h.hb; rwa [show iniA gs = ptrs gs by simp [iniA, ptrs, hl]] at this, h.bb, hl, rfl, rfl, rfl, fun o ho => ?_, fun o ho => ?_, fun o p ho hp => h.ne o p (by omega) (by omega), fun o ho => h.ge o (by omega), h.nh0, h.nb0, h.pos, h.tab, h.bel⟩
  · have := h.h o (by omega)
    match o, ho with
    | 0, _ => exact this
    | 1, _ => exact this
    | 2, _ => exact this
  · match o, ho with
    | 0, _ => exact Kd.R_nil _ _ _ _ _
    | 1, _ => exact Kd.R_nil _ _ _ _ _
    | 2, _ => exact Kd.R_nil _ _ _ _ _
/-- A step of the script. -/
abbrev KS : Kd (Int × Int × Int × List Int) := Kd.pair (Kd.int .i64) (Kd.pair (Kd.int .i64) (Kd.pair (Kd.int .i64) (Kd.slice 5 (Kd.int .u8))))
theorem KS_at {w : World} {A : Option Addr} {n : Nat} {xs : List (Int × Int × Int × List Int)} (h : KS.C w A n xs) (i : Nat) (hi : i < n) :
    ∃ (ad : Addr) (B : Option Addr) (c : Nat), A = some ad ∧ w.cell? (ad.add (i * 4)) = some (.int .i64 (xs.getD i (0, 0, 0, [])).1) ∧ w.cell? ⟨(ad.add (i * 4)).block, (ad.add (i * 4)).off + 1, none⟩ = some (.int .i64 (xs.getD i (0, 0, 0, [])).2.1) ∧
      w.cell? ⟨(ad.add (i * 4)).block, (ad.add (i * 4)).off + 2, none⟩ = some (.int .i64 (xs.getD i (0, 0, 0, [])).2.2.1) ∧ w.cell? ⟨(ad.add (i * 4)).block, (ad.add (i * 4)).off + 3, none⟩ = some (.slice B (xs.getD i (0, 0, 0, [])).2.2.2.length c) ∧
      (xs.getD i (0, 0, 0, [])).2.2.2.length ≤ c ∧ (Kd.int .u8).C w B (xs.getD i (0, 0, 0, [])).2.2.2.length (xs.getD i (0, 0, 0, [])).2.2.2 := by
  obtain ⟨ad, c, e, hl, hk, hc⟩ := ReadsRow.get_ h (0, 0, 0, []) (i : Int) (by omega) (by omega)
  rw [Int.toNat_natCast] at hk hc
  obtain ⟨c0, c1, rfl, h0, c2, c3, rfl, h2, c4, c5, rfl, h4, B, cB, rfl, hle, hC⟩ := hk
  have e0 : c0 = _ := h0
  have e2 : c2 = _ := h2
  have e4 : c4 = _ := h4
  subst e0 e2 e4
  refine ⟨ad, B, cB, e, ?_, ?_, ?_, ?_, hle, hC⟩
  · exact hc 0 _ rfl
  · have := hc 1 _ rfl
    rwa [show i * KS.sz + 1 = i * 4 + 1 from rfl, add_field ad (i * 4) 1 (by decide)] at this
  · have := hc 2 _ rfl
    rwa [show i * KS.sz + 2 = i * 4 + 2 from rfl, add_field ad (i * 4) 2 (by decide)] at this
  · have := hc 3 _ rfl
    rwa [show i * KS.sz + 3 = i * 4 + 3 from rfl, add_field ad (i * 4) 3 (by decide)] at this
theorem place_calls (x : Int) (W : World) : Calls Tryd.prog 19 #[.int .i64 x] W fun e w' => e = .returned (.int .i64 (if Int.tmod x 3 < 0 then Int.tmod x 3 + 3 else Int.tmod x 3)) ∧ ∃ n, w' = W.drewN n := by
  have h3 := tmod_bound x 3 (by decide)
  have e : kilnlaw2_place.f x = some (if Int.tmod x 3 < 0 then Int.tmod x 3 + 3 else Int.tmod x 3) := by
    unfold kilnlaw2_place.f
    by_cases h : Int.tmod x 3 < 0
    · rw [if_pos h, if_pos h, show wrap64 (Int.tmod x 3 + 3) = Int.tmod x 3 + 3 by unfold wrap64; omega]
    · rw [if_neg h, if_neg h]
  exact (kilnlaw2_place.calls x _ W e).mono fun _ _ h => ⟨h.1, h.2.out⟩
theorem place_nat (x : Int) : ∃ o : Nat, o < 3 ∧ ∀ W, Calls Tryd.prog 19 #[.int .i64 x] W fun e w' => e = .returned (.int .i64 (o : Int)) ∧ ∃ n, w' = W.drewN n := by
  have h3 := tmod_bound x 3 (by decide)
  obtain ⟨o, ho⟩ : ∃ o : Nat, (o : Int) = if Int.tmod x 3 < 0 then Int.tmod x 3 + 3 else Int.tmod x 3 := ⟨(if Int.tmod x 3 < 0 then Int.tmod x 3 + 3 else Int.tmod x 3).toNat, by split <;> omega⟩
  refine ⟨o, by split at ho <;> omega, fun W => ?_⟩
  rw [ho]
  exact place_calls x W
theorem lens_set {hm : List (List Int)} {p left N : Nat} {m : List Int} (hl : hm.length = 3) (h : ∀ o, o < 3 → (hm.getD o []).length + left ≤ N) (h2 : m.length + left ≤ N) (hp : p < 3) : ∀ o, o < 3 → ((hm.set p m).getD o []).length + left ≤ N := by
  intro o ho
  by_cases e : o = p
  · subst e
    rw [getD_set_eq _ _ _ _ (by omega)]
    exact h2
  · rw [getD_set_ne _ _ _ _ _ e]
    exact h o ho
/-- A copy of one hash is put in the place of another, its bytes with it. -/
theorem Pl.both {w0 w : World} {nh nb : Nat} {ok : Nat → Prop} {gs : List Nat} {vs : List Value} {hm : List (List Int)} (h : Pl w0 nh nb ok gs vs hm hm w) {p g : Nat} (hp : p < 3) {m' : List Int} {v : Value} (hH : HashAt w g m') (hg : ∀ o, o < 3 → gs.getD o 0 ≠ g) (hg0 : w0.heap.size ≤ g)
    (hR : v = .slice none 0 0 ∧ m' = [] ∨ ∃ o, o < 3 ∧ vs.getD o (.slice none 0 0) = v ∧ hm.getD o [] = m') : Pl w0 nh nb ok (gs.set p g) (vs.set p v) (hm.set p m') (hm.set p m') ((w.setCell ⟨nh, p, none⟩ (.pointer (some ⟨g, 0, none⟩))).setCell ⟨nb, p, none⟩ v) := by
  have P1 := h.put hp hH hg hg0
  refine P1.lay hp ?_
  rcases hR with ⟨rfl, rfl⟩ | ⟨o, ho, rfl, rfl⟩
  · exact Kd.R_nil _ _ _ _ _
  · exact P1.r o ho
theorem Pl.flip {w0 w : World} {nh nb gi n c : Nat} {gs : List Nat} {vs : List Value} {hm bm : List (List Int)} {cur : List Int} (h : Pl w0 nh nb (fun k => k ≠ gi) gs vs hm bm w) (hR : Kd.R (Kd.int .u8) 5 w w0.heap.size (fun k => k = gi) (.slice (some ⟨gi, 0, none⟩) n c) cur) (j : Nat) (x : Int) :
    Kd.R (Kd.int .u8) 5 (w.setCell ⟨gi, j, none⟩ (.int .u8 x)) w0.heap.size (fun k => k = gi) (.slice (some ⟨gi, 0, none⟩) n c) (cur.set j x) ∧ Pl w0 nh nb (fun k => k ≠ gi) gs vs hm bm (w.setCell ⟨gi, j, none⟩ (.int .u8 x)) := by
  obtain ⟨rfl, _⟩ := Kd.R_reads' hR
  obtain ⟨cs, hc⟩ := Kd.R_typed hR gi rfl
  have hp := Kd.R_put hR (j : Int) x
  rw [Int.toNat_natCast] at hp
  exact ⟨hp.1, h.other hc (Kd.R_base hR gi rfl) hp.2⟩
end Go.Proofs.YthnmpkhjpfhloaaDoor.M

namespace Go.Proofs.YthnmpkhjpfhloaaDoor.M
open Go.RowKit Go.Proofs.YthnmpkhjpfhloaaDoorW.PrintWords Go.Proofs.YthnmpkhjpfhloaaDoorW.PrintLast Go.Proofs.YthnmpkhjpfhloaaDoorW.PrintMore Go.Proofs.YthnmpkhjpfhloaaDoor.P
set_option linter.unusedVariables false
set_option linter.unusedSimpArgs false
set_option maxHeartbeats 8000000 in
set_option maxRecDepth 100000 in
set_option pp.deepTerms true in
set_option pp.maxSteps 1000000 in
theorem plays_core (A0 : Option Addr) (c0 : Nat) (l : List (Int × Int × Int × List Int)) (w : World) (hT : Tab w) (hC : KS.C w A0 l.length l) (hc : l.length ≤ c0) :
    Calls Tryd.prog 5 #[.slice A0 l.length c0] w fun e w' => e = .returned (.bool true) ∧ Below w.heap.size w w' := by
  have HPOS := Aside0.mk (show 0 < w.heap.size by have h_ := World.block_lt_of_cell? w _ (hT 0 (by decide)); omega)
  have HC := Aside0.mk hC
  have HT := Aside0.mk hT
  have HL := Aside0.mk hC.2.1
  have HB := Aside0.mk (Below.refl w.heap.size w)
  have HTW := Aside0.mk hT
  clear hT hC hc
  go_enter Tryd.func5, Tryd.ntmps5
  go_wp2_with (go_at_call 14; (with_reducible refine (told_calls _ HT.out).mono ?_); rintro e w2 ⟨rfl, hb⟩; replace HB := Aside0.mk (below_step HB.out hb); clear hb HT)
  have HI := Aside0.mk (show Ini w w2.heap.size (w2.heap.size + 1) [] ((w2.alloc (.cells #[Value.pointer none, Value.pointer none, Value.pointer none] 40)).alloc (.cells #[Value.slice none 0 0, Value.slice none 0 0, Value.slice none 0 0] 41)) from
    ⟨blk_below (heap_alloc_new w2 _) (below_alloc (Below.refl _ _) _), by have := heap_alloc_new (w2.alloc (.cells #[Value.pointer none, Value.pointer none, Value.pointer none] 40)) (.cells #[Value.slice none 0 0, Value.slice none 0 0, Value.slice none 0 0] 41); simpa using this, by decide, fun o ho => absurd ho (Nat.not_lt_zero _), fun o p ho => absurd ho (Nat.not_lt_zero _), fun o ho => absurd ho (Nat.not_lt_zero _), HB.out.size, Nat.le_succ_of_le HB.out.size, HPOS.out, HTW.out, below_alloc (below_alloc HB.out _) _⟩)
  clear HB
  generalize (w2.alloc (.cells #[Value.pointer none, Value.pointer none, Value.pointer none] 40)).alloc (.cells #[Value.slice none 0 0, Value.slice none 0 0, Value.slice none 0 0] 41) = w3 at HI ⊢
  generalize w2.heap.size + 1 = nb at HI ⊢
  generalize w2.heap.size = nh at HI ⊢
  clear w2
  go_loopg [5] 3 (fun k v5 wr => ∃ (gs : List Nat), v5 = .int .i64 gs.length ∧ Aside0 (gs.length + k = 3) ∧ Aside0 (Ini w nh nb gs wr))
  case atStart => exact ⟨[], rfl, ⟨rfl⟩, HI⟩
  case round =>
    clear HI
    obtain ⟨gs, rfl, HG, HI⟩ := hrel
    by_cases hi : gs.length < 3
    · have hi1 : (gs.length : Int) < 3 := by omega
      have hi0 : (0 : Int) ≤ (gs.length : Int) := by omega
      have HIL := Aside0.mk hi
      have hiw : wrap64 ((gs.length : Int) + 1) = ((gs.length + 1 : Nat) : Int) := by unfold wrap64; omega
      generalize hgl : gs.length = n at *
      have HGL := Aside0.mk hgl
      clear hgl hi
      have Hcell := Aside0.mk (fun (W : World) (h : Ini w nh nb gs W) => (show W.cell? ⟨nh, n, none⟩ = some (.pointer none) ∧ W.frozen? ⟨nh, n, none⟩ = false ∧ nh < W.heap.size from ⟨by
        rw [blk_cell h.hb, ← HGL.out]
        obtain ⟨m, hm⟩ : ∃ m, 3 - gs.length = m + 1 := ⟨3 - gs.length - 1, by have := HIL.out; have := HGL.out; omega⟩
        unfold iniA
        rw [List.getElem?_toArray, List.getElem?_append_right (by simp)]
        simp [hm, List.replicate_succ], blk_frozen h.hb n, blk_lt h.hb⟩))
      go_wp2_with (go_at_call 9; (with_reducible refine (new_calls _).mono ?_); rintro e w4 ⟨g, rfl, hg, hH, hb⟩; have H4 := Aside0.mk (And.intro hH (And.intro hg hb)); have hcell := (Hcell.out _ HI.out); have hcellx : w4.cell? ⟨nh, n, none⟩ = some (.pointer none) := (hb.cell hcell.2.2).trans hcell.1; have hfr : w4.frozen? ⟨nh, n, none⟩ = false := (hb.frozen hcell.2.2).trans hcell.2.1; clear hH hg hb hcell)
      go_roundg (gk - 1)
      case measure => (have := HG.out; have := HIL.out; omega)
      case rel => exact ⟨gs ++ [g], by simp [HGL.out], ⟨by rw [List.length_append, List.length_singleton]; have := HG.out; have := HGL.out; have := HIL.out; omega⟩, ⟨HGL.out ▸ HI.out.step (by rw [HGL.out]; exact HIL.out) H4.out.2.2 H4.out.1 H4.out.2.1⟩⟩
    · have hi1 : ¬ ((gs.length : Int) < 3) := by omega
      have HG3 := Aside0.mk (show gs.length = 3 by have := HG.out; omega)
      have HS := Aside0.mk (HI.out.all HG3.out)
      clear hi HI HG HG3
      generalize gs.length = n at *
      go_wp2
      have HM := Aside0.mk (show min l.length 80 ≤ 80 from Nat.min_le_right _ _)
      generalize hMM : min l.length 80 = M at *
      have HMM := Aside0.mk hMM
      clear hMM
      go_loopg [6, 7] M (fun k v6 v7 wr => ∃ (gs : List Nat) (vs : List Value) (hm : List (List Int)) (left i : Nat), v6 = .int .i64 left ∧ v7 = .int .i64 i ∧ Aside0 (i + k = M) ∧ Aside0 (left ≤ 70000) ∧ Aside0 (∀ o, o < 3 → (hm.getD o []).length + left ≤ 70000) ∧ Aside0 (Pl w nh nb (fun _ => True) gs vs hm hm wr))
      case atStart => exact ⟨gs, _, _, 70000, 0, rfl, rfl, ⟨Nat.zero_add _⟩, ⟨Nat.le_refl _⟩, ⟨fun o ho => by match o, ho with | 0, _ => decide | 1, _ => decide | 2, _ => decide⟩, HS⟩
      case round =>
        clear HS
        clear gs
        obtain ⟨gs, vs, hm, left, i, rfl, rfl, HI, HLE, HLM, HS⟩ := hrel
        by_cases hi : i < M
        · have HIM := Aside0.mk hi
          have hi1 : (i : Int) < (l.length : Int) := by have := HMM.out; omega
          have hi2 : (i : Int) < 80 := by have := HM.out; omega
          have hiw : wrap64 ((i : Int) + 1) = ((i + 1 : Nat) : Int) := by have := HM.out; unfold wrap64; omega
          obtain ⟨adc, B, cB, rfl, h1_, h2_, h3_, h4_, hle_, hCB_⟩ := KS_at HC.out i (by have := HMM.out; omega)
          generalize l.getD i (0, 0, 0, []) = x at h1_ h2_ h3_ h4_ hle_ hCB_
          obtain ⟨kd, of_, to_, b⟩ := x
          dsimp only at h1_ h2_ h3_ h4_ hle_ hCB_
          have q1 : wr.cell? (adc.add (i * 4)) = some (.int .i64 kd) := (HS.out.bel.cell (World.block_lt_of_cell? w _ h1_)).trans h1_
          have q2 : wr.cell? ⟨(adc.add (i * 4)).block, (adc.add (i * 4)).off + 1, none⟩ = some (.int .i64 of_) := (HS.out.bel.cell (World.block_lt_of_cell? w _ h2_)).trans h2_
          have q3 : wr.cell? ⟨(adc.add (i * 4)).block, (adc.add (i * 4)).off + 2, none⟩ = some (.int .i64 to_) := (HS.out.bel.cell (World.block_lt_of_cell? w _ h3_)).trans h3_
          have q4 : wr.cell? ⟨(adc.add (i * 4)).block, (adc.add (i * 4)).off + 3, none⟩ = some (.slice B b.length cB) := (HS.out.bel.cell (World.block_lt_of_cell? w _ h4_)).trans h4_
          have HCB := Aside0.mk (And.intro hle_ hCB_)
          clear h1_ h2_ h3_ h4_ hle_ hCB_ hi
          obtain ⟨o, ho, Ho⟩ := place_nat of_
          obtain ⟨p, hp, Hp⟩ := place_nat to_
          have HO := Aside0.mk Ho
          have HP := Aside0.mk Hp
          clear Ho Hp
          go_wp2
          go_quiet ((go_at_call 19; first | (with_reducible exact Calls.quiet_of (HO.out _)) | (with_reducible exact Calls.quiet_of (HP.out _))))
          have HS2 := Aside0.mk (HS.out.below (pw_below_drewN (below_alloc (Below.refl _ _) (.cells #[Value.int IntKind.i64 kd, Value.int IntKind.i64 of_, Value.int IntKind.i64 to_, Value.slice B b.length cB] 43)) nq))
          have HX := Aside0.mk (show ((wr.alloc (.cells #[Value.int IntKind.i64 kd, Value.int IntKind.i64 of_, Value.int IntKind.i64 to_, Value.slice B b.length cB] 43)).drewN nq).heap[wr.heap.size]? = some (.cells #[Value.int IntKind.i64 kd, Value.int IntKind.i64 of_, Value.int IntKind.i64 to_, Value.slice B b.length cB] 43 (0, 0)) from blk_new wr _)
          generalize (wr.alloc (.cells #[Value.int IntKind.i64 kd, Value.int IntKind.i64 of_, Value.int IntKind.i64 to_, Value.slice B b.length cB] 43)).drewN nq = w4 at HS2 HX ⊢
          generalize wr.heap.size = nx at HX ⊢
          clear q1 q2 q3 q4 HS HO HP
          obtain ⟨go, hgo⟩ : ∃ x, gs.getD o 0 = x := ⟨_, rfl⟩
          obtain ⟨mo, hmo⟩ : ∃ x, hm.getD o [] = x := ⟨_, rfl⟩
          obtain ⟨Ao, co, eo⟩ := Kd.R_slice (HS2.out.r o ho)
          rw [hmo] at eo
          have HK := Aside0.mk (fun (W : World) (h : ∃ bm hm, Pl w nh nb (fun _ => True) gs vs hm bm W) => (show W.cell? ⟨nh, o, none⟩ = some (.pointer (some ⟨go, 0, none⟩)) ∧ W.cell? ⟨nb, o, none⟩ = some (.slice Ao mo.length co) ∧ W.frozen? ⟨nh, p, none⟩ = false ∧ W.frozen? ⟨nb, p, none⟩ = false ∧ (∃ v, W.cell? ⟨nh, p, none⟩ = some v) ∧ (∃ v, W.cell? ⟨nb, p, none⟩ = some v) from by
            obtain ⟨_, _, h⟩ := h
            exact ⟨by rw [blk_cell h.hb, ptrs_at h.gl o ho, hgo], by rw [blk_cell h.bb, vals_at h.vl o ho, eo], blk_frozen h.hb p, blk_frozen h.bb p, ⟨_, by rw [blk_cell h.hb, ptrs_at h.gl p hp]⟩, ⟨_, by rw [blk_cell h.bb, vals_at h.vl p hp]⟩⟩))
          have HR := Aside0.mk (fun (W : World) (h : Pl w nh nb (fun _ => True) gs vs hm hm W) => (show HashAt W go mo ∧ Kd.R (Kd.int .u8) 5 W w.heap.size (fun _ => True) (.slice Ao mo.length co) mo from ⟨hgo ▸ hmo ▸ h.h o ho, eo ▸ hmo ▸ h.r o ho⟩))
          have HML := Aside0.mk (show mo.length + left ≤ 70000 from hmo ▸ HLM.out o ho)
          have hko := (HK.out _ ⟨_, _, HS2.out⟩).1
          have hkb := (HK.out _ ⟨_, _, HS2.out⟩).2.1
          have hx0 : w4.cell? ⟨nx, 0, none⟩ = some (.int .i64 kd) := blk_cell HX.out 0
          have hx3 : w4.cell? ⟨nx, 3, none⟩ = some (.slice B b.length cB) := blk_cell HX.out 3
          have HE := Aside0.mk (And.intro hgo (And.intro hmo eo))
          have ho0 : (0 : Int) ≤ (o : Int) := by omega
          have ho3 : (o : Int) < 3 := by omega
          have HOo := Aside0.mk ho
          have HPp := Aside0.mk hp
          clear eo ho hp hgo hmo
          by_cases k0 : kd = 0
          · subst k0
            have HNN := Aside0.mk (show nb ≠ nh from blk_ne HS2.out.bb HS2.out.hb (by decide))
            have HCUT := Aside0.mk (fun (W : World) => cut_at B b cB left HCB.out.1 W)
            have HB1 := Aside0.mk (show (Kd.int .u8).C w B (b.take left).length (b.take left) ∧ (b.take left).length ≤ cB ∧ (b.take left).length ≤ left from by
              have h1 : (b.take left).length ≤ b.length := by rw [List.length_take]; omega
              exact ⟨by
                by_cases h : b.length ≤ left
                · rw [List.take_of_length_le h]; exact HCB.out.2
                · exact Kd.C_take HCB.out.2 (by omega), by have := HCB.out.1; omega, by rw [List.length_take]; omega⟩)
            generalize b.take left = b1 at *
            generalize hLL : b1.length = L at *
            have HLb := Aside0.mk hLL
            clear hLL
            have hL0 : (0 : Int) ≤ (left : Int) - (L : Int) := by have := HB1.out.2.2; omega
            have hL1 : L ≤ left := HB1.out.2.2
            have hL2 : left ≤ 70000 := HLE.out
            have HLAID := Aside0.mk (fun (W : World) (hB : Below w.heap.size w W) => (show Calls Tryd.prog 21 #[.slice B L cB] W fun e w' => ∃ (A : Option Addr) (c : Nat), e = .returned (.slice A L c) ∧ Kd.R (Kd.int .u8) 5 w' W.heap.size (fun _ => True) (.slice A (b1 ++ marks).length c) (b1 ++ marks) ∧ Below W.heap.size W w' from HLb.out ▸ laid_calls B cB b1 W (HLb.out ▸ Kd.C_below HB1.out.1 hB) (by have := HLb.out; have := HB1.out.2.1; omega) (by have := HLb.out; have := HB1.out.2.2; have := HLE.out; omega)))
            go_wp2_with (first
              | (go_at_call 20; (with_reducible refine (HCUT.out _).mono ?_); rintro e w5 ⟨rfl, hw_⟩; subst hw_)
              | (go_at_call 21; (with_reducible refine (HLAID.out _ HS2.out.bel).mono ?_); rintro e w6 ⟨A6, c6, rfl, hr, hb⟩; obtain ⟨gi, ci, e6, hgi, hgi2, cgi, hgi3⟩ := Kd.R_form hr (by rw [List.length_append, marks_len]; omega); obtain ⟨rfl, rfl⟩ : A6 = some ⟨gi, 0, none⟩ ∧ c6 = ci := (by cases e6; exact ⟨rfl, rfl⟩); have HGI := Aside0.mk (show w.heap.size ≤ gi ∧ ∀ W, HashAt W go mo → True from ⟨Nat.le_trans HS2.out.bel.size hgi, fun _ _ => trivial⟩); have HIN := Aside0.mk (Kd.R_lower (Kd.R_flat (ok' := fun k => k = gi) (fun h => h) hr (fun k hk _ => (Option.some.inj hk).symm)) HS2.out.bel.size); have HS3 := Aside0.mk ((HS2.out.apart gi hgi).below hb); have HGH := Aside0.mk (HR.out _ (HS2.out.below hb)).1; have hko3 := (HK.out _ ⟨_, _, HS2.out.below hb⟩).1; have HX3 := Aside0.mk (blk_below HX.out hb); clear hr hb e6 hgi hgi2 hgi3))
            have HCAP := Aside0.mk (show (b1 ++ marks).length ≤ c6 from (Kd.R_reads' HIN.out).2.1)
            have Hw := Aside0.mk (show Calls Tryd.prog 10 #[.pointer (some ⟨go, 0, none⟩), .slice (some ⟨gi, 0, none⟩) L c6] w6 fun e w' => (∃ v, e = .returned v) ∧ HashAt w' go (mo ++ b1) ∧ But go w6 w' from HLb.out ▸ write_calls go (some ⟨gi, 0, none⟩) c6 mo b1 w6 HGH.out (C_take0 (Kd.R_reads' HIN.out).2.2) (fun _ ad e => by cases e; obtain ⟨cs_, hc_⟩ := hash_cells HGH.out; have h_ := Kd.R_ne HIN.out hc_ (by decide); simpa using (fun e => h_ (by rw [e]; rfl) : gi ≠ go)) (by have h_ := HCAP.out; rw [List.length_append] at h_; omega) HS3.out.tabw (by have := HS3.out.g_pos o HOo.out; rw [HE.out.1] at this; exact this) (by have := HML.out; have := HLb.out; have := HB1.out.2.2; omega))
            (with_reducible refine Hw.out.mono ?_)
            rintro e w7 ⟨⟨v7_, rfl⟩, hH, hbut⟩
            have HGO := Aside0.mk HE.out.1
            have HBUT := Aside0.mk hbut
            have HS4 := Aside0.mk (show Pl w nh nb (fun k => k ≠ gi) gs vs (hm.set o (mo ++ b1)) hm w7 from HS3.out.write HOo.out (by rw [HGO.out]; exact hH) (by rw [HGO.out]; exact hbut))
            replace HIN := Aside0.mk (Kd.R_step HIN.out (fun k hk hlt => hbut.block k hlt (by
              subst hk
              obtain ⟨cs_, hc_⟩ := hash_cells HGH.out
              have h_ := Kd.R_ne HIN.out hc_ (by decide)
              exact fun e => h_ (by rw [← e]; rfl))))
            clear hH hbut Hw hko3
            have Hint := Aside0.mk (show Calls Tryd.prog 18 #[.slice (some ⟨gi, 0, none⟩) L c6, .slice B L cB] w7 fun e w' => e = .returned (.bool true) ∧ Below w7.heap.size w7 w' from HLb.out ▸ intact_calls gi c6 b1 B cB w7 (Kd.R_reads' HIN.out).2.2 HCAP.out (HLb.out ▸ Kd.C_below HB1.out.1 HS4.out.bel) (by have := HLb.out; have := HB1.out.2.1; omega) (by have := HLb.out; have := HB1.out.2.2; have := HLE.out; omega))
            obtain ⟨mb, hmb⟩ : ∃ x, x = mo ++ b1 := ⟨_, rfl⟩
            have HMB := Aside0.mk hmb
            have HMBL := Aside0.mk (show mb.length + (left - L) ≤ 70000 by rw [hmb, List.length_append]; have := HML.out; have := HLb.out; have := HB1.out.2.2; omega)
            rw [← hmb] at HS4
            clear hmb
            go_wp2_with (first
              | (go_at_call 18; (with_reducible refine Hint.out.mono ?_); rintro e w8 ⟨rfl, hb⟩; replace HIN := Aside0.mk (Kd.R_below HIN.out hb); replace HS4 := Aside0.mk (HS4.out.below hb); have hkb8 := (HK.out _ ⟨_, _, HS4.out.mono (fun _ _ => trivial)⟩).2.1; have HRO := Aside0.mk (show Kd.R (Kd.int .u8) 5 w8 w.heap.size (fun k => k ≠ gi) (.slice Ao mo.length co) mo from by have h_ := HS4.out.r o HOo.out; rwa [HE.out.2.2, HE.out.2.1] at h_); clear hb)
              | ((with_reducible refine gate_builtin (b := .append) (xs := #[.const (.slice none 0 0), .tmp 83]) rfl ?_); (try (refine gate_guard (by rfl) ?_; dsimp only)); at_builtin; refine Kd.R_append_rows (Kd.int .u8) (w0 := w8) w8.heap.size rfl (.const (.slice none 0 0)) (.tmp 83) 22 5 (.int .u8 0) 1 rfl Tryd.underlying22 P.info5 rfl (by decide) (by omega) (.slice none 0 0) ([] : List Int) mo Ao mo.length co (fun k => k ≠ gi) (fun _ => False) rfl rfl ?aO ?aR (fun _ _ h => h) (fun _ h => h.elim) ?aF ?aB ?aS ?aL ?_; (case aO => exact Kd.R_nil _ _ _ _ _); (case aR => exact (Kd.R_reads' HRO.out).2.2); (case aF => exact (fun k hk => by have := Kd.R_lt HIN.out gi rfl; omega)); (case aB => exact Below.refl _ _); (case aS => exact Nat.le_refl _); (case aL => (have := HML.out; simp; omega)); intro v9 w9 ho hb hg hat; (rw [List.nil_append] at ho; obtain ⟨A9, c9, e9⟩ := Kd.R_slice ho; subst e9; have H9 := Aside0.mk ho; have HB9 := Aside0.mk hb; clear ho hb hg hat))
              | ((with_reducible refine gate_builtin (b := .append) (xs := #[.tmp 84, .tmp 85]) rfl ?_); (try (refine gate_guard (by rfl) ?_; dsimp only)); at_builtin; refine Kd.R_append_rows (Kd.int .u8) (w0 := w8) w8.heap.size rfl (.tmp 84) (.tmp 85) 22 5 (.int .u8 0) 1 rfl Tryd.underlying22 P.info5 rfl (by decide) (by omega) (.slice A9 mo.length c9) mo b1 B L cB (fun k => k ≠ gi) (fun _ => False) rfl rfl ?aO ?aR (fun _ _ h => h) (fun _ h => h.elim) ?aF ?aB ?aS ?aL ?_; (case aO => exact H9.out); (case aR => exact Kd.C_below (Kd.C_below HB1.out.1 HS4.out.bel) HB9.out); (case aF => exact (fun k hk => by have := Kd.R_lt HIN.out gi rfl; have := HB9.out.size; omega)); (case aB => exact HB9.out); (case aS => exact HB9.out.size); (case aL => (have := HML.out; have := HB1.out.2.2; omega)); intro v10 w10 ho hb hg hat; (obtain ⟨A10, c10, e10⟩ := Kd.R_slice ho; rw [← HMB.out] at ho e10; subst e10; have H10 := Aside0.mk (Kd.R_lower ho HS4.out.bel.size); replace HIN := Aside0.mk (Kd.R_below HIN.out hb); have HS5 := Aside0.mk (HS4.out.below hb); have HNB := HS5.out.bb; have hf10 := blk_frozen HNB o; have hc10 : w10.cell? ⟨nb, o, none⟩ = some (vs.getD o (.slice none 0 0)) := (by rw [blk_cell HNB, vals_at HS5.out.vl o HOo.out]); (generalize vs.getD o (.slice none 0 0) = vo at hc10); clear ho hb hg hat HNB)))
            have HS6 := Aside0.mk (HS5.out.lay HOo.out H10.out)
            have HIN6 := Aside0.mk (show Kd.R (Kd.int .u8) 5 (w10.setCell ⟨nb, o, none⟩ (.slice A10 mb.length c10)) w.heap.size (fun k => k = gi) (.slice (some ⟨gi, 0, none⟩) (b1 ++ marks).length c6) (b1 ++ marks) from Kd.R_set HIN.out HS5.out.bb (by intro q hq; simp [Kd.int, Kd.scalar] at hq; omega) o _)
            obtain ⟨vs', hvs⟩ : ∃ x, x = vs.set o (.slice A10 mb.length c10) := ⟨_, rfl⟩
            obtain ⟨hm', hhm⟩ : ∃ x, x = hm.set o mb := ⟨_, rfl⟩
            have HLM6 := Aside0.mk (show ∀ q, q < 3 → (hm'.getD q []).length + (left - L) ≤ 70000 from hhm ▸ lens_set HS2.out.hl (fun q hq => by have := HLM.out q hq; omega) HMBL.out HOo.out)
            rw [← hvs, ← hhm] at HS6
            have hcl : (b1 ++ marks).length = L + 73 := by rw [List.length_append, marks_len, HLb.out]
            rw [hcl] at HIN6
            have HCL := Aside0.mk hcl
            clear hcl hvs hhm
            generalize b1 ++ marks = cur0 at HIN6 HCL
            generalize w10.setCell ⟨nb, o, none⟩ (.slice A10 mb.length c10) = w11 at HS6 HIN6 ⊢
            clear HS5 HIN HS4 H9 HB9 H10 HRO Hint HCUT HLAID HS3 HX3 HBUT HGH HK HR HX hko hkb hx0 hx3 hkb8 hf10 hc10 HS2
            obtain ⟨gkO, rfl⟩ : ∃ x : Nat, x = gk := ⟨_, rfl⟩
            go_loopg [13] L (fun k v13 wi => ∃ (cur : List Int) (j : Nat), v13 = .int .i64 j ∧ Aside0 (j + k = L) ∧ Aside0 (cur.length = L + 73) ∧ Aside0 (Kd.R (Kd.int .u8) 5 wi w.heap.size (fun k => k = gi) (.slice (some ⟨gi, 0, none⟩) (L + 73) c6) cur) ∧ Aside0 (Pl w nh nb (fun k => k ≠ gi) gs vs' hm' hm' wi))
            case atStart => exact ⟨cur0, 0, rfl, ⟨Nat.zero_add _⟩, HCL, HIN6, HS6⟩
            case round =>
              clear HS6 HIN6
              obtain ⟨cur, j, rfl, HJ, HCR, HIN, HS⟩ := hrel
              by_cases hj : j < L
              · have HJL := Aside0.mk hj
                have hj1 : (j : Int) < (L : Int) := by omega
                have hj0 : (0 : Int) ≤ (j : Int) := by omega
                have hcx := Kd.R_cell (0 : Int) (HCR.out.symm ▸ HIN.out) (j : Int) hj0 (by have := HCR.out; omega)
                rw [Int.toNat_natCast] at hcx
                obtain ⟨hc1, hc2⟩ := hcx
                generalize rdOf 0 cur (j : Int) = cj at hc1
                have hjw : wrap64 ((j : Int) + 1) = ((j + 1 : Nat) : Int) := by have := HLE.out; unfold wrap64; omega
                clear hj
                go_wp2
                go_roundg (gk - 1)
                case measure => (have := HJ.out; have := HJL.out; omega)
                case rel => exact ⟨cur.set j _, j + 1, by first | rfl | rw [hjw], ⟨by have := HJ.out; have := HJL.out; omega⟩, ⟨by rw [List.length_set]; exact HCR.out⟩, ⟨(HS.out.flip HIN.out j _).1⟩, ⟨(HS.out.flip HIN.out j _).2⟩⟩
              · have hj1 : ¬ ((j : Int) < (L : Int)) := by omega
                clear hj
                go_wp2
                go_roundg (gkO - 1)
                case measure => (have := HI.out; have := HIM.out; omega)
                case rel => exact ⟨gs, vs', hm', left - L, i + 1, by rw [show ((left - L : Nat) : Int) = (left : Int) - (L : Int) by omega], by first | rfl | rw [hiw], ⟨by have := HI.out; have := HIM.out; omega⟩, ⟨by omega⟩, HLM6, ⟨HS.out.mono (fun _ _ => trivial)⟩⟩
          · have k0b : (kd == 0) = false := by simp [k0]
            clear k0
            by_cases k2 : kd = 2
            · subst k2
              have Hlen := Aside0.mk (fun (n : Nat) => len_calls go mo (w4.drewN n) ((HR.out _ HS2.out).1.below (pw_below_drewN (Below.refl _ _) n)))
              go_wp2
              go_quiet ((go_at_call 22; (with_reducible exact Calls.quiet_of_same (Hlen.out _))))
              clear Hlen
              go_wp2
              go_roundg (gk - 1)
              case measure => (have := HI.out; have := HIM.out; omega)
              case rel => exact ⟨gs, vs, hm, left, i + 1, rfl, by first | rfl | rw [hiw], ⟨by have := HI.out; have := HIM.out; omega⟩, HLE, HLM, ⟨HS2.out.below (pw_below_drewN (Below.refl _ _) _)⟩⟩
            · have k2b : (kd == 2) = false := by simp [k2]
              clear k2
              by_cases k3 : kd = 3
              · subst k3
                have hnn : nb ≠ nh := blk_ne HS2.out.bb HS2.out.hb (by decide)
                have hnn' : nh ≠ nb := hnn.symm
                have Hcopy := Aside0.mk (copy_calls go mo w4 (HR.out _ HS2.out).1)
                have hp0 : (0 : Int) ≤ (p : Int) := by omega
                have hp3 : (p : Int) < 3 := by have := HPp.out; omega
                go_wp2_with (go_at_call 23; (with_reducible refine Hcopy.out.mono ?_); rintro e w5 ⟨g', rfl, hg, hH, hb⟩; have H5 := Aside0.mk (And.intro hH (And.intro hg hb)); have hF := HK.out w5 ⟨_, _, HS2.out.below hb⟩; have hf2 := hF.2.1; have hf3 := hF.2.2.1; have hf4 := hF.2.2.2.1; obtain ⟨v5, hf5⟩ := hF.2.2.2.2.1; obtain ⟨v6, hf6⟩ := hF.2.2.2.2.2; clear hF hH hg hb)
                go_roundg (gk - 1)
                case measure => (have := HI.out; have := HIM.out; omega)
                case rel => exact ⟨gs.set p g', vs.set p (.slice Ao mo.length co), hm.set p mo, left, i + 1, rfl, by first | rfl | rw [hiw], ⟨by have := HI.out; have := HIM.out; omega⟩, HLE, ⟨lens_set HS2.out.hl HLM.out HML.out HPp.out⟩, ⟨(HS2.out.below H5.out.2.2).both HPp.out H5.out.1 (fun q hq => by have := (HS2.out.h q hq).lt; have := H5.out.2.1; omega) (by have := HS2.out.bel.size; have := H5.out.2.1; omega) (.inr ⟨o, HOo.out, HE.out.2.2, HE.out.2.1⟩)⟩⟩
              · have k3b : (kd == 3) = false := by simp [k3]
                clear k3
                by_cases k4 : kd = 4
                · subst k4
                  have hnn : nb ≠ nh := blk_ne HS2.out.bb HS2.out.hb (by decide)
                  have hnn' : nh ≠ nb := hnn.symm
                  have hp0 : (0 : Int) ≤ (p : Int) := by omega
                  have hp3 : (p : Int) < 3 := by have := HPp.out; omega
                  go_wp2_with (go_at_call 9; (with_reducible refine (new_calls _).mono ?_); rintro e w5 ⟨g', rfl, hg, hH, hb⟩; have H5 := Aside0.mk (And.intro hH (And.intro hg hb)); have hF := HK.out w5 ⟨_, _, HS2.out.below hb⟩; have hf2 := hF.2.1; have hf3 := hF.2.2.1; have hf4 := hF.2.2.2.1; obtain ⟨v5, hf5⟩ := hF.2.2.2.2.1; obtain ⟨v6, hf6⟩ := hF.2.2.2.2.2; clear hF hH hg hb)
                  go_roundg (gk - 1)
                  case measure => (have := HI.out; have := HIM.out; omega)
                  case rel => exact ⟨gs.set p g', vs.set p (.slice none 0 0), hm.set p [], left, i + 1, rfl, by first | rfl | rw [hiw], ⟨by have := HI.out; have := HIM.out; omega⟩, HLE, ⟨lens_set HS2.out.hl HLM.out (by have := HML.out; simp; omega) HPp.out⟩, ⟨(HS2.out.below H5.out.2.2).both HPp.out H5.out.1 (fun q hq => by have := (HS2.out.h q hq).lt; have := H5.out.2.1; omega) (by have := HS2.out.bel.size; have := H5.out.2.1; omega) (.inl ⟨rfl, rfl⟩)⟩⟩
                · have k4b : (kd == 4) = false := by simp [k4]
                  clear k4
                  have Hkey := Aside0.mk (fun (W : World) (h : Pl w nh nb (fun _ => True) gs vs hm hm W) => key_calls go mo W (HR.out W h).1 h.tabw (by have := HML.out; omega))
                  have Href := Aside0.mk (fun (W : World) (h : Pl w nh nb (fun _ => True) gs vs hm hm W) => refSum_calls Ao co mo W (Kd.R_reads' (HR.out W h).2).2.2 (by have := HML.out; omega) (Kd.R_reads' (HR.out W h).2).2.1)
                  have heq : ∀ W : World, (Op.equalIn 10000 27 (.agg (arr8 (sumL mo))) (.agg (arr8 (sumL mo)))).run Tryd.prog W = .ok true W := fun W => eq_key 9998 _ (sumL_len _) W
                  generalize arr8 (sumL mo) = ck at Hkey Href heq
                  have HK2 := Aside0.mk (fun (W : World) (h : Pl w nh nb (fun _ => True) gs vs hm hm W) => (show W.cell? ⟨nh, o, none⟩ = some (.pointer (some ⟨go, 0, none⟩)) ∧ W.cell? ⟨nb, o, none⟩ = some (.slice Ao mo.length co) from ⟨(HK.out W ⟨_, _, h⟩).1, (HK.out W ⟨_, _, h⟩).2.1⟩))
                  go_wp2
                  go_region_held3 (fun W => W.cell? ⟨nh, o, none⟩ = some (.pointer (some ⟨go, 0, none⟩)) ∧ W.cell? ⟨nb, o, none⟩ = some (.slice Ao mo.length co)) (first | assumption | exact HK2.out _ (by first | exact HS2.out | exact HS2.out.below (below_drew1 (Below.refl _ _)))) (first | (go_at_call 13; (with_reducible refine (Hkey.out _ ?hM).mono ?_); (case hM => first | exact HS2.out | exact HS2.out.below (below_drew1 (Below.refl _ _))); rintro e w7 ⟨rfl, hb⟩; replace HS2 := Aside0.mk (Pl.below (by first | exact HS2.out | exact HS2.out.below (below_drew1 (Below.refl _ _))) hb); clear hb) | (go_at_call 16; (with_reducible refine (Href.out _ ?hM).mono ?_); (case hM => first | exact HS2.out | exact HS2.out.below (below_drew1 (Below.refl _ _))); rintro e w8 ⟨rfl, hb⟩; replace HS2 := Aside0.mk (Pl.below (by first | exact HS2.out | exact HS2.out.below (below_drew1 (Below.refl _ _))) hb); clear hb))
                  all_goals
                    go_wp2
                    go_roundg (gk - 1)
                    case measure => (have := HI.out; have := HIM.out; omega)
                    case rel => exact ⟨gs, vs, hm, left, i + 1, rfl, by first | rfl | rw [hiw], ⟨by have := HI.out; have := HIM.out; omega⟩, HLE, HLM, HS2⟩
        · have hi1 : ¬ ((i : Int) < (l.length : Int) ∧ (i : Int) < 80) := by have := HMM.out; omega
          have HIM := Aside0.mk (show min l.length 80 ≤ i by have := HMM.out; omega)
          clear hi
          by_cases hi2 : (i : Int) < (l.length : Int)
          all_goals
            have hi3 : (i : Int) < (l.length : Int) → ¬ ((i : Int) < 80) := fun h1 h2 => hi1 ⟨h1, h2⟩
            first
              | (have hi4 : ¬ ((i : Int) < 80) := hi3 hi2)
              | (have hi4 : True := trivial)
            clear hi1 hi3
            go_wp2
            go_loopg [14] 3 (fun k v14 wi => ∃ (o : Nat), v14 = .int .i64 o ∧ Aside0 (o + k = 3) ∧ Aside0 (Pl w nh nb (fun _ => True) gs vs hm hm wi))
            case atStart => exact ⟨0, rfl, ⟨rfl⟩, HS⟩
            case round =>
              clear HS
              obtain ⟨o, rfl, HO, HS2⟩ := hrel
              by_cases ho : o < 3
              · obtain ⟨go, hgo⟩ : ∃ x, gs.getD o 0 = x := ⟨_, rfl⟩
                obtain ⟨mo, hmo⟩ : ∃ x, hm.getD o [] = x := ⟨_, rfl⟩
                obtain ⟨Ao, co, eo⟩ := Kd.R_slice (HS2.out.r o ho)
                rw [hmo] at eo
                have HR := Aside0.mk (fun (W : World) (h : Pl w nh nb (fun _ => True) gs vs hm hm W) => (show HashAt W go mo ∧ Kd.R (Kd.int .u8) 5 W w.heap.size (fun _ => True) (.slice Ao mo.length co) mo from ⟨hgo ▸ hmo ▸ h.h o ho, eo ▸ hmo ▸ h.r o ho⟩))
                have HML := Aside0.mk (show mo.length + left ≤ 70000 from hmo ▸ HLM.out o ho)
                have HK2 := Aside0.mk (fun (W : World) (h : Pl w nh nb (fun _ => True) gs vs hm hm W) => (show W.cell? ⟨nh, o, none⟩ = some (.pointer (some ⟨go, 0, none⟩)) ∧ W.cell? ⟨nb, o, none⟩ = some (.slice Ao mo.length co) from ⟨by rw [blk_cell h.hb, ptrs_at h.gl o ho, hgo], by rw [blk_cell h.bb, vals_at h.vl o ho, eo]⟩))
                have ho0 : (0 : Int) ≤ (o : Int) := by omega
                have ho3 : (o : Int) < 3 := by omega
                have HOo := Aside0.mk ho
                have how : wrap64 ((o : Int) + 1) = ((o + 1 : Nat) : Int) := by unfold wrap64; omega
                clear eo ho hgo hmo
                have hko := (HK2.out _ HS2.out).1
                have hkb := (HK2.out _ HS2.out).2
                have Hkey := Aside0.mk (fun (W : World) (h : Pl w nh nb (fun _ => True) gs vs hm hm W) => key_calls go mo W (HR.out W h).1 h.tabw (by have := HML.out; omega))
                have Hlen := Aside0.mk (fun (W : World) (h : Pl w nh nb (fun _ => True) gs vs hm hm W) => len_calls go mo W (HR.out W h).1)
                have Href := Aside0.mk (fun (W : World) (h : Pl w nh nb (fun _ => True) gs vs hm hm W) => refSum_calls Ao co mo W (Kd.R_reads' (HR.out W h).2).2.2 (by have := HML.out; omega) (Kd.R_reads' (HR.out W h).2).2.1)
                have heq : ∀ W : World, (Op.equalIn 10000 27 (.agg (arr8 (sumL mo))) (.agg (arr8 (sumL mo)))).run Tryd.prog W = .ok true W := fun W => eq_key 9998 _ (sumL_len _) W
                generalize arr8 (sumL mo) = ck at Hkey Href heq
                generalize mo.length = ml at *
                go_wp2
                go_region_held3 (fun W => W.cell? ⟨nh, o, none⟩ = some (.pointer (some ⟨go, 0, none⟩)) ∧ W.cell? ⟨nb, o, none⟩ = some (.slice Ao ml co)) (first | assumption | exact HK2.out _ (by first | exact HS2.out | exact HS2.out.below (below_drew1 (Below.refl _ _)))) (first | (go_at_call 22; (with_reducible refine (Hlen.out _ ?hM).mono ?_); (case hM => first | exact HS2.out | exact HS2.out.below (below_drew1 (Below.refl _ _))); rintro e w6 ⟨rfl, rfl⟩) | (go_at_call 13; (with_reducible refine (Hkey.out _ ?hM).mono ?_); (case hM => first | exact HS2.out | exact HS2.out.below (below_drew1 (Below.refl _ _))); rintro e w7 ⟨rfl, hb⟩; replace HS2 := Aside0.mk (Pl.below (by first | exact HS2.out | exact HS2.out.below (below_drew1 (Below.refl _ _))) hb); clear hb) | (go_at_call 16; (with_reducible refine (Href.out _ ?hM).mono ?_); (case hM => first | exact HS2.out | exact HS2.out.below (below_drew1 (Below.refl _ _))); rintro e w8 ⟨rfl, hb⟩; replace HS2 := Aside0.mk (Pl.below (by first | exact HS2.out | exact HS2.out.below (below_drew1 (Below.refl _ _))) hb); clear hb))
                all_goals
                  go_wp2
                  go_roundg (gk - 1)
                  case measure => (have := HO.out; have := HOo.out; omega)
                  case rel => exact ⟨o + 1, by first | rfl | rw [how], ⟨by have := HO.out; have := HOo.out; omega⟩, HS2⟩
              · have ho3 : ¬ ((o : Int) < 3) := by omega
                clear ho
                go_wp2
                go_ret
                exact ⟨rfl, HS2.out.bel⟩
end Go.Proofs.YthnmpkhjpfhloaaDoor.M

namespace Go.Proofs.YthnmpkhjpfhloaaDoor.Bulk
open Go.ChangeShapes Go.WideShapes Go.Proofs.YthnmpkhjpfhloaaDoorW.PrintWords Go.Proofs.YthnmpkhjpfhloaaDoor.M
set_option linter.unusedVariables false
section
variable {H : Type} {enc : TypeId × Value → H} {W : World} {base : Nat} {spare : Nat → Bool} {held : Bool}
theorem opens_43 : Opens enc Tryd.prog W base spare held 43 KS (fun _ _ => True) := by
  intro fuel cs x h
  obtain ⟨xs, n, _, rfl, hl, hx, hf⟩ := DataW.trod_struct Tryd.underlying43 h
  rw [show Tryd.prog.cellsOf 43 = 4 by kernel_rfl] at hl
  obtain ⟨c0, c1, c2, c3, rfl⟩ : ∃ c0 c1 c2 c3, cs = [c0, c1, c2, c3] := by
    match cs, hl with
    | [c0, c1, c2, c3], _ => exact ⟨c0, c1, c2, c3, rfl⟩
  obtain ⟨x0, x1, x2, x3, rfl⟩ : ∃ x0 x1 x2 x3, xs = [x0, x1, x2, x3] := by
    match xs, hx with
    | [x0, x1, x2, x3], _ => exact ⟨x0, x1, x2, x3, rfl⟩
  have q3 : Tryd.prog.cellsOf 3 = 1 := by kernel_rfl
  have q22 : Tryd.prog.cellsOf 22 = 1 := by kernel_rfl
  have f0 : DataW.trod enc Tryd.prog W base spare held n 3 (([c0, c1, c2, c3].drop 0).take (Tryd.prog.cellsOf 3)) = some x0 := hf 0 _ rfl
  have f1 : DataW.trod enc Tryd.prog W base spare held n 3 (([c0, c1, c2, c3].drop 1).take (Tryd.prog.cellsOf 3)) = some x1 := hf 1 _ rfl
  have f2 : DataW.trod enc Tryd.prog W base spare held n 3 (([c0, c1, c2, c3].drop 2).take (Tryd.prog.cellsOf 3)) = some x2 := hf 2 _ rfl
  have f3 : DataW.trod enc Tryd.prog W base spare held n 22 (([c0, c1, c2, c3].drop 3).take (Tryd.prog.cellsOf 22)) = some x3 := hf 3 _ rfl
  rw [q3] at f0 f1 f2
  rw [q22] at f3
  obtain ⟨y0, k0, _⟩ := opens_int Tryd.underlying3 _ _ _ f0
  obtain ⟨y1, k1, _⟩ := opens_int Tryd.underlying3 _ _ _ f1
  obtain ⟨y2, k2, _⟩ := opens_int Tryd.underlying3 _ _ _ f2
  obtain ⟨y3, k3, _⟩ := opens_22 _ _ _ f3
  exact ⟨(y0, y1, y2, y3), ⟨[c0], [c1, c2, c3], rfl, k0, [c1], [c2, c3], rfl, k1, [c2], [c3], rfl, k2, k3⟩, trivial⟩
/-- A script that came in. -/
theorem arg_39 {a : Option Addr} {len cap : Nat} {dd : DataW H} {ps : List MemPlace}
    (h : DataW.Trod enc Tryd.prog W base spare held 39 (.slice a len cap) dd ps) : ∃ l, len = l.length ∧ l.length ≤ cap ∧ Kd.C KS W a l.length l ∧ l.length ≤ 9223372036854775807 ∧ True := by
  obtain ⟨l, h1, h2, h3, h4, _⟩ := arg_full (q := 43) (opens_slice Tryd.underlying39 (by kernel_rfl) (fun _ _ _ _ h => h) opens_43) h
  exact ⟨l, h1, h2, h3, h4, trivial⟩
end
end Go.Proofs.YthnmpkhjpfhloaaDoor.Bulk
namespace Go.Proofs.YthnmpkhjpfhloaaDoor.M
open Go.RowKit Go.Proofs.YthnmpkhjpfhloaaDoorW.PrintWords Go.Proofs.YthnmpkhjpfhloaaDoorW.PrintLast Go.Proofs.YthnmpkhjpfhloaaDoorW.PrintMore
set_option linter.unusedVariables false
def playsF (_k : Nat) (_l : List (Int × Int × Int × List Int)) : Option Bool := some true
theorem shaPlays_calls (k : Nat) (A0 : Option Addr) (c0 : Nat) (l0 : List (Int × Int × Int × List Int)) (r : Bool) (w : World) (h0 : KS.C w A0 l0.length l0) (hc0 : l0.length ≤ c0) (hG : Tab w) (h : playsF k l0 = some r) : Calls Tryd.prog 5 #[.slice A0 l0.length c0] w fun e w' => e = .returned (.bool r) ∧ Below w.heap.size w w' := by
  cases h
  exact plays_core A0 c0 l0 w hG h0 hc0
theorem shaPlays_pure : ∀ (l0 : List (Int × Int × Int × List Int)), l0.length ≤ 9223372036854775807 → True → ∃ k, playsF k l0 = some true := fun _ _ _ => ⟨0, rfl⟩
end Go.Proofs.YthnmpkhjpfhloaaDoor.M

