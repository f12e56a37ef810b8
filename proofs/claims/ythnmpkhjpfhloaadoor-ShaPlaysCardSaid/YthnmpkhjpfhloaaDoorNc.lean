import Derived.Test.YthnmpkhjpfhloaaDoorProg
import Derived.Below
import Derived.Deep.Draws
import Derived.Deep.AppendLies
import Derived.Maps.AppendAt
import Derived.OwnWalk
import Derived.Laws.BytesArg
import Derived.Laws.MakeOwn
import Derived.Laws.OwnMore
import Derived.Deep.OwnRows
import Derived.Tactics
import Derived.Lib.ConvBytes
import Derived.Laws.Slices
import Derived.WalkKit
import Derived.KernelRfl
import Derived.RowKit3
import Derived.Deep.LoopGhost
import Derived.Deep.QuietTactic
import Derived.BigQuiet
import Derived.WideLaws
import Derived.Deep.DeepCutAuto
import Derived.Deep.CutBlock
import Derived.Deep.RegionHeld3
import Derived.Laws.Rows
import Derived.Lib.AppendStr
import Derived.ArgAppend
import Derived.Laws.IdiomCopy
import Derived.OrdersHeld
import Derived.Laws.BitsLemmas
import Derived.RowKit
import Derived.Test.YthnmpkhjpfhloaaDoorWWords
import Derived.Test.YthnmpkhjpfhloaaDoorWLast
import Derived.Test.YthnmpkhjpfhloaaDoorWTab
import Derived.Test.YthnmpkhjpfhloaaDoorWFour
import Derived.Test.YthnmpkhjpfhloaaDoorWQPut
import Derived.Test.YthnmpkhjpfhloaaDoorWApart
import Derived.Test.YthnmpkhjpfhloaaDoorWArr
import Derived.Test.YthnmpkhjpfhloaaDoorWZeros
import Derived.Test.YthnmpkhjpfhloaaDoorWFoot
import Derived.Test.YthnmpkhjpfhloaaDoorWKept
import Derived.Test.YthnmpkhjpfhloaaDoorWShare
import Derived.Test.YthnmpkhjpfhloaaDoorWN
import Derived.Test.YthnmpkhjpfhloaaDoorWFootNe
import Derived.Test.YthnmpkhjpfhloaaDoorWAt
import Derived.Test.YthnmpkhjpfhloaaDoorWEqStruct
import Derived.Test.YthnmpkhjpfhloaaDoorWRepsOne
import Derived.Test.YthnmpkhjpfhloaaDoorWInv
import Derived.Test.YthnmpkhjpfhloaaDoorWInvWords
import Derived.Test.YthnmpkhjpfhloaaDoorWGuard
import Derived.Test.YthnmpkhjpfhloaaDoorWNEv
import Derived.Test.YthnmpkhjpfhloaaDoorWMore
import Derived.Laws.BitsAllLaws
import Derived.StillTailTactics
import Derived.Test.YthnmpkhjpfhloaaDoorMs
import Derived.Deep.WholeRow
import Derived.Test.YthnmpkhjpfhloaaDoorNb
import Derived.Test.YthnmpkhjpfhloaaDoorCr
namespace Go.Proofs.YthnmpkhjpfhloaaDoor.M
open Go.RowKit Go.Proofs.YthnmpkhjpfhloaaDoorW.PrintWords Go.Proofs.YthnmpkhjpfhloaaDoorW.PrintLast Go.Proofs.YthnmpkhjpfhloaaDoorW.PrintMore Go.Proofs.YthnmpkhjpfhloaaDoor.P
set_option linter.unusedVariables false
set_option linter.unusedSimpArgs false
theorem info22 : (Tryd.prog.info? 22).map (fun i => (i.zero, i.size, i.bytes)) = some (some (.slice none 0 0), 1, 24) := by kernel_rfl
theorem tmod_bound (a d : Int) (hd : 0 < d) : -d < Int.tmod a d ∧ Int.tmod a d < d := by
  constructor
  · rcases Int.le_total 0 a with h | h
    · rw [Int.tmod_eq_emod_of_nonneg h]; have := Int.emod_nonneg a (show d ≠ 0 by omega); omega
    · have h1 : Int.tmod a d = -Int.tmod (-a) d := by rw [Int.neg_tmod]; omega
      rw [h1, Int.tmod_eq_emod_of_nonneg (show 0 ≤ -a by omega)]
      have := Int.emod_lt_of_pos (-a) hd
      omega
  · exact Int.tmod_lt_of_pos a hd
theorem HashAt.grown {w w' : World} {g : Nat} {m : List Int} {row : Option Nat} (h : HashAt w g m) (hg : w.grownBy w' row) (hne : some g ≠ row) : HashAt w' g m := by
  obtain ⟨a, b, h1, h2⟩ := h
  exact ⟨a, b, blk_grown h1 hg hne, h2⟩
/-- A row of pairs of numbers. -/
def KT : Kd (Int × Int) where
  sz := 2
  E := []
  K := fun _ x cs => cs = [.int .i64 x.1, .int .i64 x.2]
  M := fun _ _ _ x cs => cs = [.int .i64 x.1, .int .i64 x.2]
  K_len := fun h => by rw [h]; rfl
  K_one := fun h u hu => by
    rw [h] at hu
    simp at hu
    rcases hu with rfl | rfl <;> rfl
  K_below := fun _ h => h
  K_of_M := fun h => h
  M_mono := fun _ h => h
  M_bound := fun h => h
  M_move := fun _ h => h
  M_lower := fun _ h => h
theorem KT_at {w : World} {A : Option Addr} {n : Nat} {xs : List (Int × Int)} (h : KT.C w A n xs) (i : Nat) (hi : i < n) : ∃ ad, A = some ad ∧ w.cell? (ad.add (i * 2)) = some (.int .i64 (xs.getD i (0, 0)).1) ∧ w.cell? (ad.add (i * 2 + 1)) = some (.int .i64 (xs.getD i (0, 0)).2) := by
  obtain ⟨ad, c, e, hl, hk, hc⟩ := ReadsRow.get_ h (0, 0) (i : Int) (by omega) (by omega)
  rw [Int.toNat_natCast] at hk hc
  have hk' : c = [.int .i64 (xs.getD i (0, 0)).1, .int .i64 (xs.getD i (0, 0)).2] := hk
  refine ⟨ad, e, ?_, ?_⟩
  · have := hc 0 (.int .i64 (xs.getD i (0, 0)).1) (by rw [hk']; rfl)
    exact this
  · have := hc 1 (.int .i64 (xs.getD i (0, 0)).2) (by rw [hk']; rfl)
    exact this
/-- A row of two rows, twice the same one. -/
theorem C_row2 {W : World} {A1 : Option Addr} {c1 : Nat} {l : List Int} (h : (Kd.int .u8).C W A1 l.length l) (hc : l.length ≤ c1) : (Kd.slice 5 (Kd.int .u8)).C (W.alloc (.cells #[.slice A1 l.length c1, .slice A1 l.length c1] 22)) (some ⟨W.heap.size, 0, none⟩) 2 [l, l] := by
  refine ⟨rfl, by decide, fun _ => ⟨_, rfl, fun j p hp => ⟨[.slice A1 l.length c1], rfl, ?_, fun i u hu => ?_⟩⟩⟩
  · have hp' : l = p := by
      match j, hp with
      | 0, hp => simpa using hp
      | 1, hp => simpa using hp
      | j + 2, hp => simp at hp
    subst hp'
    exact ⟨A1, c1, rfl, hc, Kd.C_below h (below_alloc (Below.refl _ _) _)⟩
  · match j, hp, i, hu with
    | 0, hp, 0, hu =>
      have hu' : Value.slice A1 l.length c1 = u := by simpa using hu
      subst hu'
      have h1 := blk_cell (heap_alloc_new W (.cells #[.slice A1 l.length c1, .slice A1 l.length c1] 22)) 0
      show (W.alloc (.cells #[.slice A1 l.length c1, .slice A1 l.length c1] 22)).cell? ((⟨W.heap.size, 0, none⟩ : Addr).add (0 * 1 + 0)) = _
      rw [addr_at0, h1]
      rfl
    | 1, hp, 0, hu =>
      have hu' : Value.slice A1 l.length c1 = u := by simpa using hu
      subst hu'
      have h1 := blk_cell (heap_alloc_new W (.cells #[.slice A1 l.length c1, .slice A1 l.length c1] 22)) 1
      show (W.alloc (.cells #[.slice A1 l.length c1, .slice A1 l.length c1] 22)).cell? ((⟨W.heap.size, 0, none⟩ : Addr).add (1 * 1 + 0)) = _
      rw [addr_at0, h1]
      rfl
    | 0, hp, i + 1, hu => simp at hu
    | 1, hp, i + 1, hu => simp at hu
    | j + 2, hp, i, hu => simp at hp
/-- What stands while one buffer is written and asked. -/
structure Ag (w0 : World) (g gi ci : Nat) (cur all : List Int) (v7 : Value) (w : World) : Prop where
  h : HashAt w g all
  inn : Kd.R (Kd.int .u8) 5 w w0.heap.size (fun k => k = gi) (.slice (some ⟨gi, 0, none⟩) (cur ++ marks).length ci) (cur ++ marks)
  all : Kd.R (Kd.int .u8) 5 w w0.heap.size (fun k => k ≠ g ∧ k ≠ gi) v7 all
  tab : Tab w
  bel : Below w0.heap.size w0 w
theorem Ag.below {w0 : World} {g gi ci : Nat} {cur all : List Int} {v7 : Value} {w w' : World} (h : Ag w0 g gi ci cur all v7 w) (hb : Below w.heap.size w w') : Ag w0 g gi ci cur all v7 w' :=
  ⟨h.h.below hb, Kd.R_below h.inn hb, Kd.R_below h.all hb, h.tab.below hb, below_step h.bel hb⟩
theorem Ag.C {w0 : World} {g gi ci : Nat} {cur all : List Int} {v7 : Value} {w : World} (h : Ag w0 g gi ci cur all v7 w) : Kd.C (Kd.int .u8) w (some ⟨gi, 0, none⟩) cur.length cur := C_take0 (Kd.R_reads' h.inn).2.2
theorem Ag.cap {w0 : World} {g gi ci : Nat} {cur all : List Int} {v7 : Value} {w : World} (h : Ag w0 g gi ci cur all v7 w) : (cur ++ marks).length ≤ ci := (Kd.R_reads' h.inn).2.1
theorem Ag.cap0 {w0 : World} {g gi ci : Nat} {cur all : List Int} {v7 : Value} {w : World} (h : Ag w0 g gi ci cur all v7 w) : cur.length ≤ ci := by
  have := h.cap
  rw [List.length_append] at this
  omega
theorem Ag.write {w0 : World} {g gi ci : Nat} {cur all new : List Int} {v7 : Value} {w w' : World} (h : Ag w0 g gi ci cur all v7 w) (hne : gi ≠ g) (hw0 : w0.heap.size ≤ g) (hg0 : g ≠ 0) (hH : HashAt w' g new) (hb : But g w w') :
    HashAt w' g new ∧ Kd.R (Kd.int .u8) 5 w' w0.heap.size (fun k => k = gi) (.slice (some ⟨gi, 0, none⟩) (cur ++ marks).length ci) (cur ++ marks) ∧ Kd.R (Kd.int .u8) 5 w' w0.heap.size (fun k => k ≠ g ∧ k ≠ gi) v7 all ∧ Tab w' ∧ Below w0.heap.size w0 w' :=
  ⟨hH, Kd.R_step h.inn (fun k hk hlt => hb.block k hlt (by rw [hk]; exact hne)), Kd.R_step h.all (fun k hk hlt => hb.block k hlt hk.1), hb.tab h.tab hg0, But.below h.bel hb hw0⟩
theorem R_stay {w w1 : World} {base : Nat} {ok : Nat → Prop} {v : Value} {xs : List Int} {row : Option Nat} (h : Kd.R (Kd.int .u8) 5 w base ok v xs) (hg : w.grownBy w1 row) (hne : ∀ k, v.ownBlock = some k → some k ≠ row) : Kd.R (Kd.int .u8) 5 w1 base ok v xs :=
  Kd.R_mono (Kd.R_grown (Kd.R_flat (ok' := fun k => ok k ∧ v.ownBlock = some k) (fun h => h) h (fun k hk ho => ⟨ho, hk⟩)) hg (fun k hk => hne k hk.2)) (fun k hk => hk.1)
theorem Ag.grown {w0 : World} {g gi ci : Nat} {cur all : List Int} {v7 : Value} {w w' : World} {row : Option Nat} (h : Ag w0 g gi ci cur all v7 w) (hw : Below w0.heap.size w0 w') (ht : Tab w0) (hg : w.grownBy w' row) (h1 : some g ≠ row) (h2 : some gi ≠ row) (h3 : ∀ k, v7.ownBlock = some k → some k ≠ row) : Ag w0 g gi ci cur all v7 w' :=
  ⟨h.h.grown hg h1, Kd.R_grown h.inn hg (fun k hk => by rw [hk]; exact h2), R_stay h.all hg h3, ht.below hw, hw⟩
theorem below_none {w w' : World} (hg : w.grownBy w' none) : Below w.heap.size w w' := ⟨hg.os, hg.tape, hg.output, hg.size, fun i hi => hg.block i hi (by simp)⟩
theorem own_slice {gi n c : Nat} : (Value.slice (some ⟨gi, 0, none⟩) n c).ownBlock = some gi := rfl
theorem Ag.lt_in {w0 : World} {g gi ci : Nat} {cur all : List Int} {v7 : Value} {w : World} (h : Ag w0 g gi ci cur all v7 w) : gi < w.heap.size := Kd.R_lt h.inn gi rfl
theorem Ag.ge_in {w0 : World} {g gi ci : Nat} {cur all : List Int} {v7 : Value} {w : World} (h : Ag w0 g gi ci cur all v7 w) : w0.heap.size ≤ gi := Kd.R_base h.inn gi rfl
theorem Ag.cell {w0 : World} {g gi ci : Nat} {cur all : List Int} {v7 : Value} {w : World} (h : Ag w0 g gi ci cur all v7 w) (j : Nat) (hj : j < cur.length) : w.cell? ⟨gi, j, none⟩ = some (.int .u8 ((cur ++ marks).getD j 0)) ∧ w.frozen? ⟨gi, j, none⟩ = false := by
  have h_ := Kd.R_cell (0 : Int) h.inn (j : Int) (by omega) (by rw [List.length_append]; omega)
  rw [Int.toNat_natCast] at h_
  exact h_
theorem Ag.put {w0 : World} {g gi ci : Nat} {cur all : List Int} {v7 : Value} {w : World} (h : Ag w0 g gi ci cur all v7 w) (ht : Tab w0) (hne : gi ≠ g) (j : Nat) (hj : j < cur.length) (x : Int) : Ag w0 g gi ci (cur.set j x) all v7 (w.setCell ⟨gi, j, none⟩ (.int .u8 x)) := by
  have hp := Kd.R_put h.inn (j : Int) x
  rw [Int.toNat_natCast, List.set_append_left _ _ hj] at hp
  obtain ⟨hp1, hp2⟩ := hp
  have hb := h.bel.setCell (p := ⟨gi, j, none⟩) h.ge_in (.int .u8 x)
  refine ⟨h.h.grown hp2 (by intro e; cases e; exact hne rfl), ?_, R_stay h.all hp2 (fun k hk e => by cases e; exact (h.all.1 gi hk).2 rfl), ht.below hb, hb⟩
  have e : (cur.set j x ++ marks).length = (cur ++ marks).length := by simp
  rw [e]
  exact hp1
end Go.Proofs.YthnmpkhjpfhloaaDoor.M
