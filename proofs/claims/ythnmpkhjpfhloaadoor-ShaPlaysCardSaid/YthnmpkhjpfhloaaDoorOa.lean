import Derived.Test.YthnmpkhjpfhloaaDoorProg
import Derived.Below
import Derived.Deep.Draws
import Derived.Deep.AppendLies
import Derived.Maps.AppendAt
import Derived.OwnWalk
import Derived.Laws.BytesArg
import Derived.Laws.MakeOwn
import Derived.Laws.OwnMore
import Derived.Deep.OwnRows
import Derived.Tactics
import Derived.Lib.ConvBytes
import Derived.Laws.Slices
import Derived.WalkKit
import Derived.KernelRfl
import Derived.RowKit3
import Derived.Deep.LoopGhost
import Derived.Deep.QuietTactic
import Derived.BigQuiet
import Derived.WideLaws
import Derived.Deep.DeepCutAuto
import Derived.Deep.CutBlock
import Derived.Deep.RegionHeld3
import Derived.Laws.Rows
import Derived.Lib.AppendStr
import Derived.ArgAppend
import Derived.Laws.IdiomCopy
import Derived.OrdersHeld
import Derived.Laws.BitsLemmas
import Derived.RowKit
import Derived.Test.YthnmpkhjpfhloaaDoorWWords
import Derived.Test.YthnmpkhjpfhloaaDoorWLast
import Derived.Test.YthnmpkhjpfhloaaDoorWTab
import Derived.Test.YthnmpkhjpfhloaaDoorWFour
import Derived.Test.YthnmpkhjpfhloaaDoorWQPut
import Derived.Test.YthnmpkhjpfhloaaDoorWApart
import Derived.Test.YthnmpkhjpfhloaaDoorWArr
import Derived.Test.YthnmpkhjpfhloaaDoorWZeros
import Derived.Test.YthnmpkhjpfhloaaDoorWFoot
import Derived.Test.YthnmpkhjpfhloaaDoorWKept
import Derived.Test.YthnmpkhjpfhloaaDoorWShare
import Derived.Test.YthnmpkhjpfhloaaDoorWN
import Derived.Test.YthnmpkhjpfhloaaDoorWFootNe
import Derived.Test.YthnmpkhjpfhloaaDoorWAt
import Derived.Test.YthnmpkhjpfhloaaDoorWEqStruct
import Derived.Test.YthnmpkhjpfhloaaDoorWRepsOne
import Derived.Test.YthnmpkhjpfhloaaDoorWInv
import Derived.Test.YthnmpkhjpfhloaaDoorWInvWords
import Derived.Test.YthnmpkhjpfhloaaDoorWGuard
import Derived.Test.YthnmpkhjpfhloaaDoorWNEv
import Derived.Test.YthnmpkhjpfhloaaDoorWMore
import Derived.Laws.BitsAllLaws
import Derived.StillTailTactics
import Derived.Test.YthnmpkhjpfhloaaDoorMs
import Derived.Deep.WholeRow
import Derived.Test.YthnmpkhjpfhloaaDoorNc
namespace Go.Proofs.YthnmpkhjpfhloaaDoor.M
open Go.RowKit Go.Proofs.YthnmpkhjpfhloaaDoorW.PrintWords Go.Proofs.YthnmpkhjpfhloaaDoorW.PrintLast Go.Proofs.YthnmpkhjpfhloaaDoorW.PrintMore Go.Proofs.YthnmpkhjpfhloaaDoor.P
set_option linter.unusedVariables false
set_option linter.unusedSimpArgs false
/-! Rows of pieces, each in a row of its own. -/
theorem R_stayd {α : Type} {d : Kd α} {e : Nat} (fl : ∀ {w : World} {base : Nat} {ok1 ok2 : Nat → Prop} {x : α} {cs : List Value}, d.M w base ok1 x cs → d.M w base ok2 x cs) {w w1 : World} {base : Nat} {ok : Nat → Prop} {v : Value} {xs : List α} {row : Option Nat} (h : d.R e w base ok v xs) (hg : w.grownBy w1 row) (hne : ∀ k, v.ownBlock = some k → some k ≠ row) : d.R e w1 base ok v xs :=
  Kd.R_mono (Kd.R_grown (Kd.R_flat (ok' := fun k => ok k ∧ v.ownBlock = some k) fl h (fun k hk ho => ⟨ho, hk⟩)) hg (fun k hk => hne k hk.2)) (fun k hk => hk.1)
def total (ps : List Piece) : Nat := (ps.map Piece.l).flatten.length
theorem total_push (ps : List Piece) (p : Piece) : total (ps ++ [p]) = total ps + p.l.length := by
  unfold total
  rw [List.map_append, List.flatten_append, List.length_append]
  congr 1
  simp
def RoomP (base : Nat) (p : Piece) (w : World) : Prop := ∃ g, p.A = some ⟨g, 0, none⟩ ∧ Kd.R (Kd.int .u8) 5 w base (fun _ => True) (.slice (some ⟨g, 0, none⟩) (p.l ++ marks).length p.c) (p.l ++ marks)
def OwnP (base : Nat) (q : Piece) (w : World) : Prop := Kd.R (Kd.int .u8) 5 w base (fun _ => True) (.slice q.A q.l.length q.c) q.l
theorem RoomP.below {base : Nat} {p : Piece} {w w1 : World} (h : RoomP base p w) (hb : Below w.heap.size w w1) : RoomP base p w1 := by
  obtain ⟨g, e, hr⟩ := h
  exact ⟨g, e, Kd.R_below hr hb⟩
theorem RoomP.grown {base : Nat} {p : Piece} {w w1 : World} {row : Option Nat} (h : RoomP base p w) (hg : w.grownBy w1 row) (ht : ∀ k, row = some k → ∃ cells, w.heap[k]? = some (.cells cells 22 (0, 0))) : RoomP base p w1 := by
  obtain ⟨g, e, hr⟩ := h
  refine ⟨g, e, R_stay hr hg (fun k hk e2 => ?_)⟩
  obtain ⟨cells, hb⟩ := ht k e2.symm
  exact Kd.R_ne hr hb (by decide) hk.symm
theorem OwnP.below {base : Nat} {p : Piece} {w w1 : World} (h : OwnP base p w) (hb : Below w.heap.size w w1) : OwnP base p w1 := Kd.R_below h hb
theorem OwnP.grown {base : Nat} {p : Piece} {w w1 : World} {row : Option Nat} (h : OwnP base p w) (hg : w.grownBy w1 row) (ht : ∀ k, row = some k → ∃ cells, w.heap[k]? = some (.cells cells 22 (0, 0))) : OwnP base p w1 := by
  refine R_stay h hg (fun k hk e2 => ?_)
  obtain ⟨cells, hb⟩ := ht k e2.symm
  exact Kd.R_ne h hb (by decide) hk.symm
structure Two (w0 : World) (v4 v5 : Value) (ps qs : List Piece) (w : World) : Prop where
  out : KP.R 22 w w0.heap.size (fun _ => True) v4 ps
  deep : KP.R 22 w w0.heap.size (fun _ => True) v5 qs
  apart : ∀ k, v4.ownBlock = some k → v5.ownBlock ≠ some k
  room : ∀ p ∈ ps, RoomP w0.heap.size p w
  own : ∀ q ∈ qs, OwnP w0.heap.size q w
  bel : Below w0.heap.size w0 w
theorem Two.below {w0 : World} {v4 v5 : Value} {ps qs : List Piece} {w w1 : World} (h : Two w0 v4 v5 ps qs w) (hb : Below w.heap.size w w1) : Two w0 v4 v5 ps qs w1 :=
  ⟨Kd.R_below h.out hb, Kd.R_below h.deep hb, h.apart, fun p hp => (h.room p hp).below hb, fun p hp => (h.own p hp).below hb, below_step h.bel hb⟩
theorem Two.grow4 {w0 : World} {v4 v4' v5 : Value} {ps qs : List Piece} {p : Piece} {w w1 : World} (h : Two w0 v4 v5 ps qs w) (ho : KP.R 22 w1 w0.heap.size (fun _ => True) v4' (ps ++ [p])) (hb : Below w0.heap.size w0 w1) (hg : w.grownBy w1 v4.ownBlock)
    (hat : v4'.ownBlock = v4.ownBlock ∨ ∃ b, v4'.ownBlock = some b ∧ w.heap.size ≤ b) (hp : RoomP w0.heap.size p w) : Two w0 v4' v5 (ps ++ [p]) qs w1 := by
  have ty := Kd.R_typed h.out
  refine ⟨ho, R_stayd (fun h => h) h.deep hg (fun k hk e => h.apart k e.symm hk), fun k hk e => ?_, fun q hq => ?_, fun q hq => (h.own q hq).grown hg ty, hb⟩
  · rcases hat with h_ | ⟨b, h1, h2⟩
    · exact h.apart k (h_ ▸ hk) e
    · rw [h1] at hk
      have := Kd.R_lt h.deep k e
      have := Option.some.inj hk
      omega
  · rcases List.mem_append.1 hq with h_ | h_
    · exact (h.room q h_).grown hg ty
    · have e_ : q = p := by simpa using h_
      rw [e_]
      exact hp.grown hg ty
theorem Two.grow5 {w0 : World} {v4 v5 v5' : Value} {ps qs : List Piece} {p : Piece} {w w1 : World} (h : Two w0 v4 v5 ps qs w) (ho : KP.R 22 w1 w0.heap.size (fun _ => True) v5' (qs ++ [p])) (hb : Below w0.heap.size w0 w1) (hg : w.grownBy w1 v5.ownBlock)
    (hat : v5'.ownBlock = v5.ownBlock ∨ ∃ b, v5'.ownBlock = some b ∧ w.heap.size ≤ b) (hp : OwnP w0.heap.size p w) : Two w0 v4 v5' ps (qs ++ [p]) w1 := by
  have ty := Kd.R_typed h.deep
  refine ⟨R_stayd (fun h => h) h.out hg (fun k hk e => h.apart k hk e.symm), ho, fun k hk e => ?_, fun q hq => (h.room q hq).grown hg ty, fun q hq => ?_, hb⟩
  · rcases hat with h_ | ⟨b, h1, h2⟩
    · exact h.apart k hk (h_ ▸ e)
    · rw [h1] at e
      have := Kd.R_lt h.out k hk
      have := Option.some.inj e
      omega
  · rcases List.mem_append.1 hq with h_ | h_
    · exact (h.own q h_).grown hg ty
    · have e_ : q = p := by simpa using h_
      rw [e_]
      exact hp.grown hg ty
theorem row_at {w : World} {A : Option Addr} {n : Nat} {l : List (List Int)} (h : (Kd.slice 5 (Kd.int .u8)).C w A n l) (i : Nat) (hi : i < n) :
    ∃ ad A' c', A = some ad ∧ w.cell? (ad.add i) = some (.slice A' (l.getD i []).length c') ∧ (l.getD i []).length ≤ c' ∧ (Kd.int .u8).C w A' (l.getD i []).length (l.getD i []) := by
  obtain ⟨ad, c, e, hl, hk, hc⟩ := ReadsRow.get_ h [] (i : Int) (by omega) (by omega)
  rw [Int.toNat_natCast] at hk hc
  obtain ⟨A', c', e2, hle, hC⟩ := hk
  refine ⟨ad, A', c', e, ?_, hle, hC⟩
  have := hc 0 (.slice A' (l.getD i []).length c') (by rw [e2]; rfl)
  rwa [show i * (Kd.slice 5 (Kd.int .u8)).sz + 0 = i from Nat.mul_one i] at this
theorem cut_at (A : Option Addr) (b : List Int) (c m : Nat) (hc : b.length ≤ c) (W : World) : Calls Tryd.prog 20 #[.slice A b.length c, .int .i64 (m : Int)] W fun e w' => e = .returned (.slice A (b.take m).length c) ∧ w' = W := by
  by_cases h : b.length ≤ m
  · rw [List.take_of_length_le h]
    exact cut_small A b.length c m W (by omega) (by omega)
  · rw [show (b.take m).length = m by rw [List.length_take]; omega]
    exact cut_big A b.length c m W (by omega) hc
end Go.Proofs.YthnmpkhjpfhloaaDoor.M
