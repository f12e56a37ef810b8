import Derived.Test.YthnmpkhjpfhloaaDoorProg
import Derived.Below
import Derived.Deep.Draws
import Derived.Deep.AppendLies
import Derived.Maps.AppendAt
import Derived.OwnWalk
import Derived.Laws.BytesArg
import Derived.Laws.MakeOwn
import Derived.Laws.OwnMore
import Derived.Deep.OwnRows
import Derived.Tactics
import Derived.Lib.ConvBytes
import Derived.Laws.Slices
import Derived.WalkKit
import Derived.KernelRfl
import Derived.RowKit3
import Derived.Deep.LoopGhost
import Derived.Deep.QuietTactic
import Derived.BigQuiet
import Derived.WideLaws
import Derived.Deep.DeepCutAuto
import Derived.Deep.CutBlock
import Derived.Deep.RegionHeld3
import Derived.Laws.Rows
import Derived.Lib.AppendStr
import Derived.ArgAppend
import Derived.Laws.IdiomCopy
import Derived.OrdersHeld
import Derived.Laws.BitsLemmas
import Derived.RowKit
import Derived.Test.YthnmpkhjpfhloaaDoorWWords
import Derived.Test.YthnmpkhjpfhloaaDoorWLast
import Derived.Test.YthnmpkhjpfhloaaDoorWTab
import Derived.Test.YthnmpkhjpfhloaaDoorWFour
import Derived.Test.YthnmpkhjpfhloaaDoorWQPut
import Derived.Test.YthnmpkhjpfhloaaDoorWApart
import Derived.Test.YthnmpkhjpfhloaaDoorWArr
import Derived.Test.YthnmpkhjpfhloaaDoorWZeros
import Derived.Test.YthnmpkhjpfhloaaDoorWFoot
import Derived.Test.YthnmpkhjpfhloaaDoorWKept
import Derived.Test.YthnmpkhjpfhloaaDoorWShare
import Derived.Test.YthnmpkhjpfhloaaDoorWN
import Derived.Test.YthnmpkhjpfhloaaDoorWFootNe
import Derived.Test.YthnmpkhjpfhloaaDoorWAt
import Derived.Test.YthnmpkhjpfhloaaDoorWEqStruct
import Derived.Test.YthnmpkhjpfhloaaDoorWRepsOne
import Derived.Test.YthnmpkhjpfhloaaDoorWInv
import Derived.Test.YthnmpkhjpfhloaaDoorWInvWords
import Derived.Test.YthnmpkhjpfhloaaDoorWGuard
import Derived.Test.YthnmpkhjpfhloaaDoorWNEv
import Derived.Test.YthnmpkhjpfhloaaDoorWMore
import Derived.Laws.BitsAllLaws
import Derived.StillTailTactics
import Derived.Test.YthnmpkhjpfhloaaDoorMs
import Derived.Deep.WholeRow
import Derived.Test.YthnmpkhjpfhloaaDoorOb
namespace Go.Proofs.YthnmpkhjpfhloaaDoor.M
open Go.RowKit Go.Proofs.YthnmpkhjpfhloaaDoorW.PrintWords Go.Proofs.YthnmpkhjpfhloaaDoorW.PrintLast Go.Proofs.YthnmpkhjpfhloaaDoorW.PrintMore Go.Proofs.YthnmpkhjpfhloaaDoor.P
set_option linter.unusedVariables false
set_option linter.unusedSimpArgs false
theorem C_grown {k : IntKind} {A : Option Addr} {n : Nat} {xs : List Int} {w w' : World} {row : Option Nat} (h : (Kd.int k).C w A n xs) (hg : w.grownBy w' row) (hne : ∀ ad, A = some ad → some ad.block ≠ row) : (Kd.int k).C w' A n xs := by
  cases row with
  | none => exact Kd.C_below h (below_none hg)
  | some g => exact C_but h (fun _ ad e e2 => hne ad e (by rw [e2])) (fun j hj hlt => hg.block j hlt (fun e => hj (Option.some.inj e)))
theorem KP_at {w : World} {A : Option Addr} {n : Nat} {ps : List Piece} (h : KP.C w A n ps) (i : Nat) (p : Piece) (hp : ps[i]? = some p) : ∃ ad, A = some ad ∧ w.cell? (ad.add i) = some (.slice p.A p.l.length p.c) := by
  have hi : i < ps.length := (List.getElem?_eq_some_iff.1 hp).1
  obtain ⟨ad, e, hc⟩ := h.2.2 (by rw [← h.1]; omega)
  obtain ⟨c, hl, hr, hcell⟩ := hc i p hp
  have hr' : c = [p.enc] := hr
  have := hcell 0 p.enc (by rw [hr']; rfl)
  rw [show i * KP.sz + 0 = i from Nat.mul_one i] at this
  exact ⟨ad, e, this⟩
theorem RoomP.ok {base : Nat} {p : Piece} {w : World} (h : RoomP base p w) : p.ok w := by
  obtain ⟨g, e, hr⟩ := h
  have h1 := Kd.R_reads' hr
  refine ⟨by rw [e]; exact C_take0 h1.2.2, ?_⟩
  have := h1.2.1
  rw [List.length_append] at this
  omega
theorem OwnP.ok {base : Nat} {p : Piece} {w : World} (h : OwnP base p w) : p.ok w := ⟨(Kd.R_reads' h).2.2, (Kd.R_reads' h).2.1⟩
theorem KP_take {w : World} {A : Option Addr} {ps : List Piece} {mk : Piece} (h : KP.C w A (ps ++ [mk]).length (ps ++ [mk])) : KP.C w A ps.length ps := by
  refine ⟨rfl, by have := h.2.1; rw [List.length_append] at this; omega, fun hp => ?_⟩
  obtain ⟨ad, e, hc⟩ := h.2.2 (by rw [List.length_append]; omega)
  refine ⟨ad, e, fun j p hj => hc j p ?_⟩
  rw [List.getElem?_append_left (List.getElem?_eq_some_iff.1 hj).1]
  exact hj
/-- What stands once the parts and the mark lie. -/
structure Mn (w0 : World) (A4 A5 : Option Addr) (c5 : Nat) (mk : Piece) (ps qs : List Piece) (w : World) : Prop where
  out : KP.C w A4 (ps ++ [mk]).length (ps ++ [mk])
  deep : KP.C w A5 qs.length qs
  cap : qs.length ≤ c5
  room : ∀ p ∈ ps, RoomP w0.heap.size p w
  own : ∀ q ∈ qs, OwnP w0.heap.size q w
  mark : Kd.C (Kd.int .u8) w mk.A 4 [109, 97, 114, 107]
  tab : Tab w
  bel : Below w0.heap.size w0 w
theorem Mn.below {w0 : World} {A4 A5 : Option Addr} {c5 : Nat} {mk : Piece} {ps qs : List Piece} {w w' : World} (h : Mn w0 A4 A5 c5 mk ps qs w) (hb : Below w.heap.size w w') : Mn w0 A4 A5 c5 mk ps qs w' :=
  ⟨Kd.C_below h.out hb, Kd.C_below h.deep hb, h.cap, fun p hp => (h.room p hp).below hb, fun p hp => (h.own p hp).below hb, Kd.C_below h.mark hb, h.tab.below hb, below_step h.bel hb⟩
theorem joined_l0 (l : List (List Int)) (hl : l.flatten.length < 70368744177664) (hn : l.length < 70368744177664) : ∀ (n i : Nat) (acc : List Int), i + n = l.length → acc = (l.take i).flatten → kilnref2_Joined.l0 (n + 1) l acc (i : Int) = some l.flatten
  | 0, i, acc, hi, ha => by
    unfold kilnref2_Joined.l0
    rw [if_neg (by omega), ha, show i = l.length by omega, List.take_length]
  | n + 1, i, acc, hi, ha => by
    have hil : i < l.length := by omega
    have hstep : (l.take (i + 1)).flatten = acc ++ l.getD i [] := by
      rw [List.take_add_one, List.flatten_append, ← ha, List.getElem?_eq_getElem hil, List.getD_eq_getElem?_getD, List.getElem?_eq_getElem hil]
      simp
    have hlen : acc.length + (l.getD i []).length ≤ l.flatten.length := by
      rw [← List.length_append, ← hstep]
      conv => rhs; rw [← List.take_append_drop (i + 1) l]
      rw [List.flatten_append, List.length_append]
      omega
    unfold kilnref2_Joined.l0
    rw [if_pos (by omega), if_pos (by omega)]
    rw [show rd_L1 l (i : Int) = l.getD i [] from by first | rfl | (unfold rd_L1; rw [Int.toNat_natCast])]
    rw [if_pos (by omega), show wrap64 ((i : Int) + 1) = ((i + 1 : Nat) : Int) by unfold wrap64; omega]
    exact joined_l0 l hl hn n (i + 1) _ (by omega) hstep.symm
theorem joined_eq (l : List (List Int)) (hl : l.flatten.length < 70368744177664) (hn : l.length < 70368744177664) : kilnref2_Joined.f (l.length + 1) l = some l.flatten :=
  joined_l0 l hl hn l.length 0 [] (by omega) rfl
theorem le_total {p : Piece} {ps : List Piece} (h : p ∈ ps) : p.l.length ≤ total ps := by
  induction ps with
  | nil => cases h
  | cons x r ih =>
    have e : total (x :: r) = x.l.length + total r := by unfold total; simp
    rw [e]
    rcases List.mem_cons.1 h with h_ | h_
    · rw [h_]; omega
    · have := ih h_; omega
theorem mb_below {w0 : World} {A4 A5 : Option Addr} {c5 nk ty : Nat} {mk : Piece} {ps qs : List Piece} {ck : Array Value} {w w' : World} (h : Mn w0 A4 A5 c5 mk ps qs w ∧ w.heap[nk]? = some (.cells ck ty (0, 0))) (hb : Below w.heap.size w w') : Mn w0 A4 A5 c5 mk ps qs w' ∧ w'.heap[nk]? = some (.cells ck ty (0, 0)) := ⟨h.1.below hb, blk_below h.2 hb⟩
theorem cut_row {A4 : Option Addr} {c4 : Nat} (n : Nat) (h : n + 1 ≤ c4) : ∀ W : World, (Instr.slice 32 (.slice A4 (n + 1) c4) none (some (.int .i64 (n : Int))) none).run Tryd.prog W = .ok (.slice A4 n c4) W := by
  obtain ⟨i22, hi22, _, _, _⟩ := info_parts info22
  have h_ := cut_to (P := Tryd.prog) 32 22 .i64 Tryd.underlying32 hi22 A4 (n + 1) c4 (n : Int) (by omega) (by omega) h
  rw [Int.toNat_natCast] at h_
  exact h_
theorem cut_row1 {A4 : Option Addr} {c4 : Nat} (n : Nat) (h : n + 1 ≤ c4) : ∀ W : World, (Instr.slice 32 (.slice A4 n c4) none (some (.int .i64 ((n : Int) + 1))) none).run Tryd.prog W = .ok (.slice A4 (n + 1) c4) W := by
  obtain ⟨i22, hi22, _, _, _⟩ := info_parts info22
  have h_ := cut_room (P := Tryd.prog) 32 22 .i64 Tryd.underlying32 hi22 A4 n c4 ((n : Int) + 1) (by omega) (by omega)
  rw [show ((n : Int) + 1).toNat = n + 1 by omega] at h_
  exact h_
theorem mn_sum {w0 : World} {A4 A5 : Option Addr} {c4 c5 : Nat} {mk : Piece} {ps qs : List Piece} (hc : ps.length ≤ c4) (ht : total ps ≤ 70000) (W : World) (h : Mn w0 A4 A5 c5 mk ps qs W) :
    Calls Tryd.prog 11 #[.slice A4 ps.length c4] W fun e w' => e = .returned (.agg (arr8 (sumL (ps.map Piece.l).flatten))) ∧ Below W.heap.size W w' := by
  have h_ := sum_calls A4 c4 (ps.map Piece.l) W (by rw [List.length_map]; exact C_pieces (KP_take h.out) (fun p hp => (h.room p hp).ok)) (by rw [List.length_map]; exact hc) h.tab (Nat.lt_of_le_of_lt ht (by decide))
  rw [List.length_map] at h_
  exact h_
theorem mn_joined {w0 : World} {A4 A5 : Option Addr} {c5 : Nat} {mk : Piece} {ps qs : List Piece} (ht : total ps ≤ 70000) (hsm : ps.map Piece.l = qs.map Piece.l) (hpl : ps.length ≤ 40) (W : World) (h : Mn w0 A4 A5 c5 mk ps qs W) :
    Calls Tryd.prog 17 #[.slice A5 qs.length c5] W fun e w' => ∃ (A c : _), e = .returned (.slice A (ps.map Piece.l).flatten.length c) ∧ (Kd.int .u8).C w' A (ps.map Piece.l).flatten.length (ps.map Piece.l).flatten ∧ (ps.map Piece.l).flatten.length ≤ c ∧ Below W.heap.size W w' := by
  have hl : ps.length = qs.length := by have := congrArg List.length hsm; rwa [List.length_map, List.length_map] at this
  have hd := C_pieces h.deep (fun p hp => (h.own p hp).ok)
  rw [hsm]
  have ht' : (qs.map Piece.l).flatten.length ≤ 70000 := by rw [← hsm]; exact ht
  have h_ := kilnref2_Joined.calls ((qs.map Piece.l).length + 1) A5 c5 (qs.map Piece.l) (qs.map Piece.l).flatten W (by rw [List.length_map]; exact hd) (by rw [List.length_map]; exact h.cap) (joined_eq _ (by omega) (by rw [List.length_map]; omega))
  rw [List.length_map] at h_
  refine h_.mono ?_
  rintro e w' ⟨v, rfl, hr, hb⟩
  obtain ⟨A, c, e2⟩ := Kd.R_slice hr
  subst e2
  exact ⟨A, c, rfl, (Kd.R_reads' hr).2.2, (Kd.R_reads' hr).2.1, hb⟩
end Go.Proofs.YthnmpkhjpfhloaaDoor.M
