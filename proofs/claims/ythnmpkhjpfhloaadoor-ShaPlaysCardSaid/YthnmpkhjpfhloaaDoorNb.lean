import Derived.Test.YthnmpkhjpfhloaaDoorProg
import Derived.Below
import Derived.Deep.Draws
import Derived.Deep.AppendLies
import Derived.Maps.AppendAt
import Derived.OwnWalk
import Derived.Laws.BytesArg
import Derived.Laws.MakeOwn
import Derived.Laws.OwnMore
import Derived.Deep.OwnRows
import Derived.Tactics
import Derived.Lib.ConvBytes
import Derived.Laws.Slices
import Derived.WalkKit
import Derived.KernelRfl
import Derived.RowKit3
import Derived.Deep.LoopGhost
import Derived.Deep.QuietTactic
import Derived.BigQuiet
import Derived.WideLaws
import Derived.Deep.DeepCutAuto
import Derived.Deep.CutBlock
import Derived.Deep.RegionHeld3
import Derived.Laws.Rows
import Derived.Lib.AppendStr
import Derived.ArgAppend
import Derived.Laws.IdiomCopy
import Derived.OrdersHeld
import Derived.Laws.BitsLemmas
import Derived.RowKit
import Derived.Test.YthnmpkhjpfhloaaDoorWWords
import Derived.Test.YthnmpkhjpfhloaaDoorWLast
import Derived.Test.YthnmpkhjpfhloaaDoorWTab
import Derived.Test.YthnmpkhjpfhloaaDoorWFour
import Derived.Test.YthnmpkhjpfhloaaDoorWQPut
import Derived.Test.YthnmpkhjpfhloaaDoorWApart
import Derived.Test.YthnmpkhjpfhloaaDoorWArr
import Derived.Test.YthnmpkhjpfhloaaDoorWZeros
import Derived.Test.YthnmpkhjpfhloaaDoorWFoot
import Derived.Test.YthnmpkhjpfhloaaDoorWKept
import Derived.Test.YthnmpkhjpfhloaaDoorWShare
import Derived.Test.YthnmpkhjpfhloaaDoorWN
import Derived.Test.YthnmpkhjpfhloaaDoorWFootNe
import Derived.Test.YthnmpkhjpfhloaaDoorWAt
import Derived.Test.YthnmpkhjpfhloaaDoorWEqStruct
import Derived.Test.YthnmpkhjpfhloaaDoorWRepsOne
import Derived.Test.YthnmpkhjpfhloaaDoorWInv
import Derived.Test.YthnmpkhjpfhloaaDoorWInvWords
import Derived.Test.YthnmpkhjpfhloaaDoorWGuard
import Derived.Test.YthnmpkhjpfhloaaDoorWNEv
import Derived.Test.YthnmpkhjpfhloaaDoorWMore
import Derived.Laws.BitsAllLaws
import Derived.StillTailTactics
import Derived.Test.YthnmpkhjpfhloaaDoorMs
import Derived.Deep.WholeRow
import Derived.Test.YthnmpkhjpfhloaaDoorNa
import Derived.Test.YthnmpkhjpfhloaaDoorPx2
import Derived.Test.YthnmpkhjpfhloaaDoorCl
namespace Go.Proofs.YthnmpkhjpfhloaaDoor.M
open Go.RowKit Go.Proofs.YthnmpkhjpfhloaaDoorW.PrintWords Go.Proofs.YthnmpkhjpfhloaaDoorW.PrintLast Go.Proofs.YthnmpkhjpfhloaaDoorW.PrintMore Go.Proofs.YthnmpkhjpfhloaaDoor.P
set_option linter.unusedVariables false
set_option linter.unusedSimpArgs false
theorem cut_room {P : Program} (t e : TypeId) (kh : IntKind) {i : TypeInfo} (ht : P.underlying t = some (.slice e)) (hi : P.info? e = some i) (A : Option Addr) (n c : Nat) (j : Int) (h0 : 0 ≤ j) (hm : j ≤ c) :
    ∀ W : World, (Instr.slice t (.slice A n c) none (some (.int kh j)) none).run P W = .ok (.slice A j.toNat c) W := by
  intro W
  have hel : P.elem t = e := by simp [Program.elem, ht]
  have hu : P.underlying t = some (.slice (P.elem t)) := by rw [hel]; exact ht
  have ha : (A.map fun x => x.add 0) = A := by cases A <;> simp [Addr.add]
  rw [run_slice_h W t A n c hu kh j h0 (by omega), hel]
  simp [sizeOf, typeInfo, hi, sliced, Result.andThen, ha]
theorem addr_at0 (g n : Nat) : (⟨g, 0, none⟩ : Addr).add n = ⟨g, n, none⟩ := by
  unfold Addr.add
  split
  · rename_i h; subst h; rfl
  · simp
theorem addr_add0 (a : Addr) : a.add 0 = a := by unfold Addr.add; split <;> simp_all
theorem same_l0 (l : List Int) (hl : l.length < 70368744177664) : ∀ (n : Nat) (i : Int), 0 ≤ i → i + n = l.length → kilnlaw2_Same.l0 (n + 1) l l i = some true := by
  intro n
  induction n with
  | zero => intro i h0 hi; unfold kilnlaw2_Same.l0; rw [if_neg (by omega)]
  | succ n ih =>
    intro i h0 hi
    unfold kilnlaw2_Same.l0
    rw [if_pos (by omega), if_pos h0, if_pos (by omega), if_pos rfl, show wrap64 (i + 1) = i + 1 by unfold wrap64; omega]
    exact ih (i + 1) (by omega) (by omega)
theorem same_eq (l : List Int) (hl : l.length < 70368744177664) : kilnlaw2_Same.f (l.length + 1) l l = some true := by
  unfold kilnlaw2_Same.f
  rw [if_pos rfl]
  exact same_l0 l hl l.length 0 (by omega) (by omega)
theorem C_take0 {w : World} {A : Option Addr} {l m : List Int} (h : Kd.C (Kd.int .u8) w A (l ++ m).length (l ++ m)) : Kd.C (Kd.int .u8) w A l.length l := by
  have h_ := Kd.C_take (m := l.length) h (by rw [List.length_append]; omega)
  rwa [List.take_left] at h_
set_option maxHeartbeats 8000000 in
set_option maxRecDepth 100000 in
set_option pp.deepTerms true in
set_option pp.maxSteps 1000000 in
theorem intact_calls (g c : Nat) (l : List Int) (A1 : Option Addr) (c1 : Nat) (w : World) (h : Kd.C (Kd.int .u8) w (some ⟨g, 0, none⟩) (l ++ marks).length (l ++ marks)) (hc : (l ++ marks).length ≤ c) (h1 : Kd.C (Kd.int .u8) w A1 l.length l) (hc1 : l.length ≤ c1) (hl : l.length < 70368744177664) :
    Calls Tryd.prog 18 #[.slice (some ⟨g, 0, none⟩) l.length c, .slice A1 l.length c1] w fun e w' => e = .returned (.bool true) ∧ Below w.heap.size w w' := by
  have hm := marks_len
  rw [List.length_append] at hc
  have HS := Aside0.mk (kilnlaw2_Same.calls (l.length + 1) (some ⟨g, 0, none⟩) c l A1 c1 l true w (C_take0 h) (by omega) h1 hc1 (same_eq l hl))
  have HCE := Aside0.mk (fun (w' : World) (hb : Below w.heap.size w w') (j : Nat) (hj : j < 4) => (show w'.cell? ⟨g, l.length + j, none⟩ = some (.int .u8 (marks.getD j 0)) from by
    obtain ⟨ad', e, hx⟩ := Kd.at_int (Kd.C_below h hb) ((l.length + j : Nat) : Int) (by omega) (by rw [List.length_append]; omega)
    cases Option.some.inj e
    rw [Int.toNat_natCast] at hx
    have e2 : rd (l ++ marks) ((l.length + j : Nat) : Int) = marks.getD j 0 := by
      show (l ++ marks).getD (l.length + j) 0 = _
      rw [List.getD_eq_getElem?_getD, List.getElem?_append_right (by omega), List.getD_eq_getElem?_getD]
      congr 2
      omega
    rw [e2] at hx
    rw [show (⟨g, 0, none⟩ : Addr).add (l.length + j) = ⟨g, l.length + j, none⟩ from addr_at0 g _] at hx
    exact hx))
  obtain ⟨i05, hi05, _, hsz05, _⟩ := info_parts P.info5
  have hcut1 := cut_room (P := Tryd.prog) 22 5 .i64 Tryd.underlying22 hi05 (some ⟨g, 0, none⟩) l.length c ((l.length : Int) + 4) (by omega) (by omega)
  have hcut2 := cut_from (P := Tryd.prog) 22 5 .i64 Tryd.underlying22 hi05 1 (by simpa using hsz05) (some ⟨g, 0, none⟩) (l.length + 4) c (l.length : Int) (by omega) (by omega)
  rw [show ((l.length : Int) + 4).toNat = l.length + 4 by omega] at hcut1
  rw [Int.toNat_natCast, if_neg (by omega), Option.map_some, show l.length + 4 - l.length = 4 by omega] at hcut2
  have hll : wrap64 ((l.length : Int) + 4) = (l.length : Int) + 4 := by unfold wrap64; omega
  generalize c - l.length = c2 at hcut2
  rw [show (⟨g, 0, none⟩ : Addr).add (l.length * 1) = ⟨g, l.length, none⟩ by rw [Nat.mul_one]; exact addr_at0 g _] at hcut2
  clear hi05 hsz05 h h1 hc hc1 hm
  go_enter Tryd.func18, Tryd.ntmps18
  go_wp2_with (first
    | (go_at_call 31; (with_reducible refine HS.out.mono ?_); ( rintro e w1 ⟨rfl, hd⟩; have HB := Aside0.mk hd.below; clear hd; have hx0 := HCE.out _ HB.out 0 (by decide); have hx1 := HCE.out _ HB.out 1 (by decide); have hx2 := HCE.out _ HB.out 2 (by decide); have hx3 := HCE.out _ HB.out 3 (by decide); rw [Nat.add_zero] at hx0; rw [show marks.getD 0 0 = 201 by decide] at hx0; rw [show marks.getD 1 0 = 202 by decide] at hx1; rw [show marks.getD 2 0 = 203 by decide] at hx2; rw [show marks.getD 3 0 = 206 by decide] at hx3)))
  go_ret
  exact ⟨rfl, HB.out⟩
end Go.Proofs.YthnmpkhjpfhloaaDoor.M
