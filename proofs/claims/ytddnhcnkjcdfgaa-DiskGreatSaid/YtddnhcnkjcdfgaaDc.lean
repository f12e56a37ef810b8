import Derived.Test.YtddnhcnkjcdfgaaDb
import Derived.Deep.MidRow
import Derived.Great.BuildSlice
import Derived.Deep.DrawnRows
import Derived.Test.YtddnhcnkjcdfgaaProg
import Derived.Below
import Derived.Deep.Draws
import Derived.Deep.AppendLies
import Derived.Maps.AppendAt
import Derived.OwnWalk
import Derived.Laws.BytesArg
import Derived.Laws.MakeOwn
import Derived.Laws.OwnMore
import Derived.Deep.OwnRows
import Derived.Tactics
import Derived.Lib.ConvBytes
import Derived.Laws.Slices
import Derived.WalkKit
import Derived.KernelRfl
import Derived.RowKit3
import Derived.Deep.LoopGhost
import Derived.Deep.QuietTactic
import Derived.BigQuiet
import Derived.WideLaws
import Derived.Deep.DeepCutAuto
import Derived.Deep.CutBlock
import Derived.Deep.RegionHeld3
import Derived.Laws.Rows
import Derived.Lib.AppendStr
import Derived.ArgAppend
import Derived.Laws.IdiomCopy
import Derived.OrdersHeld
import Derived.Laws.BitsLemmas
import Derived.RowKit
import Derived.Test.YtddnhcnkjcdfgaaWWords
import Derived.Test.YtddnhcnkjcdfgaaWLast
import Derived.Test.YtddnhcnkjcdfgaaWTab
import Derived.Test.YtddnhcnkjcdfgaaWFour
import Derived.Test.YtddnhcnkjcdfgaaWQPut
import Derived.Test.YtddnhcnkjcdfgaaWApart
import Derived.Test.YtddnhcnkjcdfgaaWArr
import Derived.Test.YtddnhcnkjcdfgaaWZeros
import Derived.Test.YtddnhcnkjcdfgaaWFoot
import Derived.Test.YtddnhcnkjcdfgaaWKept
import Derived.Test.YtddnhcnkjcdfgaaWShare
import Derived.Test.YtddnhcnkjcdfgaaWN
import Derived.Test.YtddnhcnkjcdfgaaWFootNe
import Derived.Test.YtddnhcnkjcdfgaaWAt
import Derived.Test.YtddnhcnkjcdfgaaWEqStruct
import Derived.Test.YtddnhcnkjcdfgaaWRepsOne
import Derived.Test.YtddnhcnkjcdfgaaWInv
import Derived.Test.YtddnhcnkjcdfgaaWInvWords
import Derived.Test.YtddnhcnkjcdfgaaWGuard
import Derived.Test.YtddnhcnkjcdfgaaWNEv
import Derived.Test.YtddnhcnkjcdfgaaWMore
import Derived.Laws.BitsAllLaws
import Derived.StillTailTactics
import Derived.Deep.WholeRow
import Derived.Maps.RangeWalk
import Derived.Maps.OwnOps
namespace Go.Proofs.Ytddnhcnkjcdfgaa.M
open Go.RowKit Go.Maps Go.Proofs.YtddnhcnkjcdfgaaW.PrintWords Go.Proofs.YtddnhcnkjcdfgaaW.PrintLast Go.Proofs.YtddnhcnkjcdfgaaW.PrintMore
set_option linter.unusedVariables false
set_option linter.unusedSimpArgs false
def DS.put (s : DS) (i : Nat) (b : List Int) : DS := ⟨s.n, s.L, fun j => if j = i then s.W i ++ [b] else s.W j, s.c + 1, s.r, wrap64 (s.wr + 1), s.fl⟩
theorem spot_of_C {w : World} {ad : Addr} {n : Nat} {xs : List Int} (h : (Kd.int .u8).C w (some ad) n xs) (hn : 0 < n) : ad.spot = none := by
  obtain ⟨ad', e, hc⟩ := Kd.at_int h 0 (by omega) (by omega)
  cases e
  cases hs : ad.spot with
  | none => rfl
  | some q =>
    exfalso
    rw [show ad.add (0 : Int).toNat = ad from rfl] at hc
    unfold World.cell? at hc
    split at hc
    · simp [hs] at hc
    · cases hc
theorem rangeAt_of_C {w : World} {ad : Addr} {n : Nat} {xs : List Int} (h : (Kd.int .u8).C w (some ad) n xs) (hs : ad.spot = none) : w.rangeAt ad.block ad.off (nums .u8 xs) := by
  intro j v hv
  obtain ⟨hl, _, hc⟩ := h
  have hj : j < xs.length := by
    have := (List.getElem?_eq_some_iff.1 hv).1
    rwa [nums_length] at this
  obtain ⟨ad', e, hcell⟩ := hc (by omega)
  cases e
  obtain ⟨cs, hcl, hk, hcell⟩ := hcell j _ (List.getElem?_eq_getElem hj)
  have hk' : cs = [.int .u8 xs[j]] := hk
  have h1 := hcell 0 (.int .u8 xs[j]) (by rw [hk']; rfl)
  have hv' : v = .int .u8 xs[j] := by
    rw [nums, List.getElem?_map, List.getElem?_eq_getElem hj] at hv
    exact (Option.some.inj hv).symm
  rw [hv']
  rw [show j * (Kd.int .u8).sz + 0 = j from Nat.mul_one j] at h1
  rw [← h1]
  congr 1
  obtain ⟨b, o, sp⟩ := ad
  dsimp only at hs ⊢
  subst hs
  exact (Addr.add_mid b o j).symm
theorem sap (A : Option Addr) (c : Nat) (W : World) : (Instr.arrayAt 91 (.slice A 512 c)).run Try.prog W = .ok (.pointer A) W := by
  have h := run_underlying Try.underlying91 W
  simp [Instr.arrayAt, Sem.run_bind, h]
theorem key_int (i : Int) (h : -9223372036854775808 ≤ i ∧ i ≤ 9223372036854775807) : keyOf Try.prog 3 (.int .i64 i) = some (.int .i64 i) :=
  keyOf_int_mk Try.underlying3 (by simp [Lit.wf, IntKind.min, IntKind.max, IntKind.signed, IntKind.bits]; omega)
theorem keyed : Keyed Try.prog 3 := int_keyed Try.underlying3
theorem zero86 (W : World) : (zeroValue 86).run Try.prog W = .ok (.slice none 0 0) W := by kernel_rfl
section
variable {w w' : World} {base g lb cp mb k : Nat} {F G : Nat → Prop} {s : DS} {f : Nat → Value} {D : DataW Value}
/-- The look-up of a sector's writes. -/
theorem DkIn.look (h : DkIn w base g s lb cp mb f k D) (i : Nat) (hi : i < s.n) : (Instr.lookup 87 (.map (some mb)) (.int .i64 (i : Int)) false).run Try.prog w = .ok (f i) w := by
  have hm := h.nm
  obtain ⟨v, ps, hrun, hv⟩ := h.mp.lookup keyed Try.underlying87 (zero86 w) (zd := .held (.slice none 0 0)) (zp := []) rfl (key_int (i : Int) (by omega))
  have e := h.at_ i hi
  have hv' : (some (DataW.held v, ([] : List MemPlace))) = some (D.atKey (.int .i64 (i : Int)) (.held (.slice none 0 0)), ps) := hv
  rw [e] at hv'
  have : v = f i := by
    have h1 := congrArg Prod.fst (Option.some.inj hv')
    exact DataW.held.inj h1
  rw [← this]
  exact hrun
end
theorem fold_zip : ∀ (l : List Value) (k : Nat) (cs : List Value), k + l.length ≤ cs.length → (l.zipIdx k).foldl (fun (a : Array Value) (p : Value × Nat) => a.setIfInBounds (0 + p.2) p.1) cs.toArray = (cs.take k ++ l ++ cs.drop (k + l.length)).toArray
  | [], k, cs, h => by simp
  | x :: l, k, cs, h => by
    rw [List.length_cons] at h
    rw [List.zipIdx_cons, List.foldl_cons]
    simp only [Nat.zero_add, List.setIfInBounds_toArray]
    have h1 := fold_zip l (k + 1) (cs.set k x) (by rw [List.length_set]; omega)
    simp only [Nat.zero_add] at h1
    rw [h1]
    congr 1
    rw [List.take_set, List.drop_set_of_lt (by omega), List.take_succ_eq_append_getElem (by omega), List.length_cons]
    rw [List.set_append_right _ _ (by rw [List.length_take]; omega)]
    simp [Nat.min_eq_left (show k ≤ cs.length by omega), show k + 1 + l.length = k + (l.length + 1) by omega]
/-- A slice of one sector. -/
theorem run_bs (cells : Array Value) (h : cells.size = 512) (v : Value) (hv : v.cells = cells) (W : World) : (Instr.buildSlice 86 1 #[(0, v)]).run Try.prog W = .ok (.slice (some ⟨W.heap.size, 0, none⟩) 1 1) (W.alloc (.cells cells 91)) := by
  obtain ⟨i, hi, hz, hsz, hby⟩ := info_parts info91
  generalize Value.agg (Array.replicate 512 (.int .u8 0)) = zv at hz
  refine run_buildSlice W _ _ 1 _ cells i zv Try.underlying86 hi hz (by rw [hsz]; decide) (by rw [hsz]; decide) ?_
  have hl : ((Array.range (1 * i.size)).map (zv.cells[· % zv.cells.size]!)).size = 512 := by
    rw [Array.size_map, Array.size_range, hsz]
  generalize (Array.range (1 * i.size)).map (zv.cells[· % zv.cells.size]!) = z at hl
  have h1 := fold_zip cells.toList 0 z.toList (by rw [Array.length_toList, Array.length_toList, h, hl]; omega)
  rw [Array.toArray_toList] at h1
  have h2 : cells.zipIdx.foldl (fun cs (p : Value × Nat) => cs.setIfInBounds (0 + p.2) p.1) z = (cells.toList.zipIdx 0).foldl (fun cs (p : Value × Nat) => cs.setIfInBounds (0 + p.2) p.1) z := by
    rw [← Array.foldl_toList, Array.toList_zipIdx]
  rw [h1] at h2
  have h3 : (z.toList.take 0 ++ cells.toList ++ z.toList.drop (0 + cells.toList.length)).toArray = cells := by
    rw [List.drop_of_length_le (by rw [Array.length_toList, Array.length_toList, h, hl]; omega), List.append_nil, List.take_zero, List.nil_append, Array.toArray_toList]
  rw [h3] at h2
  have h4 : ((v.cells.size ≠ i.size) || decide (0 * i.size + v.cells.size > z.size)) = false := by rw [hv, h, hsz, hl]; decide
  show Instr.fill _ z [(0, v)] = some cells
  unfold Instr.fill
  simp only [h4, Bool.false_eq_true, if_false]
  unfold Instr.fill
  rw [hv, Nat.zero_mul]
  exact congrArg some h2
theorem wp_bs' {o : Oper} {x : Operand} {a : Act} {W : World} {K : Act → World → Prop} {Q : Exit → Act → World → Prop} (ho : o.op = .buildSlice 86 1 #[(0, x)]) (h : (a.eval x).cells.size = 512) :
    Oper.wp Try.prog o a W K Q = K (a.put o.dst (.slice (some ⟨W.heap.size, 0, none⟩) 1 1)) (W.alloc (.cells (a.eval x).cells 91)) := by
  have h1 := run_bs (a.eval x).cells h (a.eval x) rfl W
  unfold Oper.wp execOp
  simp only [ho, Sem.run_bind, List.map_toArray, List.map_cons, List.map_nil, h1, Result.andThen_ok]
  rfl
theorem wp_bs {d : Option Tmp} {x : Operand} {t : TypeId} {p : String} {af : Array Edge} {gd : Option (Nat × Bool)} {a : Act} {W : World} {K : Act → World → Prop} {Q : Exit → Act → World → Prop} (h : (a.eval x).cells.size = 512) :
    Oper.wp Try.prog ⟨d, .buildSlice 86 1 #[(0, x)], t, p, af, gd⟩ a W K Q = K (a.put d (.slice (some ⟨W.heap.size, 0, none⟩) 1 1)) (W.alloc (.cells (a.eval x).cells 91)) := wp_bs' rfl h
attribute [local go_sem ↓] Go.wp_at_zero Go.wp_at_succ wp_bs
end Go.Proofs.Ytddnhcnkjcdfgaa.M
