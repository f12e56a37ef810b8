import Derived.Test.YtddnhcnkjcdfgaaDd
import Derived.Great.Walk
import Derived.Test.YtddnhcnkjcdfgaaProg
import Derived.Below
import Derived.Deep.Draws
import Derived.Deep.AppendLies
import Derived.Maps.AppendAt
import Derived.OwnWalk
import Derived.Laws.BytesArg
import Derived.Laws.MakeOwn
import Derived.Laws.OwnMore
import Derived.Deep.OwnRows
import Derived.Tactics
import Derived.Lib.ConvBytes
import Derived.Laws.Slices
import Derived.WalkKit
import Derived.KernelRfl
import Derived.RowKit3
import Derived.Deep.LoopGhost
import Derived.Deep.QuietTactic
import Derived.BigQuiet
import Derived.WideLaws
import Derived.Deep.DeepCutAuto
import Derived.Deep.CutBlock
import Derived.Deep.RegionHeld3
import Derived.Laws.Rows
import Derived.Lib.AppendStr
import Derived.ArgAppend
import Derived.Laws.IdiomCopy
import Derived.OrdersHeld
import Derived.Laws.BitsLemmas
import Derived.RowKit
import Derived.Test.YtddnhcnkjcdfgaaWWords
import Derived.Test.YtddnhcnkjcdfgaaWLast
import Derived.Test.YtddnhcnkjcdfgaaWTab
import Derived.Test.YtddnhcnkjcdfgaaWFour
import Derived.Test.YtddnhcnkjcdfgaaWQPut
import Derived.Test.YtddnhcnkjcdfgaaWApart
import Derived.Test.YtddnhcnkjcdfgaaWArr
import Derived.Test.YtddnhcnkjcdfgaaWZeros
import Derived.Test.YtddnhcnkjcdfgaaWFoot
import Derived.Test.YtddnhcnkjcdfgaaWKept
import Derived.Test.YtddnhcnkjcdfgaaWShare
import Derived.Test.YtddnhcnkjcdfgaaWN
import Derived.Test.YtddnhcnkjcdfgaaWFootNe
import Derived.Test.YtddnhcnkjcdfgaaWAt
import Derived.Test.YtddnhcnkjcdfgaaWEqStruct
import Derived.Test.YtddnhcnkjcdfgaaWRepsOne
import Derived.Test.YtddnhcnkjcdfgaaWInv
import Derived.Test.YtddnhcnkjcdfgaaWInvWords
import Derived.Test.YtddnhcnkjcdfgaaWGuard
import Derived.Test.YtddnhcnkjcdfgaaWNEv
import Derived.Test.YtddnhcnkjcdfgaaWMore
import Derived.Laws.BitsAllLaws
import Derived.StillTailTactics
import Derived.Deep.WholeRow
import Derived.Maps.RangeWalk
import Derived.Maps.OwnOps
namespace Go.Proofs.Ytddnhcnkjcdfgaa.M
open Go.RowKit Go.Maps Go.Proofs.YtddnhcnkjcdfgaaW.PrintWords Go.Proofs.YtddnhcnkjcdfgaaW.PrintLast Go.Proofs.YtddnhcnkjcdfgaaW.PrintMore
set_option linter.unusedVariables false
set_option linter.unusedSimpArgs false
/-- The cells of a sector of zeros. -/
def zA : Array Value := (nums .u8 zeros).toArray
theorem zA_size : zA.size = 512 := by unfold zA; rw [List.size_toArray, nums_length, zeros_len]
theorem size91 : (Try.prog.info? 91).map (·.size) = some 512 := by kernel_rfl
theorem zero91 (W : World) : (zeroValue 91).run Try.prog W = .ok (.agg zA) W := by
  obtain ⟨i, hi, hz, hsz, hby⟩ := info_parts info91
  have e : Value.agg zA = Value.agg (Array.replicate 512 (.int .u8 0)) := by unfold zA; rw [zeros_nums, Array.toArray_toList]
  rw [e]
  generalize Value.agg (Array.replicate 512 (.int .u8 0)) = zv at hz
  simp [zeroValue, typeInfo, Sem.run_bind, hi, hz]
theorem run_alloc91 (W : World) : (Instr.alloc 91 true (.tuple #[])).run Try.prog W = .ok (.pointer (some ⟨W.heap.size, 0, none⟩)) (W.alloc (.cells zA 91)) := by
  unfold Instr.alloc
  rw [Sem.run_bind, zero91]
  simp only [Result.andThen_ok]
  simp [newVar, newRow, Sem.run_bind, Value.cells]
/-- A sector stored whole where a sector lies alone. -/
theorem run_put91 (W : World) (c : Array Value) (c' : List Value) (hc : c.size = 512) (hc' : c'.length = 512) (h1 : ∀ v ∈ c', v.oneCell' = true) :
    (Instr.storeAt 91 (.pointer (some ⟨W.heap.size, 0, none⟩)) (.agg c'.toArray)).run Try.prog (W.alloc (.cells c 91)) = .ok () (W.alloc (.cells c'.toArray 91)) := by
  obtain ⟨i, hi, hz, hsz, hby⟩ := info_parts info91
  have h := run_storeCells_new (P := Try.prog) W 91 c c'.toArray (by rw [List.size_toArray, hc']; exact size91) (by simp [hc', hc]) (all_oneCell_toArray h1)
  simp only [List.toList_toArray] at h
  simp [Instr.storeAt, Instr.sureAddr, storeVar, sizeOf, typeInfo, hi, hsz, Value.cells, hc', h]
theorem slice91 (n : Nat) (W : World) : (Instr.sliceAt 91 (.pointer (some ⟨n, 0, none⟩)) none none none).run Try.prog W = .ok (.slice (some ⟨n, 0, none⟩) 512 512) W := by
  have ha : Try.prog.arrayLen 91 = 512 := by kernel_rfl
  have he : Try.prog.elem 91 = 5 := by kernel_rfl
  have hs : (sizeOf 5).run Try.prog W = .ok 1 W := by
    obtain ⟨i, hi, _, hsz, _⟩ := info_parts info5
    simp [sizeOf, typeInfo, hi, hsz]
  rw [run_sliceAt_array_all W 91 ⟨n, 0, none⟩ (by kernel_rfl), he, hs, ha]
  rfl
def DS.reads (s : DS) : DS := ⟨s.n, s.L, s.W, s.c, wrap64 (s.r + 1), s.wr, s.fl⟩
/-- What Read tells. -/
def DS.cur (s : DS) (i : Nat) : List Int := match (s.W i).getLast? with | some b => b | none => s.L.getD i []
theorem sec_at {w : World} {base b n c : Nat} {l : List (List Int)} (h : Rs w base (.slice (some ⟨b, 0, none⟩) n c) l) (i : Nat) (hi : i < n) :
    w.rangeAt b (i * 512) (nums .u8 (l.getD i [])) ∧ (l.getD i []).length = 512 ∧ w.there b (i * 512) 512 := by
  obtain ⟨cs, hl, hM, hc, hf⟩ := Kd.R_elem h [] (i : Int) (by omega) (by omega)
  rw [Int.toNat_natCast] at hM hc hf
  obtain ⟨h1, h2⟩ := hM
  refine ⟨fun j v hv => hc j v (by rw [h2]; exact hv), h1, fun j hj => ⟨?_, hf j⟩⟩
  have hj' : j < cs.length := by rw [hl]; exact hj
  have := hc j _ (List.getElem?_eq_getElem hj')
  show (w.cell? ⟨b, i * 512 + j, none⟩).isSome = true
  rw [show i * 512 + j = i * sec.sz + j from rfl, this]
  rfl
theorem nums_one (l : List Int) : ∀ v ∈ nums .u8 l, v.oneCell' = true := fun v hv => by obtain ⟨y, _, rfl⟩ := List.mem_map.1 hv; rfl
section
variable {ops : Array Oper} {rest : List Oper} {o : Oper} {a : Act} {Q : Exit → Act → World → Prop} {W : World}
theorem ld91 (x : Operand) (ho : o.op = .load 91 x) (hg : o.guard = none) (b off : Nat) (hx : a.eval x = .pointer (some ⟨b, off, none⟩)) (cs : List Value) (hl : cs.length = 512) (hr : W.rangeAt b off cs)
    (h : wpList Try.prog ops Q rest (a.put o.dst (.agg cs.toArray)) W) : wpList Try.prog ops Q (o :: rest) a W :=
  wpList_load_mid hg _ x ho b off hx cs _ hr Try.underlying91 rfl (by rw [hl]; exact size91) h
theorem al91 (ho : o.op = .alloc 91) (hg : o.guard = none) (n : Nat) (hn : W.heap.size = n)
    (h : wpList Try.prog ops Q rest (a.put o.dst (.pointer (some ⟨n, 0, none⟩))) (W.alloc (.cells zA 91))) : wpList Try.prog ops Q (o :: rest) a W := by
  subst hn
  refine Great.wpList_runTo hg _ rfl _ _ ?_ h
  unfold execOp
  rw [ho]
  simp only [Sem.run_bind, run_alloc91, Result.andThen_ok]
  rfl
theorem st91 (x y : Operand) (ho : o.op = .store 91 x y) (hg : o.guard = none) (hd : o.dst = none) (n : Nat) (hn : W.heap.size = n) (c : Array Value) (c' : List Value) (hc : c.size = 512) (hc' : c'.length = 512) (h1 : ∀ v ∈ c', v.oneCell' = true)
    (hx : a.eval x = .pointer (some ⟨n, 0, none⟩)) (hy : a.eval y = .agg c'.toArray)
    (h : wpList Try.prog ops Q rest a (W.alloc (.cells c'.toArray 91))) : wpList Try.prog ops Q (o :: rest) a (W.alloc (.cells c 91)) := by
  subst hn
  refine wpList_plain hg fun K hK => ?_
  unfold Oper.wp execOp
  rw [ho]
  simp only [hx, hy, Sem.run_bind, run_put91 W c c' hc hc' h1, Result.andThen_ok]
  show K (a.put o.dst undef) _
  rw [hd]
  exact hK _ _ h
end
theorem C_blk {W : World} {n ty : Nat} {l : List Int} (h : W.heap[n]? = some (.cells (nums .u8 l).toArray ty (0, 0))) (hl : l.length ≤ 9223372036854775807) : (Kd.int .u8).C W (some ⟨n, 0, none⟩) l.length l := by
  refine ⟨rfl, hl, fun _ => ⟨_, rfl, fun j p hp => ⟨[.int .u8 p], rfl, rfl, fun i u hu => ?_⟩⟩⟩
  match i, hu with
  | 0, hu =>
    have hu' : Value.int .u8 p = u := by simpa using hu
    subst hu'
    show W.cell? ((⟨n, 0, none⟩ : Addr).add (j * 1 + 0)) = _
    rw [Nat.mul_one, Nat.add_zero, Addr.add_mid, Nat.zero_add, blk_cell h]
    simp [nums, hp]
  | i + 1, hu => simp at hu
end Go.Proofs.Ytddnhcnkjcdfgaa.M
