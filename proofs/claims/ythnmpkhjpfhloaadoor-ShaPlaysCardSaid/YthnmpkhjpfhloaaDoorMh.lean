import Derived.Test.YthnmpkhjpfhloaaDoorProg
import Derived.Below
import Derived.Deep.Draws
import Derived.Deep.AppendLies
import Derived.Maps.AppendAt
import Derived.OwnWalk
import Derived.Laws.BytesArg
import Derived.Laws.MakeOwn
import Derived.Laws.OwnMore
import Derived.Deep.OwnRows
import Derived.Tactics
import Derived.Lib.ConvBytes
import Derived.Laws.Slices
import Derived.WalkKit
import Derived.KernelRfl
import Derived.RowKit3
import Derived.Deep.LoopGhost
import Derived.Deep.QuietTactic
import Derived.BigQuiet
import Derived.WideLaws
import Derived.Deep.DeepCutAuto
import Derived.Deep.CutBlock
import Derived.Deep.RegionHeld3
import Derived.Laws.Rows
import Derived.Lib.AppendStr
import Derived.ArgAppend
import Derived.Laws.IdiomCopy
import Derived.OrdersHeld
import Derived.Laws.BitsLemmas
import Derived.RowKit
import Derived.Test.YthnmpkhjpfhloaaDoorWWords
import Derived.Test.YthnmpkhjpfhloaaDoorWLast
import Derived.Test.YthnmpkhjpfhloaaDoorWTab
import Derived.Test.YthnmpkhjpfhloaaDoorWFour
import Derived.Test.YthnmpkhjpfhloaaDoorWQPut
import Derived.Test.YthnmpkhjpfhloaaDoorWApart
import Derived.Test.YthnmpkhjpfhloaaDoorWArr
import Derived.Test.YthnmpkhjpfhloaaDoorWZeros
import Derived.Test.YthnmpkhjpfhloaaDoorWFoot
import Derived.Test.YthnmpkhjpfhloaaDoorWKept
import Derived.Test.YthnmpkhjpfhloaaDoorWShare
import Derived.Test.YthnmpkhjpfhloaaDoorWN
import Derived.Test.YthnmpkhjpfhloaaDoorWFootNe
import Derived.Test.YthnmpkhjpfhloaaDoorWAt
import Derived.Test.YthnmpkhjpfhloaaDoorWEqStruct
import Derived.Test.YthnmpkhjpfhloaaDoorWRepsOne
import Derived.Test.YthnmpkhjpfhloaaDoorWInv
import Derived.Test.YthnmpkhjpfhloaaDoorWInvWords
import Derived.Test.YthnmpkhjpfhloaaDoorWGuard
import Derived.Test.YthnmpkhjpfhloaaDoorWNEv
import Derived.Test.YthnmpkhjpfhloaaDoorWMore
import Derived.Laws.BitsAllLaws
import Derived.StillTailTactics
import Derived.Test.YthnmpkhjpfhloaaDoorMs
import Derived.Deep.WholeRow
import Derived.Test.YthnmpkhjpfhloaaDoorMr
import Derived.Laws.CopyOwn
namespace Go.Proofs.YthnmpkhjpfhloaaDoor.M
open Go.RowKit Go.Proofs.YthnmpkhjpfhloaaDoorW.PrintWords Go.Proofs.YthnmpkhjpfhloaaDoorW.PrintLast Go.Proofs.YthnmpkhjpfhloaaDoorW.PrintMore
set_option linter.unusedVariables false
set_option linter.unusedSimpArgs false
/-! A hash in memory. -/
def stL (h : List Nat) (rest : List Int) (n : Nat) : List Value := h.map (fun x : Nat => Value.int .u32 (x : Int)) ++ (rest.map (Value.int .u8) ++ [.int .i64 (n : Int)])
def stA (h : List Nat) (rest : List Int) (n : Nat) : Array Value := (stL h rest n).toArray
def HashAt (w : World) (g : Nat) (m : List Int) : Prop := ∃ h rest, w.heap[g]? = some (.cells (stA h rest m.length) 61 (0, 0)) ∧ h = hashB m (m.length / 64) ∧ rest.length = 64 ∧ rest.take (m.length % 64) = m.drop (64 * (m.length / 64))
structure But (g : Nat) (w w' : World) : Prop where
  os : w'.os = w.os
  tape : w'.tape = w.tape
  output : w'.output = w.output
  size : w.heap.size ≤ w'.heap.size
  block : ∀ k, k < w.heap.size → k ≠ g → w'.heap[k]? = w.heap[k]?
theorem But.refl (g : Nat) (w : World) : But g w w := ⟨rfl, rfl, rfl, Nat.le_refl _, fun _ _ _ => rfl⟩
theorem But.trans {g : Nat} {a b c : World} (h : But g a b) (k : But g b c) : But g a c :=
  ⟨k.os.trans h.os, k.tape.trans h.tape, k.output.trans h.output, Nat.le_trans h.size k.size, fun i hi hg => (k.block i (Nat.lt_of_lt_of_le hi h.size) hg).trans (h.block i hi hg)⟩
theorem But.of_below {g : Nat} {a b : World} (h : Below a.heap.size a b) : But g a b := ⟨h.os, h.tape, h.output, h.size, fun k hk _ => h.block k hk⟩
theorem But.setRow {g : Nat} {a b : World} (h : But g a b) (cs : Array Value) : But g a (b.setRow g cs) :=
  ⟨h.os, h.tape, h.output, by rw [setRow_size]; exact h.size, fun k hk hg => (setRow_other _ _ _ _ hg).trans (h.block k hk hg)⟩
theorem But.setCell {g : Nat} {a b : World} (h : But g a b) (j : Nat) (v : Value) : But g a (b.setCell ⟨g, j, none⟩ v) :=
  ⟨h.os, h.tape, h.output, by simpa [World.setCell] using h.size, fun k hk hg => (Below.heap_setCell b ⟨g, j, none⟩ v k hg).trans (h.block k hk hg)⟩
theorem But.below {g : Nat} {w0 a b : World} (h : Below w0.heap.size w0 a) (k : But g a b) (hg : w0.heap.size ≤ g) : Below w0.heap.size w0 b :=
  ⟨k.os.trans h.os, k.tape.trans h.tape, k.output.trans h.output, Nat.le_trans h.size k.size, fun i hi => (k.block i (Nat.lt_of_lt_of_le hi h.size) (by omega)).trans (h.block i hi)⟩
theorem But.tab {g : Nat} {a b : World} (k : But g a b) (h : Tab a) (hg : g ≠ 0) : Tab b := fun i hi => by
  have h1 := h i hi
  rw [World.cell?_of_block (w := a) (k.block _ (World.block_lt_of_cell? a _ h1) (fun e => hg e.symm))]
  exact h1
theorem But.C {g : Nat} {a b : World} {k : IntKind} {A : Option Addr} {n : Nat} {xs : List Int} (kb : But g a b) (h : (Kd.int k).C a A n xs) (hne : 0 < n → ∀ ad, A = some ad → ad.block ≠ g) : (Kd.int k).C b A n xs :=
  C_but h hne (fun j hj hl => kb.block j hl hj)
theorem stL_len {h : List Nat} {rest : List Int} (n : Nat) (hh : h.length = 8) (hr : rest.length = 64) : (stL h rest n).length = 73 := by simp [stL, hh, hr]
theorem stA_size {h : List Nat} {rest : List Int} (n : Nat) (hh : h.length = 8) (hr : rest.length = 64) : (stA h rest n).size = 73 := by rw [stA, List.size_toArray, stL_len n hh hr]
theorem stL_one (h : List Nat) (rest : List Int) (n : Nat) : (stA h rest n).all (·.oneCell') = true := by simp [stA, stL, Value.oneCell']
theorem st_h {w : World} {g : Nat} {h : List Nat} {rest : List Int} {n : Nat} {ty : Nat} (hb : w.heap[g]? = some (.cells (stA h rest n) ty (0, 0))) (hh : h.length = 8) (i : Nat) (hi : i < 8) : w.cell? ⟨g, i, none⟩ = some (.int .u32 ((get h i : Nat) : Int)) := by
  rw [blk_cell hb i]
  show (stL h rest n).toArray[i]? = _
  rw [List.getElem?_toArray, stL, List.getElem?_append_left (by simp [hh]; exact hi), List.getElem?_map, List.getElem?_eq_getElem (by omega)]
  simp [get, List.getElem?_eq_getElem (show i < h.length by omega)]
theorem st_r {w : World} {g : Nat} {h : List Nat} {rest : List Int} {n : Nat} {ty : Nat} (hb : w.heap[g]? = some (.cells (stA h rest n) ty (0, 0))) (hh : h.length = 8) (hr : rest.length = 64) (j : Nat) (hj : j < 64) : w.cell? ⟨g, 8 + j, none⟩ = some (.int .u8 (rest.getD j 0)) := by
  rw [blk_cell hb (8 + j)]
  show (stL h rest n).toArray[8 + j]? = _
  rw [List.getElem?_toArray, stL, List.getElem?_append_right (by simp [hh]), List.getElem?_append_left (by simp [hh, hr]; exact hj), List.getElem?_map]
  simp [hh, List.getElem?_eq_getElem (show j < rest.length by omega)]
theorem st_n {w : World} {g : Nat} {h : List Nat} {rest : List Int} {n : Nat} {ty : Nat} (hb : w.heap[g]? = some (.cells (stA h rest n) ty (0, 0))) (hh : h.length = 8) (hr : rest.length = 64) : w.cell? ⟨g, 72, none⟩ = some (.int .i64 (n : Int)) := by
  rw [blk_cell hb 72]
  show (stL h rest n).toArray[72]? = _
  rw [List.getElem?_toArray, stL, List.getElem?_append_right (by simp [hh]), List.getElem?_append_right (by simp [hh, hr])]
  simp [hh, hr]
theorem st_set_n {h : List Nat} {rest : List Int} (n n' : Nat) (hh : h.length = 8) (hr : rest.length = 64) : (stA h rest n).setIfInBounds 72 (.int .i64 (n' : Int)) = stA h rest n' := by
  unfold stA stL
  simp only [List.setIfInBounds_toArray]
  rw [List.set_append_right _ _ (by simp [hh]), List.set_append_right _ _ (by simp [hh, hr])]
  simp [hh, hr]
theorem st_splice {h : List Nat} {rest x : List Int} (n o : Nat) (hh : h.length = 8) (hr : rest.length = 64) (ho : o + x.length ≤ 64) : splice (stL h rest n) (8 + o) (x.map (Value.int .u8)) = stL h (splice rest o x) n := by
  unfold splice stL
  rw [List.take_append, List.take_of_length_le (by simp [hh]), List.take_append_of_le_length (by simp [hh, hr]; omega)]
  simp only [List.length_map, hh]
  rw [List.drop_append, List.drop_of_length_le (by simp [hh]; omega), List.drop_append_of_le_length (by simp [hh, hr]; omega)]
  simp [hh, List.map_take, List.map_drop, show 8 + o + x.length - 8 = o + x.length by omega]
theorem st_store {h h' : List Nat} {rest : List Int} (n : Nat) (hh : h.length = 8) : (stL h rest n).take (0 + 0) ++ (arr h').toList ++ (stL h rest n).drop (0 + 0 + 8) = stL h' rest n := by
  unfold stL arr
  rw [List.drop_append_of_le_length (by simp [hh]), List.drop_of_length_le (by simp [hh])]
  simp
theorem C_rest {w : World} {g : Nat} {h : List Nat} {rest : List Int} {n : Nat} {ty : Nat} (hb : w.heap[g]? = some (.cells (stA h rest n) ty (0, 0))) (hh : h.length = 8) (hr : rest.length = 64) : (Kd.int .u8).C w (some ⟨g, 8, none⟩) rest.length rest := by
  refine ⟨rfl, by rw [hr]; decide, fun _ => ⟨_, rfl, fun j p hp => ⟨[.int .u8 p], rfl, rfl, fun i u hu => ?_⟩⟩⟩
  have hj : j < rest.length := by
    by_cases hj : j < rest.length
    · exact hj
    · rw [List.getElem?_eq_none (by omega)] at hp; cases hp
  match i, hu with
  | 0, hu =>
    have hu' : Value.int .u8 p = u := by simpa using hu
    subst hu'
    have h1 := st_r hb hh hr j (by omega)
    have e : (⟨g, 8, none⟩ : Addr).add (j * 1 + 0) = ⟨g, 8 + j, none⟩ := by unfold Addr.add; split <;> simp_all
    show w.cell? ((⟨g, 8, none⟩ : Addr).add (j * 1 + 0)) = _
    rw [e, h1, List.getD_eq_getElem?_getD, hp]
    rfl
  | i + 1, hu => simp at hu
/-- 'copy' into a row: also where nothing is copied. -/
theorem wpList_copy_mine {P : Program} {w : World} {ops : Array Oper} {rest : List Oper} {o : Oper} {a : Act} {Q : Exit → Act → World → Prop} (hgd : o.guard = none) (d s : Operand) (dT sT : TypeId)
    (ho : o.op = .call { callee := .builtin .copy, args := #[d, s], argTypes := #[dT, sT] }) (elem : TypeId) (hu : P.underlying dT = some (.slice elem)) (hsz : (P.info? elem).map (·.size) = some 1)
    (dp sp : Option Addr) (dLen dCap sLen sCap : Nat) (hd : a.eval d = .slice dp dLen dCap) (hs : a.eval s = .slice sp sLen sCap)
    (g off : Nat) (cur : List Value) (t : TypeId) (hg : w.heap[g]? = some (.cells cur.toArray t (0, 0))) (cs : List Value) (hn : cs.length = Nat.min sLen dLen)
    (hpos : 0 < cs.length → dp = some ⟨g, off, none⟩ ∧ ∃ ad, sp = some ad ∧ ∀ j v, cs[j]? = some v → w.cell? (ad.add j) = some v)
    (hfit : off + cs.length ≤ cur.length) (h1 : ∀ v ∈ cs, v.oneCell' = true)
    (h : wpList P ops Q rest (a.put o.dst (goInt cs.length)) (w.setRow g (splice cur off cs).toArray)) :
    wpList P ops Q (o :: rest) a w := by
  by_cases h0 : cs.length = 0
  · obtain rfl : cs = [] := List.eq_nil_of_length_eq_zero h0
    refine wpList_copy_nothing hgd d s dT sT ho elem hu hsz dp sp dLen dCap sLen sCap hd hs (by simpa using hn.symm) ?_
    have e : w.setRow g (splice cur off []).toArray = w := by
      rw [show splice cur off [] = cur by simp [splice]]
      exact setRow_self w g cur.toArray t (0, 0) hg
    rw [e] at h
    exact h
  · obtain ⟨rfl, ad, rfl, hsrc⟩ := hpos (by omega)
    exact wpList_copy_own hgd d s dT sT ho elem hu hsz g off dLen dCap ad sLen sCap hd hs cur.toArray t hg cs hn hsrc (by simpa using hfit) h1 h
/-- The cells that a row of bytes reads. -/
theorem C_cells {w : World} {A : Option Addr} {n : Nat} {b : List Int} (h : (Kd.int .u8).C w A n b) (k : Nat) (hk : 0 < ((b.take k).map (Value.int .u8)).length) : ∃ ad, A = some ad ∧ ∀ j v, ((b.take k).map (Value.int .u8))[j]? = some v → w.cell? (ad.add j) = some v := by
  have hn : 0 < n := by have := h.1; simp at hk; omega
  obtain ⟨ad, e, hc⟩ := h.2.2 hn
  refine ⟨ad, e, fun j v hv => ?_⟩
  rw [List.getElem?_map] at hv
  cases hq : (b.take k)[j]? with
  | none => rw [hq] at hv; cases hv
  | some p =>
    rw [hq] at hv
    have hv' : Value.int .u8 p = v := by simpa using hv
    subst hv'
    have hb : b[j]? = some p := by
      rw [List.getElem?_take] at hq
      split at hq
      · exact hq
      · cases hq
    obtain ⟨c, hs, hr, hcell⟩ := hc j p hb
    have hr' : c = [.int .u8 p] := hr
    subst hr'
    have := hcell 0 _ rfl
    rwa [show j * (Kd.int .u8).sz + 0 = j from by show j * 1 + 0 = j; omega] at this
end Go.Proofs.YthnmpkhjpfhloaaDoor.M
