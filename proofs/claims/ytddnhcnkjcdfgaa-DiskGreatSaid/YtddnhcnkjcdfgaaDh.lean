import Derived.Test.YtddnhcnkjcdfgaaDg
import Derived.Test.YtddnhcnkjcdfgaaProg
import Derived.Below
import Derived.Deep.Draws
import Derived.Deep.AppendLies
import Derived.Maps.AppendAt
import Derived.OwnWalk
import Derived.Laws.BytesArg
import Derived.Laws.MakeOwn
import Derived.Laws.OwnMore
import Derived.Deep.OwnRows
import Derived.Tactics
import Derived.Lib.ConvBytes
import Derived.Laws.Slices
import Derived.WalkKit
import Derived.KernelRfl
import Derived.RowKit3
import Derived.Deep.LoopGhost
import Derived.Deep.QuietTactic
import Derived.BigQuiet
import Derived.WideLaws
import Derived.Deep.DeepCutAuto
import Derived.Deep.CutBlock
import Derived.Deep.RegionHeld3
import Derived.Laws.Rows
import Derived.Lib.AppendStr
import Derived.ArgAppend
import Derived.Laws.IdiomCopy
import Derived.OrdersHeld
import Derived.Laws.BitsLemmas
import Derived.RowKit
import Derived.Test.YtddnhcnkjcdfgaaWWords
import Derived.Test.YtddnhcnkjcdfgaaWLast
import Derived.Test.YtddnhcnkjcdfgaaWTab
import Derived.Test.YtddnhcnkjcdfgaaWFour
import Derived.Test.YtddnhcnkjcdfgaaWQPut
import Derived.Test.YtddnhcnkjcdfgaaWApart
import Derived.Test.YtddnhcnkjcdfgaaWArr
import Derived.Test.YtddnhcnkjcdfgaaWZeros
import Derived.Test.YtddnhcnkjcdfgaaWFoot
import Derived.Test.YtddnhcnkjcdfgaaWKept
import Derived.Test.YtddnhcnkjcdfgaaWShare
import Derived.Test.YtddnhcnkjcdfgaaWN
import Derived.Test.YtddnhcnkjcdfgaaWFootNe
import Derived.Test.YtddnhcnkjcdfgaaWAt
import Derived.Test.YtddnhcnkjcdfgaaWEqStruct
import Derived.Test.YtddnhcnkjcdfgaaWRepsOne
import Derived.Test.YtddnhcnkjcdfgaaWInv
import Derived.Test.YtddnhcnkjcdfgaaWInvWords
import Derived.Test.YtddnhcnkjcdfgaaWGuard
import Derived.Test.YtddnhcnkjcdfgaaWNEv
import Derived.Test.YtddnhcnkjcdfgaaWMore
import Derived.Laws.BitsAllLaws
import Derived.StillTailTactics
import Derived.Deep.WholeRow
import Derived.Maps.RangeWalk
import Derived.Maps.OwnOps
namespace Go.Proofs.Ytddnhcnkjcdfgaa.M
open Go.RowKit Go.Maps Go.Proofs.YtddnhcnkjcdfgaaW.PrintWords Go.Proofs.YtddnhcnkjcdfgaaW.PrintLast Go.Proofs.YtddnhcnkjcdfgaaW.PrintMore
set_option linter.unusedVariables false
set_option linter.unusedSimpArgs false
open Go.ChangeMaps (setBlock)
def DS.flush (s : DS) : DS := ⟨s.n, (List.range s.n).map s.cur, fun _ => [], 0, s.r, s.wr, wrap64 (s.fl + 1)⟩
section
variable {w w' : World} {base g lb cp mb k : Nat} {F G : Nat → Prop} {s : DS} {f : Nat → Value} {D : DataW Value}
/-- One sector that lasts is written over. -/
theorem DkIn.putL (h : DkIn w base g s lb cp mb f k D) (i : Nat) (hi : i < s.n) (b : List Int) (hb : b.length = 512) :
    DkIn (w.setCells lb (i * 512) (nums .u8 b)) base g ⟨s.n, s.L.set i b, s.W, s.c, s.r, s.wr, s.fl⟩ lb cp mb f k D ∧ w.grownBy (w.setCells lb (i * 512) (nums .u8 b)) (some lb) := by
  obtain ⟨c0, hl, hM, hc, hf⟩ := Kd.R_elem h.la [] (i : Int) (by omega) (by omega)
  have h3 := Kd.R_seg h.la (i : Int) (by omega) (by omega) (j := 0) (seg := nums .u8 b) hl hc (by show 0 + _ ≤ 512; rw [nums_length, hb]; decide) (x' := b) (okp := fun _ => False) ?_ (fun _ h => h.elim)
  · obtain ⟨h3, h4⟩ := h3
    rw [Int.toNat_natCast] at h3 h4
    have e : i * sec.sz + 0 = i * 512 := Nat.add_zero (i * 512)
    rw [e] at h3 h4
    have far := h4
    refine ⟨⟨blk_grown h.hd h4 (by have := h.lbg; simpa using this.symm), Rs.of h3, h.mp.kept h4 (by have := h.mbl; simpa using this), h.kc, h.at_, h.ks, fun j hj => (h.rows j hj).step (fun q hq hlt => h4.block q hlt (by have := (h.rowg hj hq).2.2; simpa using this)), h.wl, h.sep, h.sepl, h.gb, h.mbb, h.n2, h.nm⟩, h4⟩
  · refine ⟨hb, ?_⟩
    have hl' : c0.length = 512 := hl
    rw [List.take_zero, List.nil_append, List.drop_of_length_le (by rw [hl', nums_length, hb]; decide), List.append_nil]
theorem run_clear (hb : ∃ es ck, w.heap[mb]? = some (.map es ck)) (ty : TypeId) : ∃ ck, (Builtin.clear_ #[87] ty #[.map (some mb)]).run Try.prog w = .ok (.tuple #[]) (setBlock w mb (.map #[] ck)) := by
  obtain ⟨es, ck, hb⟩ := hb
  refine ⟨ck, ?_⟩
  simp [Builtin.clear_, run_underlying Try.underlying87, MapKept.run_getObj_map hb, MapKept.run_setObj_map _ hb, Result.andThen, setBlock]
theorem DkIn.clear (h : DkIn w base g s lb cp mb f k D) (ck : Nat) : DkIn (setBlock w mb (.map #[] ck)) base g ⟨s.n, s.L, fun _ => [], 0, s.r, s.wr, s.fl⟩ lb cp mb (fun _ => .slice none 0 0) 0 (.map []) ∧ Chg (fun x => x = mb) w (setBlock w mb (.map #[] ck)) := by
  obtain ⟨es, ck0, hb, r⟩ := h.mp
  have far : ∀ b, b ≠ mb → (setBlock w mb (.map #[] ck)).heap[b]? = w.heap[b]? := fun b hne => Go.ChangeMaps.heap_setBlock_other hb _ hne
  refine ⟨⟨(far g (fun e => h.mbg e.symm)).trans h.hd, h.la.step (fun b hb2 _ => far b (by cases hb2; exact fun e => h.mbl e.symm)), ⟨#[], ck, Go.ChangeMaps.heap_setBlock_same hb _, ⟨by simp, MapKept.stamped_empty ck, by simp⟩, Nat.le_refl _, rfl⟩, Nat.le_refl _, fun i _ => rfl, fun kl h => by simp [Maps.has] at h, fun i _ => ⟨fun k hk => by simp [Value.ownBlock] at hk, OwnRow.none_ _ _ _ _ _⟩, fun i _ => Nat.le_refl _, fun i j b _ _ h => by simp [Value.ownBlock] at h, fun i _ => by simp [Value.ownBlock], h.gb, h.mbb, h.n2, h.nm⟩, ⟨rfl, rfl, rfl, by simp [setBlock], fun b hlt hne => far b hne⟩⟩
end
end Go.Proofs.Ytddnhcnkjcdfgaa.M
