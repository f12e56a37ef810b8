import Derived.Test.YtddnhcnkjcdfgaaDa
import Derived.WalkSpells
import Derived.Test.YtddnhcnkjcdfgaaProg
import Derived.Below
import Derived.Deep.Draws
import Derived.Deep.AppendLies
import Derived.Maps.AppendAt
import Derived.OwnWalk
import Derived.Laws.BytesArg
import Derived.Laws.MakeOwn
import Derived.Laws.OwnMore
import Derived.Deep.OwnRows
import Derived.Tactics
import Derived.Lib.ConvBytes
import Derived.Laws.Slices
import Derived.WalkKit
import Derived.KernelRfl
import Derived.RowKit3
import Derived.Deep.LoopGhost
import Derived.Deep.QuietTactic
import Derived.BigQuiet
import Derived.WideLaws
import Derived.Deep.DeepCutAuto
import Derived.Deep.CutBlock
import Derived.Deep.RegionHeld3
import Derived.Laws.Rows
import Derived.Lib.AppendStr
import Derived.ArgAppend
import Derived.Laws.IdiomCopy
import Derived.OrdersHeld
import Derived.Laws.BitsLemmas
import Derived.RowKit
import Derived.Test.YtddnhcnkjcdfgaaWWords
import Derived.Test.YtddnhcnkjcdfgaaWLast
import Derived.Test.YtddnhcnkjcdfgaaWTab
import Derived.Test.YtddnhcnkjcdfgaaWFour
import Derived.Test.YtddnhcnkjcdfgaaWQPut
import Derived.Test.YtddnhcnkjcdfgaaWApart
import Derived.Test.YtddnhcnkjcdfgaaWArr
import Derived.Test.YtddnhcnkjcdfgaaWZeros
import Derived.Test.YtddnhcnkjcdfgaaWFoot
import Derived.Test.YtddnhcnkjcdfgaaWKept
import Derived.Test.YtddnhcnkjcdfgaaWShare
import Derived.Test.YtddnhcnkjcdfgaaWN
import Derived.Test.YtddnhcnkjcdfgaaWFootNe
import Derived.Test.YtddnhcnkjcdfgaaWAt
import Derived.Test.YtddnhcnkjcdfgaaWEqStruct
import Derived.Test.YtddnhcnkjcdfgaaWRepsOne
import Derived.Test.YtddnhcnkjcdfgaaWInv
import Derived.Test.YtddnhcnkjcdfgaaWInvWords
import Derived.Test.YtddnhcnkjcdfgaaWGuard
import Derived.Test.YtddnhcnkjcdfgaaWNEv
import Derived.Test.YtddnhcnkjcdfgaaWMore
import Derived.Laws.BitsAllLaws
import Derived.StillTailTactics
import Derived.Deep.WholeRow
import Derived.Maps.RangeWalk
import Derived.Maps.OwnOps
namespace Go.Proofs.Ytddnhcnkjcdfgaa.M
open Go.RowKit Go.Maps Go.Proofs.YtddnhcnkjcdfgaaW.PrintWords Go.Proofs.YtddnhcnkjcdfgaaW.PrintLast Go.Proofs.YtddnhcnkjcdfgaaW.PrintMore
set_option linter.unusedVariables false
set_option linter.unusedSimpArgs false
theorem info5 : (Try.prog.info? 5).map (fun i => (i.zero, i.size, i.bytes)) = some (some (.int .u8 0), 1, 1) := by kernel_rfl
theorem empty_row {d : IntKind} (W : World) (e base : Nat) (hb : base ≤ W.heap.size) : Kd.R (Kd.int d) e (W.alloc (.cells #[] e)) base (fun _ => True) (.slice (some ⟨W.heap.size, 0, none⟩) 0 0) [] := by
  have h := World.ownsRow_lit (base := base) (e := e) (size := 1) W #[] 0 hb (by decide) (by simp)
  exact Kd.R_of_own (enc := Value.int d) (h1 := fun _ => rfl) (xs := []) (by simpa [encs] using h) (fun _ _ => trivial)
set_option maxHeartbeats 4000000 in
set_option maxRecDepth 100000 in
/-- slices.Clone of bytes that are there: a row of one's own. -/
theorem clone_calls (ad : Addr) (n c : Nat) (xs : List Int) (w : World) (h : (Kd.int .u8).C w (some ad) n xs) (hl : n ≤ 1000000) :
    Calls Try.prog 44 #[.slice (some ad) n c] w fun e w' => ∃ v, e = .returned v ∧ Kd.R (Kd.int .u8) 5 w' w.heap.size (fun _ => True) v xs ∧ Below w.heap.size w w' := by
  have hq : ∀ W : World, (binOp .eql 28 (.slice (some ad) n c) (.slice none 0 0)).run Try.prog W = .ok (.bool false) W := fun W => Lib.run_eql_slice_nil W _ 5 (some ad) n c 0 0 Try.underlying28
  have HH := Aside0.mk h
  have HL := Aside0.mk hl
  clear h hl
  go_enter Try.func44, Try.ntmps44
  go_wp2_with ((with_reducible refine gate_builtin (b := .append) (xs := #[.tmp 5, .tmp 6]) rfl ?_); (try (refine gate_guard (by rfl) ?_; dsimp only)); at_builtin; refine Kd.R_append_rows (Kd.int .u8) (w0 := w) w.heap.size rfl (.tmp 5) (.tmp 6) 28 5 (.int .u8 0) 1 rfl Try.underlying28 info5 rfl (by decide) (by omega) (.slice (some ⟨w.heap.size, 0, none⟩) 0 0) ([] : List Int) xs (some ad) n c (fun _ => True) (fun _ => False) rfl rfl ?aO ?aR (fun _ _ h => h) (fun _ h => h.elim) ?aF ?aB ?aS ?aL ?_; (case aO => exact empty_row w 5 w.heap.size (Nat.le_refl _)); (case aR => exact Kd.C_below HH.out (below_alloc (Below.refl _ _) _)); (case aF => exact (fun k hk => trivial)); (case aB => exact below_alloc (Below.refl _ _) _); (case aS => simp); (case aL => (have := HL.out; simp; omega)); intro v9 w9 ho hb hg hat)
  go_ret
  exact ⟨v9, rfl, by simpa using ho, hb⟩
theorem info91 : (Try.prog.info? 91).map (fun i => (i.zero, i.size, i.bytes)) = some (some (.agg (Array.replicate 512 (.int .u8 0))), 512, 512) := by kernel_rfl
def zeros : List Int := List.replicate 512 0
theorem zeros_len : zeros.length = 512 := by unfold zeros; rw [List.length_replicate]
theorem zeros_nums : nums .u8 zeros = (Array.replicate 512 (Value.int .u8 0)).toList := by unfold zeros nums; rw [List.map_replicate, Array.toList_replicate]
/-- Nothing is written yet. -/
def DS.fresh (n : Nat) (L : List (List Int)) : DS := ⟨n, L, fun _ => [], 0, 0, 0, 0⟩
set_option maxHeartbeats 4000000 in
set_option maxRecDepth 100000 in
theorem many_calls (n : Int) (w : World) : Calls Try.prog 43 #[.int .i64 n] w fun e w' => e = .returned (.bool (decide (2 ≤ n ∧ n ≤ 65536))) ∧ w' = w := by
  by_cases h : 2 ≤ n
  · have h1 : decide (2 ≤ n) = true := decide_eq_true h
    by_cases h2 : n ≤ 65536
    · have h3 : decide (n ≤ 65536) = true := decide_eq_true h2
      rw [show decide (2 ≤ n ∧ n ≤ 65536) = true from decide_eq_true ⟨h, h2⟩]
      clear h h2
      go_enter Try.func43, Try.ntmps43
      go_wp2
      go_ret
      exact ⟨rfl, rfl⟩
    · have h3 : decide (n ≤ 65536) = false := decide_eq_false h2
      rw [show decide (2 ≤ n ∧ n ≤ 65536) = false from decide_eq_false (fun h => h2 h.2)]
      clear h h2
      go_enter Try.func43, Try.ntmps43
      go_wp2
      go_ret
      exact ⟨rfl, rfl⟩
  · have h1 : decide (2 ≤ n) = false := decide_eq_false h
    rw [show decide (2 ≤ n ∧ n ≤ 65536) = false from decide_eq_false (fun h2 => h h2.1)]
    clear h
    go_enter Try.func43, Try.ntmps43
    go_wp2
    go_ret
    exact ⟨rfl, rfl⟩
set_option maxHeartbeats 4000000 in
set_option maxRecDepth 100000 in
theorem outside_calls (g : Nat) (i : Int) (n : Nat) (A : Option Addr) (c : Nat) (w : World) (hd : w.cell? ⟨g, 0, none⟩ = some (.slice A n c)) : Calls Try.prog 41 #[.pointer (some ⟨g, 0, none⟩), .int .i64 i] w fun e w' => e = .returned (.bool (!decide (0 ≤ i ∧ i < (n : Int)))) ∧ w' = w := by
  by_cases h : i < 0
  · have h1 : decide (i < 0) = true := decide_eq_true h
    rw [show (!decide (0 ≤ i ∧ i < (n : Int))) = true by simp; omega]
    clear h
    go_enter Try.func41, Try.ntmps41
    go_wp2
    go_ret
    exact ⟨rfl, rfl⟩
  · have h1 : decide (i < 0) = false := decide_eq_false h
    by_cases h2 : (n : Int) ≤ i
    · have h3 : decide ((n : Int) ≤ i) = true := decide_eq_true h2
      rw [show (!decide (0 ≤ i ∧ i < (n : Int))) = true by simp; omega]
      clear h h2
      go_enter Try.func41, Try.ntmps41
      go_wp2
      go_ret
      exact ⟨rfl, rfl⟩
    · have h3 : decide ((n : Int) ≤ i) = false := decide_eq_false h2
      rw [show (!decide (0 ≤ i ∧ i < (n : Int))) = false by simp; omega]
      clear h h2
      go_enter Try.func41, Try.ntmps41
      go_wp2
      go_ret
      exact ⟨rfl, rfl⟩
theorem fresh_at {w : World} {base lb cp n : Nat} {L : List (List Int)} (hr : Rs w base (.slice (some ⟨lb, 0, none⟩) n cp) L) (hb : base ≤ w.heap.size) (h2 : 2 ≤ n) (hm : n ≤ 65536) :
    ∃ F, DkAt ((w.alloc (.map #[] 0)).alloc (.cells #[.slice (some ⟨lb, 0, none⟩) n cp, .map (some w.heap.size), .int .i64 0, .int .i64 0, .int .i64 0] 89)) base (w.heap.size + 1) F (DS.fresh n L) := by
  have hs : (w.alloc (.map #[] 0)).heap.size = w.heap.size + 1 := by simp
  refine ⟨_, lb, cp, w.heap.size, fun _ => .slice none 0 0, 0, .map [], ⟨?_, ?_, ?_, Nat.le_refl _, fun i _ => rfl, fun kl h => by simp [Maps.has] at h, fun i _ => ⟨fun k hk => by simp [Value.ownBlock] at hk, OwnRow.none_ _ _ _ _ _⟩, fun i _ => Nat.le_refl _, fun i j b _ _ h => by simp [Value.ownBlock] at h, fun i _ => by simp [Value.ownBlock], by omega, hb, h2, hm⟩, fun b => Iff.rfl⟩
  · have := heap_alloc_new (w.alloc (.map #[] 0)) (.cells #[.slice (some ⟨lb, 0, none⟩) n cp, .map (some w.heap.size), .int .i64 0, .int .i64 0, .int .i64 0] 89)
    rw [hs] at this
    exact this
  · exact (hr.below (below_alloc (Below.refl _ _) _)).below (below_alloc (Below.refl _ _) _)
  · exact (World.ownsMap_made w _ _ _).alloc _
set_option maxHeartbeats 4000000 in
set_option maxRecDepth 100000 in
/-- A new disk. -/
theorem new_calls (n : Nat) (w : World) (h2 : 2 ≤ n) (hm : n ≤ 65536) :
    Calls Try.prog 21 #[.int .i64 (n : Int)] w fun e w' => ∃ g F, e = .returned (.tuple #[.pointer (some ⟨g, 0, none⟩), .int .i64 0]) ∧ DkAt w' w.heap.size g F (DS.fresh n (List.replicate n zeros)) ∧ Below w.heap.size w w' := by
  have Hmany := Aside0.mk (fun (W : World) => (show Calls Try.prog 43 #[.int .i64 (n : Int)] W fun e w' => e = .returned (.bool true) ∧ w' = W from by
    have h_ := many_calls (n : Int) W
    rw [show decide (2 ≤ (n : Int) ∧ (n : Int) ≤ 65536) = true from decide_eq_true (by omega)] at h_
    exact h_))
  have H2 := Aside0.mk h2
  have HM := Aside0.mk hm
  have hmm := @run_makeMap Try.prog
  have hz := Aside0.mk zeros_nums
  clear h2 hm
  go_enter Try.func21, Try.ntmps21
  go_wp2_with (first
    | (go_at_call 43; (with_reducible refine (Hmany.out _).mono ?_); rintro e w1 ⟨rfl, hw_⟩; subst hw_)
    | (at_make; refine Kd.R_make sec (w0 := w1) w1.heap.size 91 rfl (N := 8) rfl 86 (.tmp 7) (.tmp 7) rfl (n : Int) rfl rfl Try.underlying86 (.agg (Array.replicate 512 (.int .u8 0))) 512 info91 (by simp [sec, Value.cells]) (by decide) (by decide) zeros (ok := fun _ => True) (okp := fun _ => True) ?mz (fun _ h => h) trivial (by omega) ?ml (Below.refl _ _) (Nat.le_refl _) ?_; (case mz => exact ⟨zeros_len, hz.out.symm⟩); (case ml => have := HM.out; omega); intro v8 w2 hr hb hg hat; obtain ⟨lb, cp, e8, _, _, _⟩ := Kd.R_form hr (by rw [List.length_replicate]; have := H2.out; omega); rw [List.length_replicate, Int.toNat_natCast] at e8; subst e8; rw [Int.toNat_natCast] at hr; have HR := Aside0.mk (Rs.of hr); have HB := Aside0.mk hb; clear hr hb hg hat))
  go_ret2
  obtain ⟨F, hF⟩ := fresh_at HR.out HB.out.size H2.out HM.out
  exact ⟨_, F, rfl, hF, below_alloc (below_alloc HB.out _) _⟩
set_option maxHeartbeats 4000000 in
set_option maxRecDepth 100000 in
/-- No disk. -/
theorem new_none (n : Int) (w : World) (h : ¬ (2 ≤ n ∧ n ≤ 65536)) :
    Calls Try.prog 21 #[.int .i64 n] w fun e w' => e = .returned (.tuple #[.pointer none, .int .i64 30]) ∧ w' = w := by
  have Hmany := Aside0.mk (fun (W : World) => (show Calls Try.prog 43 #[.int .i64 n] W fun e w' => e = .returned (.bool false) ∧ w' = W from by
    have h_ := many_calls n W
    rw [show decide (2 ≤ n ∧ n ≤ 65536) = false from decide_eq_false h] at h_
    exact h_))
  clear h
  go_enter Try.func21, Try.ntmps21
  go_wp2_with (go_at_call 43; (with_reducible refine (Hmany.out _).mono ?_); rintro e w1 ⟨rfl, hw_⟩; subst hw_)
  go_ret2
  exact ⟨rfl, rfl⟩
end Go.Proofs.Ytddnhcnkjcdfgaa.M
