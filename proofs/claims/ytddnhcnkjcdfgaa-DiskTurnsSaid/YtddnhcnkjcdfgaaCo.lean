-- kilnref3.Copy
import Derived.Test.YtddnhcnkjcdfgaaDi
namespace Go.Proofs.Ytddnhcnkjcdfgaa.M
open Go.RowKit Go.Maps Go.Proofs.YtddnhcnkjcdfgaaW.PrintWords Go.Proofs.YtddnhcnkjcdfgaaW.PrintLast Go.Proofs.YtddnhcnkjcdfgaaW.PrintMore
set_option linter.unusedVariables false
set_option linter.unusedSimpArgs false
def kilnref3_Copy.f (l : List Int) : Option (List Int) := if l.length ≤ 140737488355328 then some l else none
set_option maxHeartbeats 1000000 in
set_option maxRecDepth 100000 in
theorem kilnref3_Copy.calls (A0 : Option Addr) (c0 : Nat) (l0 : List Int) (r : List Int) (w : World) (hr0 : Kd.C (Kd.int .u8) w A0 l0.length l0) (hc0 : l0.length ≤ c0) (h : kilnref3_Copy.f l0 = some r) :
    Calls Try.prog 55 #[.slice A0 l0.length c0] w fun e w' => ∃ v0_ : Value, e = .returned (v0_) ∧ Kd.R (Kd.int .u8) 5 w' w.heap.size (fun _ => True) v0_ r ∧ Below w.heap.size w w' := by
  unfold kilnref3_Copy.f at h
  split at h
  · rename_i hl
    obtain rfl := Option.some.inj h
    obtain ⟨n, hn⟩ : ∃ n, n = l0.length := ⟨_, rfl⟩
    rw [← hn] at hr0 hl ⊢
    have HR := Aside0.mk hr0
    have HN := Aside0.mk hn
    clear hr0 hc0 h hn
    go_enter Try.func55, Try.ntmps55
    go_wp2_with (first
      | (at_make; refine Kd.R_make (Kd.int .u8) (w0 := w) w.heap.size 5 rfl (N := 6) rfl 28 (.tmp 5) (.tmp 5) rfl (n : Int) rfl rfl Try.underlying28 (.int .u8 0) 1 info5 rfl (by decide) (by decide) 0 (ok := fun _ => True) (okp := fun _ => True) rfl (fun _ h => h) trivial (by omega) (by omega) (Below.refl _ _) (Nat.le_refl _) ?_; intro v6 w6 hr hb hg hat; rw [Int.toNat_natCast] at hr; obtain ⟨A6, c6, e6⟩ := Kd.R_slice hr; rw [List.length_replicate] at e6; subst e6; have H6 := Aside0.mk hr; have HB6 := Aside0.mk hb; clear hr hb hg hat)
      | ((with_reducible refine gate_builtin (b := .copy) (xs := #[.tmp 7, .tmp 8]) rfl ?_); refine Kd.R_copy (0 : Int) (w0 := w) w.heap.size rfl (.tmp 7) (.tmp 8) 28 28 5 rfl Try.underlying28 (by kernel_rfl) (.slice A6 n c6) (List.replicate n 0) l0 A0 n c0 (fun _ => True) rfl rfl H6.out (Kd.C_below HR.out HB6.out) HB6.out (below_size HB6.out) ?_; intro w9 hr hb hg; have H9 := Aside0.mk hr; have HB9 := Aside0.mk hb; clear hr hb hg))
    go_ret
    have h9 := H9.out
    rw [List.length_replicate, Nat.min_self, List.take_of_length_le (by rw [HN.out]; exact Nat.le_refl _), List.drop_of_length_le (by rw [List.length_replicate]; exact Nat.le_refl _), List.append_nil] at h9
    exact ⟨_, rfl, h9, HB9.out⟩
  · cases h
end Go.Proofs.Ytddnhcnkjcdfgaa.M
