-- Crash: the keys, sorted
import Derived.Test.YtddnhcnkjcdfgaaDo
import Derived.Test.YtddnhcnkjcdfgaaDi
namespace Go.Proofs.Ytddnhcnkjcdfgaa.M
open Go.RowKit Go.Maps Go.Sort Go.Shelf Go.Proofs.YtddnhcnkjcdfgaaW.PrintWords Go.Proofs.YtddnhcnkjcdfgaaW.PrintLast Go.Proofs.YtddnhcnkjcdfgaaW.PrintMore
set_option linter.unusedVariables false
set_option linter.unusedSimpArgs false
/-- The sectors that have writes, rising. -/
def DS.keysN (s : DS) : List Nat := (List.range s.n).filter (fun i => decide (s.W i ≠ []))
def DS.keysI (s : DS) : List Int := s.keysN.map (fun i : Nat => (i : Int))
theorem DS.mem_keysN (s : DS) (i : Nat) : i ∈ s.keysN ↔ i < s.n ∧ s.W i ≠ [] := by
  unfold DS.keysN
  rw [List.mem_filter, List.mem_range, decide_eq_true_eq]
theorem DS.keysN_rising (s : DS) : s.keysN.Pairwise (· < ·) := List.Pairwise.filter _ List.pairwise_lt_range
theorem DS.keysN_len (s : DS) : s.keysN.length ≤ s.n := by
  have := List.length_filter_le (fun i => decide (s.W i ≠ [])) (List.range s.n)
  rw [List.length_range] at this
  exact this
section
variable {w w' : World} {base g lb cp mb k : Nat} {F G : Nat → Prop} {s : DS} {f : Nat → Value} {D : DataW Value}
theorem DkIn.has_iff (h : DkIn w base g s lb cp mb f k D) (x : Int) : x ∈ s.keysI ↔ Maps.has D (.int .i64 x) = true := by
  constructor
  · intro hx
    obtain ⟨i, hi, rfl⟩ := List.mem_map.1 hx
    obtain ⟨hi, hW⟩ := (s.mem_keysN i).1 hi
    cases hh : Maps.has D (.int .i64 (i : Int)) with
    | true => rfl
    | false =>
      exfalso
      have h3 := h.at_ i hi
      rw [Maps.atKey_of_not_has hh] at h3
      have h4 : f i = .slice none 0 0 := (DataW.held.inj h3).symm
      have h5 := h.rows i hi
      rw [h4] at h5
      exact hW (List.length_eq_zero_iff.1 (Kd.R_reads' h5).1.symm)
  · intro hx
    obtain ⟨i, hi, e, hW⟩ := h.ks _ hx
    injection e with _ e
    subst e
    exact List.mem_map.2 ⟨i, (s.mem_keysN i).2 ⟨hi, hW⟩, rfl⟩
theorem DkIn.sorted (h : DkIn w base g s lb cp mb f k D) {ss : List Int} (hp : ss.Perm (intKeys D)) : ss.mergeSort leI = s.keysI ∧ ss.length = s.keysI.length := by
  have hn : s.keysI.Nodup := by
    refine List.pairwise_map.2 (s.keysN_rising.imp ?_)
    intro a b hab e
    have : (a : Int) = (b : Int) := e
    omega
  obtain ⟨es, hD, hpw, _⟩ := h.mp.entries keyed
  obtain ⟨es', hD', hko⟩ := h.mp.keysOf
  obtain rfl : es = es' := by rw [hD] at hD'; simpa using hD'
  have h1 : s.keysI.Perm (intKeys D) := by
    rw [hD]
    refine perm_intKeys hpw (fun p hp => ?_) hn (fun x => ?_)
    · obtain ⟨v, hv⟩ := hko p hp
      obtain ⟨x, _, hx, _⟩ := Maps.keyOf_i64 Try.underlying3 hv
      exact ⟨x, hx⟩
    · rw [← hD]; exact h.has_iff x
  have h2 : ss.Perm s.keysI := hp.trans h1.symm
  refine ⟨(mergeSort_of_perm_i h2).trans (List.mergeSort_of_pairwise (List.pairwise_map.2 (s.keysN_rising.imp ?_))), h2.length_eq⟩
  intro a b hab
  show decide ((a : Int) ≤ (b : Int)) = true
  exact decide_eq_true (by omega)
set_option maxHeartbeats 1000000 in
theorem keys_calls (m : Nat) (W : World) : Calls Try.prog 46 #[.map (some m)] W fun e w' => e = .returned (.func (.func 58) #[] #[.pointer (some ⟨W.heap.size, 0, none⟩)]) ∧ w' = W.alloc (.cells #[.map (some m)] 87) :=
  (callsIn_wide (n := 5)).1 (AnyZI.keys_in Try.keysA Fence.wide 5 trivial rfl (some m) W)
set_option maxHeartbeats 1000000 in
theorem sorted_calls (h : DkIn w base g s lb cp mb f k D) (hc : s.c < 1073741824) :
    Calls Try.prog 45 #[.func (.func 58) #[] #[.pointer (some ⟨w.heap.size, 0, none⟩)]] (w.alloc (.cells #[.map (some mb)] 87)) fun e w' => ∃ v, e = .returned v ∧ Kd.R (Kd.int .i64) 3 w' w.heap.size (fun _ => True) v s.keysI ∧ Below w.heap.size w w' := by
  have hown := h.mp
  have hbl := hown.lt
  have hsz : Maps.size D ≤ k := hown.size_le
  have hk := h.kc
  have hmax : Maps.size D ≤ maxLen := by unfold maxLen; omega
  have hbytes : Maps.size D * 8 ≤ 140737488355328 := by omega
  have hseq : SeqGives Fence.wide 2 Try.prog 58 #[.pointer (some ⟨w.heap.size, 0, none⟩)] encZ (fun ss => ss.Perm (intKeys D)) (Maps.size D) (w.alloc (.cells #[.map (some mb)] 87)) :=
    AnyZI.keys_gives (ρ := Try.keysA_ren) { Try.keysA with } Fence.wide _ trivial rfl (by omega) w.heap.size mb k D _ (by simp) (by simp) (by
      obtain ⟨es, clock, hb, Ft, hs, hD⟩ := hown
      exact ⟨es, clock, (Below.heap_alloc _ _ mb hbl).trans hb, Ft, hs, hD⟩)
  have cS := AnyZI.sorted_in Try.sortedA Fence.wide 5 trivial trivial trivial trivial rfl (by omega) (Try.sortsA _) (enters_of Try.func57 (by kernel_rfl) rfl) 58 #[.pointer (some ⟨w.heap.size, 0, none⟩)] trivial (enters_of Try.func58 (by kernel_rfl) rfl) _ _ hmax hbytes _ hseq
  change CallsIn _ _ Try.prog 45 _ _ _ at cS
  refine ((callsIn_wide (n := _)).1 cS).mono ?_
  rintro e w' ⟨v, ss, rfl, hS, hrow, hnil, hb⟩
  obtain ⟨e1, e2⟩ := h.sorted hS
  refine ⟨v, rfl, ?_, ((Below.refl _ w).alloc (Nat.le_refl _) _).trans (hb.mono (by simp))⟩
  have hrow' : w'.ownsRow w.heap.size 3 1 v s.keysI.length (encs (Value.int .i64) s.keysI) := by
    have h0 : w'.ownsRow w.heap.size 3 1 v ss.length _ := ownsRow_base_a hrow (by simp)
    rw [e2] at h0
    have e1' : ss.mergeSort (fun x y => decide (x ≤ y)) = s.keysI := e1
    rw [e1'] at h0
    exact h0
  exact Kd.R_of_own hrow' (fun _ _ => trivial)
end
end Go.Proofs.Ytddnhcnkjcdfgaa.M
