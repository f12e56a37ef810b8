import Derived.Test.YthmnomdjpbfefaaDoorG
import Derived.Test.YthmnomdjpbfefaaDoorPx12
namespace Go.Proofs.YthmnomdjpbfefaaDoor.A
open Go.RowKit Go.Proofs.YthmnomdjpbfefaaDoorW.PrintWords Go.Proofs.YthmnomdjpbfefaaDoorW.PrintLast Go.Proofs.YthmnomdjpbfefaaDoorW.PrintMore Go.Proofs.YthmnomdjpbfefaaDoor.P
set_option linter.unusedVariables false
set_option linter.unusedSimpArgs false

/-! ## WireMany: n numbers and byte strings -/
def numAt (step i : Nat) : Nat := step * i % 18446744073709551616
def cutAt (b : List Int) (i : Nat) : List Int := b.take (i % (b.length + 1))
def item (step : Nat) (b : List Int) (i : Nat) : List Int := uintL (numAt step i) ++ bytesL (cutAt b i)
def preL (step : Nat) (b : List Int) : Nat → List Int
  | 0 => []
  | i + 1 => preL step b i ++ item step b i
def restL (step : Nat) (b : List Int) (i : Nat) : Nat → List Int
  | 0 => []
  | m + 1 => item step b i ++ restL step b (i + 1) m

theorem numAt_lt (step i : Nat) : numAt step i < 18446744073709551616 := Nat.mod_lt _ (by decide)
theorem pre_rest (step : Nat) (b : List Int) : ∀ (m i : Nat), preL step b (i + m) = preL step b i ++ restL step b i m
  | 0, i => by simp [restL]
  | m + 1, i => by
    rw [restL, ← List.append_assoc, show i + (m + 1) = (i + 1) + m by omega, pre_rest step b m (i + 1)]
    rfl
theorem cutAt_len (b : List Int) (i : Nat) : (cutAt b i).length ≤ b.length := by unfold cutAt; rw [List.length_take]; omega
theorem item_len {step i : Nat} {b : List Int} (hb : b.length ≤ 200) : (item step b i).length ≤ 220 := by
  have h1 := uintL_len10 (numAt_lt step i)
  have h2 := cutAt_len b i
  have h3 := uintL_len10 (v := (cutAt b i).length) (by omega)
  unfold item bytesL
  simp only [List.length_append]
  omega
theorem pre_len {step : Nat} {b : List Int} (hb : b.length ≤ 200) : ∀ i, (preL step b i).length ≤ 220 * i
  | 0 => by simp [preL]
  | i + 1 => by
    have h1 := pre_len (step := step) hb i
    have h2 := item_len (step := step) (i := i) hb
    rw [preL, List.length_append]; omega
theorem bytes_item {step i : Nat} {b : List Int} (hb : bytes_ b) : bytes_ (item step b i) := bytes_append (bytes_uint _) (bytesL_ok (bytes_take hb _))
theorem bytes_pre {step : Nat} {b : List Int} (hb : bytes_ b) : ∀ i, bytes_ (preL step b i)
  | 0 => bytes_nil
  | i + 1 => bytes_append (bytes_pre hb i) (bytes_item hb)

theorem num_wrap (step i : Nat) (hi : i ≤ 3000) : IntKind.u64.wrap ((step : Int) * IntKind.u64.wrap (i : Int)) = ((numAt step i : Nat) : Int) := by
  rw [u64w (x := (i : Int)) (by omega) (by omega)]
  have : IntKind.u64.wrap ((step : Int) * (i : Int)) = ((step : Int) * (i : Int)) % 18446744073709551616 := rfl
  rw [this]; unfold numAt
  simp
theorem len_wrap {b : List Int} (hb : b.length ≤ 200) : wrap64 ((b.length : Int) + 1) = ((b.length + 1 : Nat) : Int) := by
  rw [w64 (by omega) (by omega)]; rfl

theorem many_l0 {n step : Nat} {b : List Int} (hn : n ≤ 3000) (hb : bytes_ b) (hl : b.length ≤ 200) (hs : step < 18446744073709551616)
    (after : Ev (fun k => kilnlaw1_WireMany.l1 k (n : Int) (step : Int) b (preL step b n) 0 0) true) : ∀ (m i : Nat), i + m = n →
    Ev (fun k => kilnlaw1_WireMany.l0 k (n : Int) (step : Int) b (preL step b i) (i : Int)) true := by
  intro m
  induction m with
  | zero =>
    intro i h
    obtain rfl : i = n := by omega
    refine Ev.step (fun k => by simp only [kilnlaw1_WireMany.l0]; rw [if_neg (by omega)]) after
  | succ m ih =>
    intro i h
    have hp := pre_len (step := step) hl i
    have hu := uintL_len10 (numAt_lt step i)
    refine Ev.step (fun k => by simp only [kilnlaw1_WireMany.l0]; rfl) ?_
    refine Ev.pos (by omega) ?_
    rw [num_wrap step i (by omega), len_wrap hl, tmod_nat]
    have hlt := numAt_lt step i
    have hmod : i % (b.length + 1) < b.length + 1 := Nat.mod_lt _ (by omega)
    refine Ev.bind (uint_ev (by omega) (by omega)) ?_
    rw [Int.toNat_natCast]
    refine Ev.pos (by omega) (Ev.bind (a := preL step b i ++ uintL (numAt step i)) (Ev.some_ rfl) (Ev.neg (by omega) (Ev.pos (by omega) (Ev.pos (by omega) ?_))))
    rw [Int.toNat_natCast]
    have hc := cutAt_len b i
    refine Ev.bind (a := bytesL (cutAt b i)) (bytes_ev (l := cutAt b i) (by omega)) ?_
    have h3 := uintL_len10 (v := (cutAt b i).length) (by omega)
    refine Ev.pos (by simp only [List.length_append, bytesL]; omega) ?_
    rw [w64 (by omega) (by omega), List.append_assoc]
    exact ih (i + 1) (by omega)

theorem many_l1 {n step : Nat} {b : List Int} (hn : n ≤ 3000) (hb : bytes_ b) (hl : b.length ≤ 200) (hs : step < 18446744073709551616) : ∀ (m i : Nat), i + m = n →
    Ev (fun k => kilnlaw1_WireMany.l1 k (n : Int) (step : Int) b (preL step b n) ((preL step b i).length : Int) (i : Int)) true := by
  have hall := bytes_pre (step := step) hb n
  have hlen := pre_len (step := step) hl n
  intro m
  induction m with
  | zero =>
    intro i h
    obtain rfl : i = n := by omega
    refine Ev.step (fun k => by simp only [kilnlaw1_WireMany.l1]; rfl) ?_
    exact Ev.neg (by omega) (Ev.pos trivial (Ev.bind started_ev (Ev.now _)))
  | succ m ih =>
    intro i h
    have e : preL step b n = preL step b i ++ (uintL (numAt step i) ++ (bytesL (cutAt b i) ++ restL step b (i + 1) m)) := by
      rw [← h, pre_rest step b (m + 1) i, restL, item, List.append_assoc]
    have e2 : preL step b n = (preL step b i ++ uintL (numAt step i)) ++ (bytesL (cutAt b i) ++ restL step b (i + 1) m) := by
      rw [e, List.append_assoc]
    have hlt := numAt_lt step i
    have hc := cutAt_len b i
    refine Ev.step (fun k => by simp only [kilnlaw1_WireMany.l1]; rfl) ?_
    have hr := readUR_at hlt (preL step b i) (bytesL (cutAt b i) ++ restL step b (i + 1) m)
    rw [← e] at hr
    refine Ev.pos (by omega) (Ev.bind (readU_ev hall (by omega) _) ?_)
    rw [hr]
    refine Ev.bind (Ev.const (num_some _)) (Ev.pos rfl ?_)
    rw [num_wrap step i (by omega)]
    simp only [bne_self_eq_false]
    refine Ev.step (fun k => by simp only [kilnlaw1_WireMany.j3]; rw [if_neg (by decide)]) ?_
    have hr2 := readBR_at (b := cutAt b i) (by omega) (preL step b i ++ uintL (numAt step i)) (restL step b (i + 1) m) (most := 200) (by omega)
    rw [← e2, List.length_append] at hr2
    refine Ev.bind (readB_ev hall (by omega) _ (by decide)) ?_
    rw [hr2, len_wrap hl, tmod_nat]
    have hmod : i % (b.length + 1) < b.length + 1 := Nat.mod_lt _ (by omega)
    refine Ev.bind (Ev.const (num_some _)) (Ev.pos rfl (Ev.neg (by omega) (Ev.pos (by omega) (Ev.pos (by omega) ?_))))
    rw [Int.toNat_natCast]
    have hs2 : kilnlaw1_same.f (cutAt b i) (b.take (i % (b.length + 1))) = some true := by
      unfold cutAt; rw [same_some (bytes_take hb _) (bytes_take hb _)]; simp
    refine Ev.bind (Ev.const hs2) (Ev.pos rfl ?_)
    rw [w64 (by omega) (by omega)]
    have hi := ih (i + 1) (by omega)
    rw [preL, item, List.length_append, List.length_append] at hi
    rw [show ((((preL step b i).length + (uintL (numAt step i)).length + (bytesL (cutAt b i)).length : Nat)) : Int) = (((preL step b i).length + ((uintL (numAt step i)).length + (bytesL (cutAt b i)).length) : Nat) : Int) by rw [Nat.add_assoc]]
    exact hi

theorem many : ∀ (a0 a1 : Int) (l2 : List Int), (Lit.int .i64 a0).wf = true → (Lit.int .u64 a1).wf = true → l2.length ≤ 140737488351232 → (∀ x ∈ l2, (Lit.int .u8 x).wf = true) →
    ∃ k, kilnlaw1_WireMany.f k a0 a1 l2 = some true := by
  intro a0 a1 l2 h0 h1 n2 h2
  obtain ⟨h1, h1'⟩ := u64_wf h1
  have hb := bytes_wf h2
  obtain ⟨step, rfl⟩ := Int.eq_ofNat_of_zero_le h1
  apply Ev.rounds
  have hn : ∃ n : Nat, n ≤ 3000 ∧ mn (mx a0 1) 3000 = (n : Int) := by
    have : 0 ≤ mn (mx a0 1) 3000 ∧ mn (mx a0 1) 3000 ≤ 3000 := by unfold mn mx; split <;> split <;> omega
    exact ⟨(mn (mx a0 1) 3000).toNat, by omega, by omega⟩
  obtain ⟨n, hn, en⟩ := hn
  have main : ∀ b : List Int, bytes_ b → b.length ≤ 200 → Ev (fun k => kilnlaw1_WireMany.j0 k (n : Int) (step : Int) b) true := by
    intro b hb hl
    refine Ev.step (fun k => by simp only [kilnlaw1_WireMany.j0]; rfl) ?_
    exact many_l0 hn hb hl (by omega) (many_l1 hn hb hl (by omega) n 0 (by omega)) n 0 (by omega)
  unfold kilnlaw1_WireMany.f
  rw [en]
  by_cases h : (l2.length : Int) > 200
  · refine Ev.pos h (Ev.pos (by omega) (main _ (bytes_take hb _) (by rw [List.length_take]; omega)))
  · exact Ev.neg h (main _ hb (by omega))
end Go.Proofs.YthmnomdjpbfefaaDoor.A
