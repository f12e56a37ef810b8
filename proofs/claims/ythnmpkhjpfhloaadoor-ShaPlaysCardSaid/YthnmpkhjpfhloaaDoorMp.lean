import Derived.Test.YthnmpkhjpfhloaaDoorMv
namespace Go.Proofs.YthnmpkhjpfhloaaDoor.M
open Go.RowKit Go.Proofs.YthnmpkhjpfhloaaDoorW.PrintWords Go.Proofs.YthnmpkhjpfhloaaDoorW.PrintLast Go.Proofs.YthnmpkhjpfhloaaDoorW.PrintMore
set_option linter.unusedVariables false
set_option linter.unusedSimpArgs false
/-! The whole hash in plain Lean. -/
def firstN : List Nat := [1779033703, 3144134277, 1013904242, 2773480762, 1359893119, 2600822924, 528734635, 1541459225]
theorem firstN_lt : W32 firstN := W32_eight (by decide) (by decide) (by decide) (by decide) (by decide) (by decide) (by decide) (by decide)
def hashB (b : List Int) : Nat → List Nat
  | 0 => firstN
  | i + 1 => overN (hashB b i) (cut64 b (64 * i))
theorem hashB_len (b : List Int) : ∀ i, (hashB b i).length = 8
  | 0 => rfl
  | i + 1 => overN_len (hashB_len b i) _
theorem hashB_lt (b : List Int) : ∀ i, W32 (hashB b i)
  | 0 => firstN_lt
  | i + 1 => overN_lt (hashB_lt b i) _
theorem cut64_append (m b : List Int) (i : Nat) (h : i + 64 ≤ m.length) : cut64 (m ++ b) i = cut64 m i := by
  unfold cut64
  rw [List.drop_append_of_le_length (by omega), List.take_append_of_le_length (by rw [List.length_drop]; omega)]
theorem hashB_append (m b : List Int) : ∀ i, 64 * i ≤ m.length → hashB (m ++ b) i = hashB m i
  | 0, _ => rfl
  | i + 1, h => by rw [hashB, hashB, hashB_append m b i (by omega), cut64_append m b _ (by omega)]
def zlen (n : Nat) : Nat := (119 - n % 64) % 64
def lenB (n : Nat) (i : Nat) : Int := ((8 * n / 2 ^ (8 * i) % 256 : Nat) : Int)
def len8 (n : Nat) : List Int := [lenB n 7, lenB n 6, lenB n 5, lenB n 4, lenB n 3, lenB n 2, lenB n 1, lenB n 0]
def tailB (n : Nat) : List Int := 128 :: (List.replicate (zlen n) 0 ++ len8 n)
def padB (m : List Int) : List Int := m ++ tailB m.length
theorem tailB_len (n : Nat) : (tailB n).length = 9 + zlen n := by simp [tailB, len8]; omega
theorem padB_len (m : List Int) : (padB m).length = m.length + 9 + zlen m.length := by rw [padB, List.length_append, tailB_len]; omega
theorem padB_mod (m : List Int) : (padB m).length % 64 = 0 := by rw [padB_len]; unfold zlen; omega
def keyW (x : Nat) : List Int := [((x / 16777216 % 256 : Nat) : Int), ((x / 65536 % 256 : Nat) : Int), ((x / 256 % 256 : Nat) : Int), ((x % 256 : Nat) : Int)]
def keyL (s : List Nat) : List Int := s.flatMap keyW
theorem keyL_len {s : List Nat} (h : s.length = 8) : (keyL s).length = 32 := by
  rw [eight_get h]; rfl
def sumL (m : List Int) : List Int := keyL (hashB (padB m) ((padB m).length / 64))
theorem sumL_len (m : List Int) : (sumL m).length = 32 := keyL_len (hashB_len _ _)

/-! The reference's padding. -/
theorem laid_l1 (k : Nat) (x : List Int) (n : Nat) (hx : x.length < 1099511627776) : P.kilnref2_laid.l1 (k + 9) x ((8 * n : Nat) : Int) 7 = some (x ++ len8 n) := by
  have e : ∀ i : Nat, i < 8 → shr .u64 ((8 * n : Nat) : Int) (IntKind.u64.wrap (8 * (IntKind.u64.wrap (i : Int)))) % 256 = lenB n i := fun i hi => by
    have : IntKind.u64.wrap (8 * (IntKind.u64.wrap (i : Int))) = ((8 * i : Nat) : Int) := by unfold IntKind.wrap; simp [IntKind.signed, IntKind.bits]; omega
    rw [this]
    unfold shr lenB
    rw [show min (((8 * i : Nat) : Int)).toNat IntKind.u64.bits = 8 * i by simp [IntKind.bits]; omega, divp]
    omega
  have p : ∀ i : Nat, i < 8 → 0 ≤ IntKind.u64.wrap (8 * (IntKind.u64.wrap (i : Int))) := fun i hi => by unfold IntKind.wrap; simp [IntKind.signed, IntKind.bits]; omega
  have w : ∀ i : Nat, i < 8 → wrap64 ((i : Int) - 1) = (i : Int) - 1 := fun i hi => by unfold wrap64; omega
  have step : ∀ (k i : Nat) (y : List Int), i < 8 → y.length < 140737488355328 → P.kilnref2_laid.l1 (k + 1) y ((8 * n : Nat) : Int) (i : Int) = P.kilnref2_laid.l1 k (y ++ [lenB n i]) ((8 * n : Nat) : Int) ((i : Int) - 1) := fun k i y hi hy => by
    rw [P.kilnref2_laid.l1, if_pos (by omega), if_pos (p i hi), if_pos hy, e i hi, w i hi]
  have s7 := step (k + 8) 7 x (by decide) (by omega)
  have s6 := step (k + 7) 6 (x ++ [lenB n 7]) (by decide) (by simp; omega)
  have s5 := step (k + 6) 5 (x ++ [lenB n 7] ++ [lenB n 6]) (by decide) (by simp; omega)
  have s4 := step (k + 5) 4 (x ++ [lenB n 7] ++ [lenB n 6] ++ [lenB n 5]) (by decide) (by simp; omega)
  have s3 := step (k + 4) 3 (x ++ [lenB n 7] ++ [lenB n 6] ++ [lenB n 5] ++ [lenB n 4]) (by decide) (by simp; omega)
  have s2 := step (k + 3) 2 (x ++ [lenB n 7] ++ [lenB n 6] ++ [lenB n 5] ++ [lenB n 4] ++ [lenB n 3]) (by decide) (by simp; omega)
  have s1 := step (k + 2) 1 (x ++ [lenB n 7] ++ [lenB n 6] ++ [lenB n 5] ++ [lenB n 4] ++ [lenB n 3] ++ [lenB n 2]) (by decide) (by simp; omega)
  have s0 := step (k + 1) 0 (x ++ [lenB n 7] ++ [lenB n 6] ++ [lenB n 5] ++ [lenB n 4] ++ [lenB n 3] ++ [lenB n 2] ++ [lenB n 1]) (by decide) (by simp; omega)
  refine s7.trans (s6.trans (s5.trans (s4.trans (s3.trans (s2.trans (s1.trans (s0.trans ?_)))))))
  rw [P.kilnref2_laid.l1, if_neg (by decide)]
  simp [len8]
theorem laid_l0 (m : List Int) (n : Nat) (hn : n = m.length) (hm : m.length < 549755813888) : ∀ (j : Nat) (x : List Int) (k : Nat), x.length + j < 549755813968 → (x.length + j) % 64 = 56 → j < 64 → P.kilnref2_laid.l0 (k + j + 10) m x = some (x ++ List.replicate j 0 ++ len8 n)
  | 0, x, k, hx, hj, hj2 => by
    rw [P.kilnref2_laid.l0, if_pos (by omega)]
    have e : IntKind.u64.wrap (wrap64 (8 * (m.length : Int))) = ((8 * n : Nat) : Int) := by
      rw [show wrap64 (8 * (m.length : Int)) = ((8 * n : Nat) : Int) by unfold wrap64; omega]
      have hn2 : 8 * n < 18446744073709551616 := by omega
      generalize 8 * n = q at hn2 ⊢
      unfold IntKind.wrap; simp [IntKind.signed, IntKind.bits]; omega
    rw [e, show k + 0 + 9 = k + 9 by omega, laid_l1 k x n (by omega)]
    simp
  | j + 1, x, k, hx, hj, hj2 => by
    rw [show k + (j + 1) + 10 = (k + j + 10) + 1 by omega, P.kilnref2_laid.l0, if_neg (by omega), if_pos (by omega), laid_l0 m n hn hm j (x ++ [0]) k (by rw [List.length_append]; show x.length + 1 + j < _; omega) (by rw [List.length_append]; show (x.length + 1 + j) % 64 = 56; omega) (by omega)]
    simp [List.replicate_succ]
theorem laid_eq (m : List Int) (hm : m.length < 549755813888) : P.kilnref2_laid.f 80 m = some (padB m) := by
  unfold P.kilnref2_laid.f
  rw [if_pos (by simp; omega)]
  simp only [List.nil_append, Option.bind_some]
  rw [if_pos (by omega)]
  have hz : zlen m.length < 64 := Nat.mod_lt _ (by decide)
  have := laid_l0 m m.length rfl hm (zlen m.length) (m ++ [128]) (70 - zlen m.length) (by rw [List.length_append]; show m.length + 1 + _ < _; omega) (by simp; unfold zlen; omega) hz
  rw [show 70 - zlen m.length + zlen m.length + 10 = 80 by omega] at this
  rw [this]
  simp [padB, tailB]
end Go.Proofs.YthnmpkhjpfhloaaDoor.M
