-- written by programs of this session
import Derived.Test.YthmnomdjpbfefaaDoorZA
namespace Go.Proofs.YthmnomdjpbfefaaDoor.A
open Go.RowKit Go.Proofs.YthmnomdjpbfefaaDoorW.PrintWords Go.Proofs.YthmnomdjpbfefaaDoorW.PrintLast Go.Proofs.YthmnomdjpbfefaaDoorW.PrintMore Go.Proofs.YthmnomdjpbfefaaDoor.P
set_option linter.unusedVariables false
set_option linter.unusedSimpArgs false
theorem rd_drop {b : List Int} {p : Nat} (h : p < b.length) : ∃ c, b.drop p = c :: b.drop (p + 1) ∧ rd b (p : Int) = c ∧ c ∈ b := by
  refine ⟨b[p], List.drop_eq_getElem_cons h, ?_, List.getElem_mem h⟩
  unfold rd
  rw [Int.toNat_natCast, List.getD_eq_getElem?_getD, List.getElem?_eq_getElem h]; rfl
def tellU (x at_ i : Nat) (g : Got) : Int × Int × Int := if g.e = 0 then (((x + g.v * 2 ^ (7 * i) : Nat) : Int), ((at_ + i + g.n : Nat) : Int), 0) else (0, 0, g.e)
theorem and127 {c : Int} (h0 : 0 ≤ c) (h1 : c < 256) : Go.bits .and .u8 c 127 = ((c.toNat % 128 : Nat) : Int) := by
  rw [u8_and c 127 h0 h1 (by decide) (by decide)]
  exact congrArg _ (Nat.and_two_pow_sub_one_eq_mod c.toNat 7)
theorem or_shift (x c i : Nat) (hx : x < 2 ^ (7 * i)) (hi : i ≤ 9) (hc : c < 128) (h9 : i = 9 → c ≤ 1) :
    Go.bits .or .u64 (x : Int) (shl .u64 (IntKind.u64.wrap (c : Int)) (IntKind.u64.wrap (7 * IntKind.u64.wrap (i : Int)))) = ((x + c * 2 ^ (7 * i) : Nat) : Int) := by
  rw [u64w (x := (i : Int)) (by omega) (by omega), u64w (x := 7 * (i : Int)) (by omega) (by omega), u64w (x := (c : Int)) (by omega) (by omega)]
  have hlt : c * 2 ^ (7 * i) < 18446744073709551616 := by
    by_cases h : i = 9
    · subst h
      have := h9 rfl
      have : c * 2 ^ (7 * 9) ≤ 1 * 2 ^ (7 * 9) := Nat.mul_le_mul_right _ this
      exact Nat.lt_of_le_of_lt this (by decide +kernel)
    · have h1 : c * 2 ^ (7 * i) < 128 * 2 ^ (7 * i) := Nat.mul_lt_mul_of_pos_right hc (Nat.two_pow_pos _)
      have h2 : 128 * 2 ^ (7 * i) = 2 ^ (7 + 7 * i) := by rw [Nat.pow_add]
      have h3 : 2 ^ (7 + 7 * i) ≤ 2 ^ 63 := Nat.pow_le_pow_right (by decide) (by omega)
      have h4 : (2 : Nat) ^ 63 < 18446744073709551616 := by decide +kernel
      omega
  have hx2 : x < 18446744073709551616 := by
    have h3 : 2 ^ (7 * i) ≤ 2 ^ 63 := Nat.pow_le_pow_right (by decide) (by omega)
    have h4 : (2 : Nat) ^ 63 < 18446744073709551616 := by decide +kernel
    omega
  unfold shl
  rw [show (7 * (i : Int)).toNat = 7 * i by omega, Nat.min_eq_left (show 7 * i ≤ IntKind.u64.bits from by show 7 * i ≤ 64; omega)]
  rw [show ((c : Int) * 2 ^ (7 * i)) = ((c * 2 ^ (7 * i) : Nat) : Int) by simp, u64w (by omega) (by omega), u64_or_nat _ _ hx2 hlt]
  congr 1
  rw [Nat.or_comm, Nat.mul_comm c, ← Nat.two_pow_add_eq_or_of_lt hx, Nat.add_comm]
theorem readU_l0 : ∀ (m : Nat) (b : List Int) (at_ i x k : Nat), bytes_ b → b.length ≤ 4611686018427387904 → at_ + i ≤ b.length → i ≤ 9 → x < 2 ^ (7 * i) → 10 - i ≤ m → 3 * m < k →
    wire_ReadUint.l0 k b (at_ : Int) (x : Int) (i : Int) = some (tellU x at_ i (pU i (b.drop (at_ + i)))) := by
  intro m
  induction m with
  | zero => intro b at_ i x k _ _ _ hi _ hm; omega
  | succ m ih =>
    intro b at_ i x k hb hl hat hi hx hm hk
    obtain ⟨k, rfl⟩ : ∃ q, k = q + 3 := ⟨k - 3, by omega⟩
    simp only [wire_ReadUint.l0]
    rw [w64 (x := (at_ : Int) + (i : Int)) (by omega) (by omega)]
    by_cases he : at_ + i = b.length
    · rw [if_pos (by omega), he, List.drop_length]; rfl
    · obtain ⟨c, hd, hr, hc⟩ := rd_drop (show at_ + i < b.length by omega)
      have hc := hb c hc
      rw [if_neg (by omega), if_pos (by omega), if_pos (by omega), show ((at_ : Int) + (i : Int)) = ((at_ + i : Nat) : Int) by omega, hr, hd]
      have step2 : ∀ y, wire_ReadUint.j2 (k + 2) b at_ x i c y = if y = true then some (0, 0, 12) else wire_ReadUint.j3 (k + 1) b at_ x i c (decide (c = 0 ∧ (i : Int) > 0)) := by
        intro y
        simp only [wire_ReadUint.j2]
        by_cases h : c = 0
        · rw [if_pos h]; simp [h]
        · rw [if_neg h]; simp [h]
      have step3 : ∀ y, wire_ReadUint.j3 (k + 1) b at_ x i c y = if y = true then some (0, 0, 11) else (if c < 128 then some (Go.bits .or .u64 (x : Int) (shl .u64 (IntKind.u64.wrap (Go.bits .and .u8 c 127)) (IntKind.u64.wrap (7 * IntKind.u64.wrap (i : Int)))), ((at_ + i + 1 : Nat) : Int), 0) else wire_ReadUint.l0 k b at_ (Go.bits .or .u64 (x : Int) (shl .u64 (IntKind.u64.wrap (Go.bits .and .u8 c 127)) (IntKind.u64.wrap (7 * IntKind.u64.wrap (i : Int))))) ((i + 1 : Nat) : Int)) := by
        intro y
        simp only [wire_ReadUint.j3]
        rw [w64 (x := (at_ : Int) + (i : Int)) (by omega) (by omega), w64 (x := (at_ : Int) + (i : Int) + 1) (by omega) (by omega), w64 (x := (i : Int) + 1) (by omega) (by omega)]
        rw [if_pos (show 0 ≤ IntKind.u64.wrap (7 * IntKind.u64.wrap (i : Int)) by rw [u64w (x := (i : Int)) (by omega) (by omega), u64w (by omega) (by omega)]; omega)]
        rfl
      have join2 : (if (i : Int) = 9 then wire_ReadUint.j2 (k + 2) b at_ x i c (decide (c > 1)) else wire_ReadUint.j2 (k + 2) b at_ x i c false) = wire_ReadUint.j2 (k + 2) b at_ x i c (decide (i = 9 ∧ c > 1)) := by
        by_cases h : i = 9
        · rw [if_pos (by omega)]; simp [h]
        · rw [if_neg (by omega)]; simp [h]
      rw [join2, step2, step3]
      simp only [pU, decide_eq_true_eq]
      by_cases h1 : i = 9 ∧ c > 1
      · rw [if_pos h1, if_pos h1]; rfl
      · rw [if_neg h1, if_neg h1]
        by_cases h2 : c = 0 ∧ i > 0
        · rw [if_pos (by omega), if_pos h2]; rfl
        · rw [if_neg (by omega), if_neg h2]
          rw [and127 hc.1 hc.2]
          have hor := or_shift x (c.toNat % 128) i hx hi (by omega) (fun h => by omega)
          by_cases h3 : c < 128
          · rw [if_pos h3, if_pos h3, hor]
            simp only [tellU, if_true]
            congr 2
            rw [show c.toNat % 128 = c.toNat by omega]
          · rw [if_neg h3, if_neg h3]
            have hi8 : i ≤ 8 := by
              by_cases h9 : i = 9
              · exact absurd ⟨h9, by omega⟩ h1
              · omega
            rw [hor]
            have hlt : x + c.toNat % 128 * 2 ^ (7 * i) < 2 ^ (7 * (i + 1)) := by
              have h1 : 2 ^ (7 * (i + 1)) = 128 * 2 ^ (7 * i) := by rw [show 7 * (i + 1) = 7 + 7 * i by omega, Nat.pow_add]
              have h2 : (c.toNat % 128 + 1) * 2 ^ (7 * i) ≤ 128 * 2 ^ (7 * i) := Nat.mul_le_mul_right _ (by omega)
              rw [Nat.add_mul] at h2
              omega
            rw [ih b at_ (i + 1) _ k hb hl (by omega) (by omega) hlt (by omega) (by omega), show at_ + (i + 1) = at_ + i + 1 by omega]
            unfold tellU
            by_cases h4 : (pU (i + 1) (b.drop (at_ + i + 1))).e = 0
            · simp only [if_pos h4, if_true]
              congr 2
              · congr 1
                rw [show 7 * (i + 1) = 7 + 7 * i by omega, Nat.pow_add, Nat.add_mul]
                simp only [show (2 : Nat) ^ 7 = 128 from rfl]
                rw [Nat.mul_comm 128 ((pU (i + 1) (List.drop (at_ + i + 1) b)).v), Nat.mul_assoc]
                omega
              · congr 1; omega
            · simp only [if_neg h4]
def readUR (b : List Int) (at_ : Int) : Int × Int × Int :=
  if at_ < 0 ∨ at_ > b.length then (0, 0, 1) else tellU 0 at_.toNat 0 (pU 0 (b.drop at_.toNat))
theorem readU_ev {b : List Int} (hb : bytes_ b) (hl : b.length ≤ 4611686018427387904) (at_ : Int) :
    Ev (fun k => wire_ReadUint.f k b at_) (readUR b at_) := by
  refine ⟨40, fun k hk => ?_⟩
  obtain ⟨k, rfl⟩ : ∃ q, k = q + 1 := ⟨k - 1, by omega⟩
  unfold wire_ReadUint.f readUR
  simp only [wire_ReadUint.j0]
  by_cases h1 : at_ < 0
  · simp [h1]
  · rw [if_neg h1]
    by_cases h2 : at_ > b.length
    · simp [h2]
    · rw [if_neg (show ¬ decide (at_ > (b.length : Int)) = true by simpa using h2), if_neg (by omega)]
      obtain ⟨n, rfl⟩ := Int.eq_ofNat_of_zero_le (show 0 ≤ at_ by omega)
      have := readU_l0 10 b n 0 0 k hb hl (by omega) (by omega) (by decide) (by omega) (by omega)
      simpa using this
end Go.Proofs.YthmnomdjpbfefaaDoor.A
