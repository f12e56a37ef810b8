-- written by programs of this session
import Derived.Test.YthmnomdjpbfefaaDoorSA
namespace Go.Proofs.YthmnomdjpbfefaaDoor.Crc
open Go.Proofs.YthmnomdjpbfefaaDoor.M Go.Proofs.YthmnomdjpbfefaaDoor.A
set_option linter.unusedVariables false
set_option linter.unusedSimpArgs false
def S (r : Nat) : Nat := if r % 2 = 1 then (r / 2) ^^^ 3988292384 else r / 2
theorem S_eq (r : Nat) : S r = (r / 2) ^^^ (if r % 2 = 1 then 3988292384 else 0) := by
  unfold S; split <;> simp
theorem xor_div2 (a b : Nat) : (a ^^^ b) / 2 = a / 2 ^^^ b / 2 := by
  have := Nat.shiftRight_xor_distrib (a := a) (b := b) (i := 1)
  simpa [Nat.shiftRight_eq_div_pow] using this
theorem xor_mod2 (a b : Nat) : (a ^^^ b) % 2 = (a % 2 + b % 2) % 2 := by
  have h := Nat.xor_mod_two_pow (a := a) (b := b) (n := 1)
  simp only [Nat.pow_one] at h
  rw [h]
  rcases Nat.mod_two_eq_zero_or_one a with ha | ha <;> rcases Nat.mod_two_eq_zero_or_one b with hb | hb <;> rw [ha, hb] <;> decide
theorem S_xor (a b : Nat) : S (a ^^^ b) = S a ^^^ S b := by
  rw [S_eq, S_eq, S_eq, xor_div2]
  have : (if (a ^^^ b) % 2 = 1 then 3988292384 else 0) = (if a % 2 = 1 then 3988292384 else 0) ^^^ (if b % 2 = 1 then 3988292384 else 0) := by
    rw [xor_mod2]
    rcases Nat.mod_two_eq_zero_or_one a with ha | ha <;> rcases Nat.mod_two_eq_zero_or_one b with hb | hb <;> rw [ha, hb] <;> decide
  rw [this]
  generalize (if a % 2 = 1 then 3988292384 else 0) = x
  generalize (if b % 2 = 1 then 3988292384 else 0) = y
  apply Nat.eq_of_testBit_eq
  intro i
  simp only [Nat.testBit_xor]
  cases (a / 2).testBit i <;> cases (b / 2).testBit i <;> cases x.testBit i <;> cases y.testBit i <;> rfl
def Sn : Nat → Nat → Nat
  | 0, r => r
  | n + 1, r => Sn n (S r)
theorem Sn_add : ∀ (m n r : Nat), Sn (m + n) r = Sn n (Sn m r)
  | 0, n, r => by simp [Sn]
  | m + 1, n, r => by rw [show m + 1 + n = (m + n) + 1 by omega, Sn, Sn_add m n]; rfl
theorem Sn_xor : ∀ (n a b : Nat), Sn n (a ^^^ b) = Sn n a ^^^ Sn n b
  | 0, _, _ => rfl
  | n + 1, a, b => by rw [Sn, S_xor, Sn_xor n]; rfl
theorem split16 (r : Nat) : r = (16 * (r / 16)) ^^^ (r % 16) := by
  have h := Nat.two_pow_add_eq_or_of_lt (b := r % 16) (i := 4) (by omega) (r / 16)
  have h2 : (2 ^ 4 * (r / 16)) ^^^ (r % 16) = (2 ^ 4 * (r / 16)) ||| (r % 16) := by
    apply Nat.eq_of_testBit_eq
    intro i
    rw [Nat.testBit_xor, Nat.testBit_or]
    by_cases hi : i < 4
    · have h0 : (2 ^ 4 * (r / 16)).testBit i = false := by
        rw [Nat.testBit_two_pow_mul, decide_eq_false (show ¬ i ≥ 4 by omega)]; rfl
      rw [h0]; simp
    · rw [Nat.testBit_lt_two_pow (x := r % 16) (i := i) (Nat.lt_of_lt_of_le (show r % 16 < 2 ^ 4 by omega) (Nat.pow_le_pow_right (by decide) (by omega)))]; simp
  rw [show (16 : Nat) = 2 ^ 4 from rfl] at *
  rw [h2, ← h]; omega
theorem S_double (q : Nat) : S (2 * q) = q := by unfold S; rw [if_neg (by omega)]; omega
theorem S4_hi (q : Nat) : Sn 4 (16 * q) = q := by
  simp only [Sn]
  rw [show 16 * q = 2 * (2 * (2 * (2 * q))) by omega, S_double, S_double, S_double, S_double]
theorem S4_lo : ∀ s : Fin 16, Sn 4 s.1 = halfL.getD s.1 0 := by decide
theorem hstep_S (r : Nat) : hstep r = Sn 4 r := by
  conv => rhs; rw [split16 r]
  rw [Sn_xor, S4_hi, S4_lo ⟨r % 16, by omega⟩]; rfl
theorem bstep_S (r : Nat) (c : Int) : bstep r c = Sn 8 (r ^^^ (c % 4294967296).toNat) := by
  unfold bstep; rw [hstep_S, hstep_S, ← Sn_add]
def S2 (r : Nat) : Nat := Nat.xor (Nat.shiftRight r 1) (Nat.mul (Nat.land r 1) 3988292384)
def part (bit : Nat) (want : Nat) : List Nat → List Nat
  | [] => []
  | x :: l => bif Nat.beq (Nat.land (Nat.shiftRight x bit) 1) want then x :: part bit want l else part bit want l
def apart : Nat → Nat → List Nat → Bool
  | _, _, [] => true
  | _, _, [_] => true
  | 0, _, _ => false
  | f + 1, bit, l => apart f (bit + 1) (part bit 0 l) && apart f (bit + 1) (part bit 1 l)
theorem sumB_app (r : Nat) (xs ys : List Int) : sumB r (xs ++ ys) = sumB (sumB r xs) ys := List.foldl_append
def Q (N at_ : Nat) (ns : List Nat) : Nat := ns.foldr (fun n q => (if at_ + n < N then 2 ^ n else 0) ^^^ q) 0
end Go.Proofs.YthmnomdjpbfefaaDoor.Crc
