/- The sum of package wire as a linear map of bits: one to three turned bits in at most 4096 bytes, and bits within 32 that follow one another, turn it. -/
import Derived.Test.YthmnomdjpbfefaaDoorA
namespace Go.Proofs.YthmnomdjpbfefaaDoor.Crc
open Go.Proofs.YthmnomdjpbfefaaDoor.M Go.Proofs.YthmnomdjpbfefaaDoor.A
set_option linter.unusedVariables false
set_option linter.unusedSimpArgs false

/-! ## one bit's step -/
def S (r : Nat) : Nat := if r % 2 = 1 then (r / 2) ^^^ 3988292384 else r / 2
theorem S_lt {r : Nat} (h : r < 4294967296) : S r < 4294967296 := by
  unfold S; split
  · exact xor_lt32 (by omega) (by decide)
  · omega
theorem S_eq (r : Nat) : S r = (r / 2) ^^^ (if r % 2 = 1 then 3988292384 else 0) := by
  unfold S; split <;> simp
theorem xor_div2 (a b : Nat) : (a ^^^ b) / 2 = a / 2 ^^^ b / 2 := by
  have := Nat.shiftRight_xor_distrib (a := a) (b := b) (i := 1)
  simpa [Nat.shiftRight_eq_div_pow] using this
theorem xor_mod2 (a b : Nat) : (a ^^^ b) % 2 = (a % 2 + b % 2) % 2 := by
  have h := Nat.xor_mod_two_pow (a := a) (b := b) (n := 1)
  simp only [Nat.pow_one] at h
  rw [h]
  rcases Nat.mod_two_eq_zero_or_one a with ha | ha <;> rcases Nat.mod_two_eq_zero_or_one b with hb | hb <;> rw [ha, hb] <;> decide
theorem S_xor (a b : Nat) : S (a ^^^ b) = S a ^^^ S b := by
  rw [S_eq, S_eq, S_eq, xor_div2]
  have : (if (a ^^^ b) % 2 = 1 then 3988292384 else 0) = (if a % 2 = 1 then 3988292384 else 0) ^^^ (if b % 2 = 1 then 3988292384 else 0) := by
    rw [xor_mod2]
    rcases Nat.mod_two_eq_zero_or_one a with ha | ha <;> rcases Nat.mod_two_eq_zero_or_one b with hb | hb <;> rw [ha, hb] <;> decide
  rw [this]
  generalize (if a % 2 = 1 then 3988292384 else 0) = x
  generalize (if b % 2 = 1 then 3988292384 else 0) = y
  apply Nat.eq_of_testBit_eq
  intro i
  simp only [Nat.testBit_xor]
  cases (a / 2).testBit i <;> cases (b / 2).testBit i <;> cases x.testBit i <;> cases y.testBit i <;> rfl
theorem xor_self_eq_zero {a b : Nat} (h : a ^^^ b = 0) : a = b := by
  apply Nat.eq_of_testBit_eq
  intro i
  have := congrArg (fun z => Nat.testBit z i) h
  simp only [Nat.testBit_xor, Nat.zero_testBit] at this
  revert this
  cases a.testBit i <;> cases b.testBit i <;> simp
theorem S_zero {r : Nat} (h : r < 4294967296) (hz : S r = 0) : r = 0 := by
  unfold S at hz
  split at hz
  · have := xor_self_eq_zero hz
    omega
  · omega
def Sn : Nat → Nat → Nat
  | 0, r => r
  | n + 1, r => Sn n (S r)
theorem Sn_add : ∀ (m n r : Nat), Sn (m + n) r = Sn n (Sn m r)
  | 0, n, r => by simp [Sn]
  | m + 1, n, r => by rw [show m + 1 + n = (m + n) + 1 by omega, Sn, Sn_add m n]; rfl
theorem Sn_lt : ∀ (n : Nat) {r : Nat}, r < 4294967296 → Sn n r < 4294967296
  | 0, _, h => h
  | n + 1, _, h => Sn_lt n (S_lt h)
theorem Sn_xor : ∀ (n a b : Nat), Sn n (a ^^^ b) = Sn n a ^^^ Sn n b
  | 0, _, _ => rfl
  | n + 1, a, b => by rw [Sn, S_xor, Sn_xor n]; rfl
theorem Sn_zero : ∀ (n : Nat) {r : Nat}, r < 4294967296 → Sn n r = 0 → r = 0
  | 0, _, _, h => h
  | n + 1, _, h, hz => S_zero h (Sn_zero n (S_lt h) hz)
theorem Sn_of_zero : ∀ n : Nat, Sn n 0 = 0
  | 0 => rfl
  | n + 1 => by rw [Sn, show S 0 = 0 from by decide]; exact Sn_of_zero n

/-! ## half a byte at once is four bits -/
theorem split16 (r : Nat) : r = (16 * (r / 16)) ^^^ (r % 16) := by
  have h := Nat.two_pow_add_eq_or_of_lt (b := r % 16) (i := 4) (by omega) (r / 16)
  have h2 : (2 ^ 4 * (r / 16)) ^^^ (r % 16) = (2 ^ 4 * (r / 16)) ||| (r % 16) := by
    apply Nat.eq_of_testBit_eq
    intro i
    rw [Nat.testBit_xor, Nat.testBit_or]
    by_cases hi : i < 4
    · have h0 : (2 ^ 4 * (r / 16)).testBit i = false := by
        rw [Nat.testBit_two_pow_mul, decide_eq_false (show ¬ i ≥ 4 by omega)]; rfl
      rw [h0]; simp
    · rw [Nat.testBit_lt_two_pow (x := r % 16) (i := i) (Nat.lt_of_lt_of_le (show r % 16 < 2 ^ 4 by omega) (Nat.pow_le_pow_right (by decide) (by omega)))]; simp
  rw [show (16 : Nat) = 2 ^ 4 from rfl] at *
  rw [h2, ← h]; omega
theorem S_double (q : Nat) : S (2 * q) = q := by unfold S; rw [if_neg (by omega)]; omega
theorem S4_hi (q : Nat) : Sn 4 (16 * q) = q := by
  simp only [Sn]
  rw [show 16 * q = 2 * (2 * (2 * (2 * q))) by omega, S_double, S_double, S_double, S_double]
theorem S4_lo : ∀ s : Fin 16, Sn 4 s.1 = halfL.getD s.1 0 := by decide
theorem hstep_S (r : Nat) : hstep r = Sn 4 r := by
  conv => rhs; rw [split16 r]
  rw [Sn_xor, S4_hi, S4_lo ⟨r % 16, by omega⟩]; rfl
theorem bstep_S (r : Nat) (c : Int) : bstep r c = Sn 8 (r ^^^ (c % 4294967296).toNat) := by
  unfold bstep; rw [hstep_S, hstep_S, ← Sn_add]

/-! ## the keys of 32768 bits are apart -/
def fc {α : Type} (n : Nat) (f : Nat → α) : α := Nat.rec (f 0) (fun m _ => f (m + 1)) n
theorem fc_eq {α : Type} (n : Nat) (f : Nat → α) : fc n f = f n := by cases n <;> rfl
def S2 (r : Nat) : Nat := Nat.xor (Nat.shiftRight r 1) (Nat.mul (Nat.land r 1) 3988292384)
theorem S2_eq (r : Nat) : S2 r = S r := by
  have h1 : Nat.land r 1 = r % 2 := Nat.and_one_is_mod r
  have h2 : Nat.shiftRight r 1 = r / 2 := by have := Nat.shiftRight_eq_div_pow r 1; simpa using this
  unfold S2
  rw [h1, h2, S_eq]
  show r / 2 ^^^ (r % 2 * 3988292384) = _
  rcases Nat.mod_two_eq_zero_or_one r with h | h <;> rw [h] <;> simp
def keys : Nat → Nat → List Nat
  | 0, _ => []
  | n + 1, r => fc (Nat.shiftRight r 1) fun h => h :: fc (S2 r) fun r' => keys n r'
def part (bit : Nat) (want : Nat) : List Nat → List Nat
  | [] => []
  | x :: l => bif Nat.beq (Nat.land (Nat.shiftRight x bit) 1) want then x :: part bit want l else part bit want l
def apart : Nat → Nat → List Nat → Bool
  | _, _, [] => true
  | _, _, [_] => true
  | 0, _, _ => false
  | f + 1, bit, l => apart f (bit + 1) (part bit 0 l) && apart f (bit + 1) (part bit 1 l)
theorem part_eq (bit want : Nat) (l : List Nat) : part bit want l = l.filter fun x => Nat.beq (Nat.land (Nat.shiftRight x bit) 1) want := by
  induction l with
  | nil => rfl
  | cons x l ih =>
    rw [part, List.filter_cons, ih]
    cases Nat.beq (Nat.land (Nat.shiftRight x bit) 1) want <;> rfl
theorem nodup_parts {l : List Nat} {p q : Nat → Bool} (hpq : ∀ x, p x = true ∨ q x = true) (h1 : (l.filter p).Nodup) (h2 : (l.filter q).Nodup) : l.Nodup := by
  induction l with
  | nil => exact List.nodup_nil
  | cons x l ih =>
    have g1 : (l.filter p).Nodup := by
      rw [List.filter_cons] at h1; split at h1
      · exact (List.nodup_cons.1 h1).2
      · exact h1
    have g2 : (l.filter q).Nodup := by
      rw [List.filter_cons] at h2; split at h2
      · exact (List.nodup_cons.1 h2).2
      · exact h2
    refine List.nodup_cons.2 ⟨fun hx => ?_, ih g1 g2⟩
    rcases hpq x with h | h
    · rw [List.filter_cons, if_pos h] at h1
      exact (List.nodup_cons.1 h1).1 (List.mem_filter.2 ⟨hx, h⟩)
    · rw [List.filter_cons, if_pos h] at h2
      exact (List.nodup_cons.1 h2).1 (List.mem_filter.2 ⟨hx, h⟩)
theorem bit01 (x bit : Nat) : Nat.beq (Nat.land (Nat.shiftRight x bit) 1) 0 = true ∨ Nat.beq (Nat.land (Nat.shiftRight x bit) 1) 1 = true := by
  rw [show Nat.land (Nat.shiftRight x bit) 1 = Nat.shiftRight x bit % 2 from Nat.and_one_is_mod _]
  rcases Nat.mod_two_eq_zero_or_one (Nat.shiftRight x bit) with h | h <;> rw [h]
  · exact .inl rfl
  · exact .inr rfl
theorem apart_nodup : ∀ (f bit : Nat) (l : List Nat), apart f bit l = true → l.Nodup
  | _, _, [], _ => List.nodup_nil
  | _, _, [x], _ => by simp
  | 0, _, _ :: _ :: _, h => by simp [apart] at h
  | f + 1, bit, x :: y :: l, h => by
    rw [apart, Bool.and_eq_true] at h
    have h1 := apart_nodup f _ _ h.1
    have h2 := apart_nodup f _ _ h.2
    rw [part_eq] at h1 h2
    exact nodup_parts (fun x => bit01 x bit) h1 h2
    all_goals simp

def keysIf (w : Nat) : Nat → Nat → List Nat
  | 0, _ => []
  | n + 1, r => bif Nat.beq (Nat.land (Nat.shiftRight r 1) 7) w then fc (Nat.shiftRight r 1) fun h => h :: fc (S2 r) fun r' => keysIf w n r' else fc (S2 r) fun r' => keysIf w n r'
theorem keysIf_eq (w : Nat) : ∀ (n r : Nat), keysIf w n r = (keys n r).filter fun x => Nat.beq (Nat.land x 7) w
  | 0, _ => rfl
  | n + 1, r => by
    simp only [keysIf, keys, fc_eq, List.filter_cons, keysIf_eq w n]
    cases Nat.beq (Nat.land (Nat.shiftRight r 1) 7) w <;> rfl
theorem keys_get : ∀ (n r d : Nat), d < n → (keys n r)[d]? = some (Sn d r / 2)
  | 0, _, _, h => by omega
  | n + 1, r, 0, _ => by
    simp only [keys, fc_eq, List.getElem?_cons_zero, Sn]
    have := Nat.shiftRight_eq_div_pow r 1
    rw [show Nat.shiftRight r 1 = r / 2 by simpa using this]
  | n + 1, r, d + 1, h => by
    simp only [keys, fc_eq, List.getElem?_cons_succ, Sn]
    rw [S2_eq]
    exact keys_get n (S r) d (by omega)

/-! ## sums of turned bits -/
theorem bstep_xor (u v : Nat) (c : Int) : bstep (u ^^^ v) c = bstep u c ^^^ Sn 8 v := by
  rw [bstep_S, bstep_S, ← Sn_xor]
  congr 1
  rw [Nat.xor_assoc, Nat.xor_comm v, ← Nat.xor_assoc]
theorem sumB_xor : ∀ (ys : List Int) (u v : Nat), sumB (u ^^^ v) ys = sumB u ys ^^^ Sn (8 * ys.length) v
  | [], u, v => rfl
  | c :: ys, u, v => by
    show sumB (bstep (u ^^^ v) c) ys = sumB (bstep u c) ys ^^^ _
    rw [bstep_xor, sumB_xor ys, ← Sn_add]
    congr 2
    simp only [List.length_cons]; omega
theorem Sn_pow : ∀ j : Nat, Sn j (2 ^ j) = 1
  | 0 => rfl
  | j + 1 => by rw [Sn, Nat.pow_succ, Nat.mul_comm, S_double]; exact Sn_pow j
theorem Sn_pow' {j n : Nat} (h : j ≤ n) : Sn n (2 ^ j) = Sn (n - j) 1 := by
  rw [show n = j + (n - j) by omega, Sn_add, Sn_pow, show j + (n - j) - j = n - j by omega]
def xorI (c : Int) (m : Nat) : Int := ((c.toNat ^^^ m : Nat) : Int)
def flip1 (b : List Int) (p : Int) : List Int := if 0 ≤ p ∧ p < 8 * (b.length : Int) then b.set (p.toNat / 8) (xorI (b.getD (p.toNat / 8) 0) (2 ^ (p.toNat % 8))) else b
theorem xorI_byte {c : Int} {j : Nat} (h0 : 0 ≤ c) (h1 : c < 256) (hj : j < 8) : 0 ≤ xorI c (2 ^ j) ∧ xorI c (2 ^ j) < 256 := by
  have h : c.toNat ^^^ 2 ^ j < 2 ^ 8 := Nat.xor_lt_two_pow (by omega) (Nat.pow_lt_pow_right (by decide) hj)
  unfold xorI
  omega
theorem flip1_len (b : List Int) (p : Int) : (flip1 b p).length = b.length := by
  unfold flip1; split <;> simp
theorem getD_mem {b : List Int} {i : Nat} (h : i < b.length) : b.getD i 0 ∈ b := by
  rw [List.getD_eq_getElem?_getD, List.getElem?_eq_getElem h]; exact List.getElem_mem h
theorem bytes_flip {b : List Int} (hb : bytes_ b) (p : Int) : bytes_ (flip1 b p) := by
  unfold flip1
  split
  · rename_i h
    intro x hx
    rcases List.mem_or_eq_of_mem_set hx with hx | rfl
    · exact hb x hx
    · have := hb _ (getD_mem (b := b) (i := p.toNat / 8) (by omega))
      exact xorI_byte this.1 this.2 (by omega)
  · exact hb
theorem bstep_flip {r : Nat} {c : Int} {j : Nat} (h0 : 0 ≤ c) (h1 : c < 256) (hj : j < 8) : bstep r (xorI c (2 ^ j)) = bstep r c ^^^ Sn (8 - j) 1 := by
  have hx := xorI_byte h0 h1 hj
  rw [bstep_S, bstep_S, ← Sn_pow' (show j ≤ 8 by omega), ← Sn_xor]
  congr 1
  rw [show xorI c (2 ^ j) % 4294967296 = xorI c (2 ^ j) by omega, show c % 4294967296 = c by omega]
  unfold xorI
  rw [Int.toNat_natCast, Nat.xor_assoc]
theorem sumB_app (r : Nat) (xs ys : List Int) : sumB r (xs ++ ys) = sumB (sumB r xs) ys := List.foldl_append
theorem sumB_flip {b : List Int} (hb : bytes_ b) (r : Nat) {p : Nat} (hp : p < 8 * b.length) : sumB r (flip1 b (p : Int)) = sumB r b ^^^ Sn (8 * b.length - p) 1 := by
  have hi : p / 8 < b.length := by omega
  unfold flip1
  rw [if_pos (by omega), Int.toNat_natCast]
  have hc := hb _ (getD_mem hi)
  have e : b = b.take (p / 8) ++ b.getD (p / 8) 0 :: b.drop (p / 8 + 1) := by
    rw [List.getD_eq_getElem?_getD, List.getElem?_eq_getElem hi]
    simp
  have e2 : b.set (p / 8) (xorI (b.getD (p / 8) 0) (2 ^ (p % 8))) = b.take (p / 8) ++ xorI (b.getD (p / 8) 0) (2 ^ (p % 8)) :: b.drop (p / 8 + 1) := by
    rw [List.set_eq_take_append_cons_drop, if_pos hi]
  rw [e2]
  conv => rhs; rw [e]
  rw [sumB_app, sumB_app]
  show sumB (bstep _ _) _ = sumB (bstep _ _) _ ^^^ _
  rw [bstep_flip hc.1 hc.2 (by omega), sumB_xor, ← Sn_add, List.length_drop]
  congr 2
  rw [← e]
  omega
def flips (b : List Int) (ps : List Int) : List Int := ps.foldl flip1 b
theorem flip1_pos {b : List Int} {p : Int} (h : 0 ≤ p ∧ p < 8 * (b.length : Int)) : flip1 b p = b.set (p.toNat / 8) (xorI (b.getD (p.toNat / 8) 0) (2 ^ (p.toNat % 8))) := by unfold flip1; rw [if_pos h]
theorem flip1_neg {b : List Int} {p : Int} (h : ¬ (0 ≤ p ∧ p < 8 * (b.length : Int))) : flip1 b p = b := by unfold flip1; rw [if_neg h]
theorem flip_flip {b : List Int} (hb : bytes_ b) (p : Int) : flip1 (flip1 b p) p = b := by
  by_cases h : 0 ≤ p ∧ p < 8 * (b.length : Int)
  · have hi : p.toNat / 8 < b.length := by omega
    have hc := hb _ (getD_mem hi)
    rw [flip1_pos (b := flip1 b p) (by rw [flip1_len]; exact h), flip1_pos h, List.set_set, List.getD_eq_getElem?_getD, List.getElem?_set_self hi, Option.getD_some]
    have : xorI (xorI (b.getD (p.toNat / 8) 0) (2 ^ (p.toNat % 8))) (2 ^ (p.toNat % 8)) = b.getD (p.toNat / 8) 0 := by
      generalize b.getD (p.toNat / 8) 0 = c at hc
      unfold xorI
      rw [Int.toNat_natCast, Nat.xor_assoc, Nat.xor_self, Nat.xor_zero]
      omega
    rw [this, List.getD_eq_getElem?_getD, List.getElem?_eq_getElem hi]
    exact List.set_getElem_self hi
  · rw [flip1_neg h, flip1_neg h]

/-! ## the sum tells turned bits -/
def D (N : Nat) (p : Int) : Nat := if 0 ≤ p ∧ p < (N : Int) then Sn (N - p.toNat) 1 else 0
theorem sumB_flipD {b : List Int} (hb : bytes_ b) (r : Nat) (p : Int) : sumB r (flip1 b p) = sumB r b ^^^ D (8 * b.length) p := by
  unfold D
  by_cases h : 0 ≤ p ∧ p < 8 * (b.length : Int)
  · rw [if_pos (by omega)]
    obtain ⟨q, rfl⟩ := Int.eq_ofNat_of_zero_le h.1
    rw [Int.toNat_natCast]
    exact sumB_flip hb r (by omega)
  · rw [if_neg (by omega), flip1_neg h, Nat.xor_zero]
def DD (N : Nat) (ps : List Int) : Nat := ps.foldr (fun p x => D N p ^^^ x) 0
theorem flips_len : ∀ (ps : List Int) (b : List Int), (flips b ps).length = b.length
  | [], _ => rfl
  | p :: ps, b => by show (flips (flip1 b p) ps).length = _; rw [flips_len ps, flip1_len]
theorem bytes_flips : ∀ (ps : List Int) {b : List Int}, bytes_ b → bytes_ (flips b ps)
  | [], _, h => h
  | p :: ps, _, h => bytes_flips ps (bytes_flip h p)
theorem sumB_flips : ∀ (ps : List Int) {b : List Int} (hb : bytes_ b) (r : Nat), sumB r (flips b ps) = sumB r b ^^^ DD (8 * b.length) ps
  | [], b, _, r => by simp [flips, DD]
  | p :: ps, b, hb, r => by
    show sumB r (flips (flip1 b p) ps) = _
    rw [sumB_flips ps (bytes_flip hb p) r, sumB_flipD hb, flip1_len, Nat.xor_assoc]
    rfl

/-- what three keys that are apart give -/
def Apart : Prop := ∀ d1 d2, d1 < 32768 → d2 < 32768 → Sn d1 1 / 2 = Sn d2 1 / 2 → d1 = d2
theorem one_lt : (1 : Nat) < 4294967296 := by decide
theorem Sn_one_ne (n : Nat) : Sn n 1 ≠ 0 := fun h => absurd (Sn_zero n one_lt h) (by decide)
theorem xor_eq_zero {a b : Nat} (h : a = b) : a ^^^ b = 0 := by subst h; exact Nat.xor_self a
theorem half_of_xor_one {a b : Nat} (h : a ^^^ b = 1) : a / 2 = b / 2 := by
  have := xor_div2 a b
  rw [h] at this
  exact xor_self_eq_zero this.symm
theorem pair_apart (hA : Apart) {e1 e2 : Nat} (h1 : 1 ≤ e1) (h2 : e1 ≤ e2) (h3 : e2 ≤ 32768) (h : Sn e1 1 = Sn e2 1) : e1 = e2 := by
  have hx : Sn e1 (1 ^^^ Sn (e2 - e1) 1) = 0 := by
    rw [Sn_xor, ← Sn_add, show e2 - e1 + e1 = e2 by omega]
    exact xor_eq_zero h
  have h0 := xor_self_eq_zero (Sn_zero e1 (xor_lt32 one_lt (Sn_lt _ one_lt)) hx)
  have := hA 0 (e2 - e1) (by decide) (by omega) (by show 1 / 2 = _; rw [← h0])
  omega
theorem pair_apart' (hA : Apart) {e1 e2 : Nat} (h1 : 1 ≤ e1) (h1' : e1 ≤ 32768) (h2 : 1 ≤ e2) (h3 : e2 ≤ 32768) (h : Sn e1 1 = Sn e2 1) : e1 = e2 := by
  rcases Nat.le_total e1 e2 with hl | hl
  · exact pair_apart hA h1 hl h3 h
  · exact (pair_apart hA h2 hl h1' h.symm).symm
theorem tri_min (hA : Apart) {m e2 e3 : Nat} (h1 : 1 ≤ m) (h2 : m ≤ e2) (h3 : m ≤ e3) (g2 : e2 ≤ 32768) (g3 : e3 ≤ 32768) (h : Sn e2 1 ^^^ Sn e3 1 = Sn m 1) : False := by
  have hx : Sn m (1 ^^^ (Sn (e2 - m) 1 ^^^ Sn (e3 - m) 1)) = 0 := by
    rw [Sn_xor, Sn_xor, ← Sn_add, ← Sn_add, show e2 - m + m = e2 by omega, show e3 - m + m = e3 by omega]
    exact xor_eq_zero h.symm
  have h0 := xor_self_eq_zero (Sn_zero m (xor_lt32 one_lt (xor_lt32 (Sn_lt _ one_lt) (Sn_lt _ one_lt))) hx)
  have hh := hA (e2 - m) (e3 - m) (by omega) (by omega) (half_of_xor_one h0.symm)
  rw [hh, Nat.xor_self] at h0
  exact absurd h0 (by decide)
theorem xor_swap {a b c : Nat} (h : a ^^^ b = c) : a ^^^ c = b := by rw [← h, ← Nat.xor_assoc, Nat.xor_self, Nat.zero_xor]
theorem tri_apart (hA : Apart) {e1 e2 e3 : Nat} (h1 : 1 ≤ e1) (h2 : 1 ≤ e2) (h3 : 1 ≤ e3) (g1 : e1 ≤ 32768) (g2 : e2 ≤ 32768) (g3 : e3 ≤ 32768) (h : Sn e1 1 ^^^ Sn e2 1 = Sn e3 1) : False := by
  by_cases c1 : e3 ≤ e1 ∧ e3 ≤ e2
  · exact tri_min hA h3 c1.1 c1.2 g1 g2 h
  · by_cases c2 : e2 ≤ e1 ∧ e2 ≤ e3
    · exact tri_min hA h2 c2.1 c2.2 g1 g3 (xor_swap h)
    · rw [Nat.xor_comm] at h
      exact tri_min hA h1 (show e1 ≤ e2 by omega) (by omega) g2 g3 (xor_swap h)
theorem D_pos {N : Nat} {p : Int} (h : 0 ≤ p ∧ p < (N : Int)) : D N p = Sn (N - p.toNat) 1 := if_pos h
theorem D_neg {N : Nat} {p : Int} (h : ¬ (0 ≤ p ∧ p < (N : Int))) : D N p = 0 := if_neg h
theorem D_inj (hA : Apart) {N : Nat} (hN : N ≤ 32768) {p q : Int} (hp : 0 ≤ p ∧ p < (N : Int)) (hq : 0 ≤ q ∧ q < (N : Int)) (h : D N p = D N q) : p = q := by
  rw [D_pos hp, D_pos hq] at h
  have := pair_apart' hA (by omega) (by omega) (by omega) (by omega) h
  omega
theorem D_ne {N : Nat} {p : Int} (hp : 0 ≤ p ∧ p < (N : Int)) : D N p ≠ 0 := by rw [D_pos hp]; exact Sn_one_ne _

/-- ONE TO THREE BITS. -/
theorem three (hA : Apart) {b : List Int} (hb : bytes_ b) (hl : b.length ≤ 4096) (i j k : Int) (h : sumB 4294967295 (flips b [i, j, k]) = sumB 4294967295 b) : flips b [i, j, k] = b := by
  rw [sumB_flips _ hb] at h
  have hz : DD (8 * b.length) [i, j, k] = 0 := by
    have := xor_swap (a := sumB 4294967295 b) h
    rw [Nat.xor_self] at this
    exact this.symm
  simp only [DD, List.foldr, Nat.xor_zero] at hz
  have hN : 8 * b.length ≤ 32768 := by omega
  show flip1 (flip1 (flip1 b i) j) k = b
  by_cases ci : 0 ≤ i ∧ i < ((8 * b.length : Nat) : Int) <;> by_cases cj : 0 ≤ j ∧ j < ((8 * b.length : Nat) : Int) <;> by_cases ck : 0 ≤ k ∧ k < ((8 * b.length : Nat) : Int)
  · exfalso
    rw [D_pos ci, D_pos cj, D_pos ck] at hz
    exact tri_apart hA (by omega) (by omega) (by omega) (by omega) (by omega) (by omega) (xor_self_eq_zero hz).symm
  · rw [D_neg ck, Nat.xor_zero] at hz
    obtain rfl := D_inj hA hN ci cj (xor_self_eq_zero hz)
    rw [flip_flip hb, flip1_neg (by omega)]
  · rw [D_neg cj, Nat.zero_xor] at hz
    obtain rfl := D_inj hA hN ci ck (xor_self_eq_zero hz)
    rw [flip1_neg (b := flip1 b i) (p := j) (by rw [flip1_len]; omega), flip_flip hb]
  · rw [D_neg cj, D_neg ck, Nat.zero_xor, Nat.xor_zero] at hz
    exact absurd hz (D_ne ci)
  · rw [D_neg ci, Nat.zero_xor] at hz
    obtain rfl := D_inj hA hN cj ck (xor_self_eq_zero hz)
    rw [flip1_neg (b := b) (p := i) (by omega), flip_flip hb]
  · rw [D_neg ci, D_neg ck, Nat.zero_xor, Nat.xor_zero] at hz
    exact absurd hz (D_ne cj)
  · rw [D_neg ci, D_neg cj, Nat.zero_xor, Nat.zero_xor] at hz
    exact absurd hz (D_ne ck)
  · rw [flip1_neg (b := b) (p := i) (by omega), flip1_neg (b := b) (p := j) (by omega), flip1_neg (b := b) (p := k) (by omega)]

/-! ## bits within 32 that follow one another -/
def Q (N at_ : Nat) (ns : List Nat) : Nat := ns.foldr (fun n q => (if at_ + n < N then 2 ^ n else 0) ^^^ q) 0
theorem Q_lt (N at_ : Nat) : ∀ ns : List Nat, (∀ n ∈ ns, n < 32) → Q N at_ ns < 4294967296
  | [], _ => (show 0 < 4294967296 by decide)
  | n :: ns, h => by
    refine xor_lt32 ?_ (Q_lt N at_ ns fun m hm => h m (List.mem_cons_of_mem _ hm))
    have := h n (List.mem_cons_self ..)
    split
    · exact Nat.lt_of_lt_of_le (Nat.pow_lt_pow_right (by decide) this) (by decide +kernel)
    · decide
theorem DD_Q (N at_ : Nat) (hat : at_ < N) : ∀ ns : List Nat, (∀ n ∈ ns, n < 32) → DD N (ns.map fun n => ((at_ + n : Nat) : Int)) = Sn (N - at_) (Q N at_ ns)
  | [], _ => by simp [DD, Q, Sn_of_zero]
  | n :: ns, h => by
    have ih := DD_Q N at_ hat ns fun m hm => h m (List.mem_cons_of_mem _ hm)
    show D N ((at_ + n : Nat) : Int) ^^^ DD N (ns.map _) = Sn (N - at_) ((if at_ + n < N then 2 ^ n else 0) ^^^ Q N at_ ns)
    rw [ih, Sn_xor]
    congr 1
    by_cases c : at_ + n < N
    · rw [if_pos c, D_pos (by omega), Int.toNat_natCast, Sn_pow' (show n ≤ N - at_ by omega), show N - (at_ + n) = N - at_ - n by omega]
    · rw [if_neg c, D_neg (by omega), Sn_of_zero]
theorem Q_testBit (N at_ : Nat) : ∀ (ns : List Nat) (m : Nat), m ∉ ns → (Q N at_ ns).testBit m = false
  | [], m, _ => by simp [Q]
  | n :: ns, m, h => by
    have h1 : m ≠ n := fun e => h (e ▸ List.mem_cons_self ..)
    have h2 := Q_testBit N at_ ns m (fun e => h (List.mem_cons_of_mem _ e))
    show ((if at_ + n < N then 2 ^ n else 0) ^^^ Q N at_ ns).testBit m = false
    rw [Nat.testBit_xor, h2]
    split
    · rw [Nat.testBit_two_pow]; simp; omega
    · simp
theorem Q_set (N at_ : Nat) : ∀ (ns : List Nat), ns.Nodup → ∀ m ∈ ns, at_ + m < N → (Q N at_ ns).testBit m = true
  | [], _, m, h, _ => by cases h
  | n :: ns, hn, m, h, hm => by
    rw [List.nodup_cons] at hn
    show ((if at_ + n < N then 2 ^ n else 0) ^^^ Q N at_ ns).testBit m = true
    rw [Nat.testBit_xor]
    rcases List.mem_cons.1 h with rfl | h
    · rw [Q_testBit N at_ ns m hn.1, if_pos hm, Nat.testBit_two_pow]; simp
    · rw [Q_set N at_ ns hn.2 m h hm]
      have hne : n ≠ m := fun e => hn.1 (e ▸ h)
      split
      · rw [Nat.testBit_two_pow]; simp [hne]
      · simp
theorem flips_none : ∀ (ps : List Int) (b : List Int), (∀ p ∈ ps, ¬ (0 ≤ p ∧ p < 8 * (b.length : Int))) → flips b ps = b
  | [], _, _ => rfl
  | p :: ps, b, h => by
    show flips (flip1 b p) ps = b
    rw [flip1_neg (h p (List.mem_cons_self ..))]
    exact flips_none ps b fun q hq => h q (List.mem_cons_of_mem _ hq)
/-- A BURST. -/
theorem burst {b : List Int} (hb : bytes_ b) {at_ : Nat} (hat : at_ < 8 * b.length) {ns : List Nat} (hn : ns.Nodup) (h32 : ∀ n ∈ ns, n < 32)
    (h : sumB 4294967295 (flips b (ns.map fun n => ((at_ + n : Nat) : Int))) = sumB 4294967295 b) : flips b (ns.map fun n => ((at_ + n : Nat) : Int)) = b := by
  rw [sumB_flips _ hb] at h
  have hz : DD (8 * b.length) (ns.map fun n => ((at_ + n : Nat) : Int)) = 0 := by
    have := xor_swap (a := sumB 4294967295 b) h
    rw [Nat.xor_self] at this
    exact this.symm
  rw [DD_Q _ _ hat ns h32] at hz
  have hq := Sn_zero _ (Q_lt _ _ ns h32) hz
  refine flips_none _ b fun p hp => ?_
  obtain ⟨n, hn2, rfl⟩ := List.mem_map.1 hp
  intro hv
  have := Q_set (8 * b.length) at_ ns hn n hn2 (by omega)
  rw [hq] at this
  simp at this
end Go.Proofs.YthmnomdjpbfefaaDoor.Crc
