-- written by programs of this session
import Derived.Test.YthmnomdjpbfefaaDoorZF
import Derived.Test.YthmnomdjpbfefaaDoorZN
import Derived.Test.YthmnomdjpbfefaaDoorZPx13
import Derived.Test.YthmnomdjpbfefaaDoorZPx14
import Derived.Test.YthmnomdjpbfefaaDoorZPx15
import Derived.Test.YthmnomdjpbfefaaDoorZPx16
import Derived.Test.YthmnomdjpbfefaaDoorZPx17
import Derived.Test.YthmnomdjpbfefaaDoorZPx18
import Derived.Test.YthmnomdjpbfefaaDoorZPx19
import Derived.Test.YthmnomdjpbfefaaDoorZQx1
import Derived.Test.YthmnomdjpbfefaaDoorZK
import Derived.ChangeArms
import Derived.ChangeSlices
import Derived.ChangeOld
namespace Go.Proofs.YthmnomdjpbfefaaDoor.A
open Go.RowKit Go.Proofs.YthmnomdjpbfefaaDoorW.PrintWords Go.Proofs.YthmnomdjpbfefaaDoorW.PrintLast Go.Proofs.YthmnomdjpbfefaaDoorW.PrintMore Go.Proofs.YthmnomdjpbfefaaDoor.P Go.Proofs.YthmnomdjpbfefaaDoor.M Go.Proofs.YthmnomdjpbfefaaDoor.Crc
set_option linter.unusedVariables false
set_option linter.unusedSimpArgs false
theorem tdiv_nat (a b : Nat) : Int.tdiv (a : Int) (b : Int) = ((a / b : Nat) : Int) := by
  rw [Int.tdiv_eq_ediv_of_nonneg (by omega)]; omega
theorem rUint_l0 : ∀ (n v k : Nat) (xs : List Int), v < 128 ^ (n + 1) → v < 18446744073709551616 → xs.length + n + 1 < 140737488355328 → n < k →
    kilnref1_Uint.l0 k (v : Int) xs = some (xs ++ uintL v) := by
  intro n
  induction n with
  | zero =>
    intro v k xs hv hv2 hl hk
    obtain ⟨k, rfl⟩ : ∃ m, k = m + 1 := ⟨k - 1, by omega⟩
    simp only [kilnref1_Uint.l0]
    rw [if_neg (by omega), if_pos (by omega), uintL, if_pos (by omega), Int.emod_eq_of_lt (by omega) (by omega)]
  | succ n ih =>
    intro v k xs hv hv2 hl hk
    obtain ⟨k, rfl⟩ : ∃ m, k = m + 1 := ⟨k - 1, by omega⟩
    simp only [kilnref1_Uint.l0]
    by_cases h : v < 128
    · rw [if_neg (by omega), if_pos (by omega), uintL, if_pos h, Int.emod_eq_of_lt (by omega) (by omega)]
    · rw [if_pos (by omega), if_pos (by omega), uintL, if_neg h, show (128 : Int) = ((128 : Nat) : Int) from rfl, tdiv_nat, tmod_nat, u64w (x := ((v / 128 : Nat) : Int)) (by omega) (by omega), u64w (by omega) (by omega), Int.emod_eq_of_lt (by omega) (by omega)]
      rw [ih (v / 128) k _ (by rw [Nat.div_lt_iff_lt_mul (by decide)]; rw [Nat.pow_succ] at hv; exact hv) (by omega) (by simp; omega) (by omega), List.append_assoc]
      rw [show ((128 : Nat) : Int) + ((v % 128 : Nat) : Int) = ((v % 128 + 128 : Nat) : Int) by omega]
      rfl
theorem rUint_ev {v : Int} (h0 : 0 ≤ v) (h : v < 18446744073709551616) : Ev (fun k => kilnref1_Uint.f k v) (uintL v.toNat) := by
  refine ⟨10, fun k hk => ?_⟩
  obtain ⟨n, rfl⟩ := Int.eq_ofNat_of_zero_le h0
  have := rUint_l0 9 n k [] (by simp; omega) (by omega) (by simp) (by omega)
  simpa [kilnref1_Uint.f] using this
theorem add_mul_ (x c i : Nat) (hx : x < 2 ^ (7 * i)) (hi : i ≤ 9) (hc : c < 128) (h9 : i = 9 → c ≤ 1) :
    IntKind.u64.wrap ((x : Int) + IntKind.u64.wrap (((2 ^ (7 * i) : Nat) : Int) * (c : Int))) = ((x + c * 2 ^ (7 * i) : Nat) : Int) := by
  have hlt : x + c * 2 ^ (7 * i) < 18446744073709551616 := by
    by_cases h : i = 9
    · subst h
      have h1 : c * 2 ^ (7 * 9) ≤ 1 * 2 ^ (7 * 9) := Nat.mul_le_mul_right _ (h9 rfl)
      have h2 : (2 : Nat) ^ (7 * 9) = 9223372036854775808 := by decide +kernel
      rw [h2] at hx h1 ⊢
      omega
    · have h1 : c * 2 ^ (7 * i) ≤ 127 * 2 ^ (7 * i) := Nat.mul_le_mul_right _ (by omega)
      have h3 : 2 ^ (7 * i) ≤ 2 ^ 56 := Nat.pow_le_pow_right (by decide) (by omega)
      have h4 : (2 : Nat) ^ 56 = 72057594037927936 := by decide +kernel
      rw [h4] at h3
      generalize 2 ^ (7 * i) = p at *
      generalize c * p = q at *
      omega
  rw [show ((2 ^ (7 * i) : Nat) : Int) * (c : Int) = ((c * 2 ^ (7 * i) : Nat) : Int) by rw [← Int.natCast_mul, Nat.mul_comm]]
  generalize c * 2 ^ (7 * i) = q at *
  rw [u64w (x := (q : Int)) (by omega) (by omega), u64w (by omega) (by omega)]
  omega
theorem p7_succ (i : Nat) (hi : i ≤ 8) : IntKind.u64.wrap (((2 ^ (7 * i) : Nat) : Int) * 128) = ((2 ^ (7 * (i + 1)) : Nat) : Int) := by
  have h1 : 2 ^ (7 * (i + 1)) = 128 * 2 ^ (7 * i) := by rw [show 7 * (i + 1) = 7 + 7 * i by omega, Nat.pow_add]
  have h3 : 2 ^ (7 * i) ≤ 2 ^ 56 := Nat.pow_le_pow_right (by decide) (by omega)
  have h4 : (2 : Nat) ^ 56 = 72057594037927936 := by decide +kernel
  rw [h4] at h3
  rw [h1]
  generalize 2 ^ (7 * i) = p at *
  rw [u64w (by omega) (by omega)]
  omega
theorem rReadU_l0 : ∀ (m : Nat) (b : List Int) (at_ i x k : Nat), bytes_ b → b.length ≤ 4611686018427387904 → at_ + i ≤ b.length → i ≤ 9 → x < 2 ^ (7 * i) → 10 - i ≤ m → 3 * m < k →
    kilnref1_ReadUint.l0 k b (at_ : Int) (x : Int) ((2 ^ (7 * i) : Nat) : Int) (i : Int) = some (tellU x at_ i (pU i (b.drop (at_ + i)))) := by
  intro m
  induction m with
  | zero => intro b at_ i x k _ _ _ hi _ hm; omega
  | succ m ih =>
    intro b at_ i x k hb hl hat hi hx hm hk
    obtain ⟨k, rfl⟩ : ∃ q, k = q + 2 := ⟨k - 2, by omega⟩
    simp only [kilnref1_ReadUint.l0]
    rw [if_pos (by omega), w64 (x := (at_ : Int) + (i : Int)) (by omega) (by omega)]
    by_cases he : at_ + i = b.length
    · rw [if_pos (by omega), he, List.drop_length]; rfl
    · obtain ⟨c, hd, hr, hc⟩ := rd_drop (show at_ + i < b.length by omega)
      have hc := hb c hc
      rw [if_neg (by omega), if_pos (by omega), if_pos (by omega), show ((at_ : Int) + (i : Int)) = ((at_ + i : Nat) : Int) by omega, hr, hd, u64w (x := c) (by omega) (by omega)]
      have hcn : c = ((c.toNat : Nat) : Int) := by omega
      have hmod : Int.tmod c 128 = ((c.toNat % 128 : Nat) : Int) := by
        rw [hcn]; exact tmod_nat c.toNat 128
      have step1 : ∀ y, kilnref1_ReadUint.j1 (k + 1) b at_ x ((2 ^ (7 * i) : Nat) : Int) i c y = if y = true then some (0, 0, 12) else if c < 128 then (if c = 0 then (if (i : Int) > 0 then some (0, 0, 11) else some (IntKind.u64.wrap ((x : Int) + IntKind.u64.wrap (((2 ^ (7 * i) : Nat) : Int) * ((c.toNat % 128 : Nat) : Int))), ((at_ + i + 1 : Nat) : Int), 0)) else some (IntKind.u64.wrap ((x : Int) + IntKind.u64.wrap (((2 ^ (7 * i) : Nat) : Int) * ((c.toNat % 128 : Nat) : Int))), ((at_ + i + 1 : Nat) : Int), 0)) else kilnref1_ReadUint.l0 k b at_ (IntKind.u64.wrap ((x : Int) + IntKind.u64.wrap (((2 ^ (7 * i) : Nat) : Int) * ((c.toNat % 128 : Nat) : Int)))) (IntKind.u64.wrap (((2 ^ (7 * i) : Nat) : Int) * 128)) ((i + 1 : Nat) : Int) := by
        intro y
        simp only [kilnref1_ReadUint.j1]
        rw [w64 (x := (at_ : Int) + (i : Int)) (by omega) (by omega), w64 (x := (at_ : Int) + (i : Int) + 1) (by omega) (by omega), w64 (x := (i : Int) + 1) (by omega) (by omega), hmod]
        rfl
      have join1 : (if (i : Int) = 9 then kilnref1_ReadUint.j1 (k + 1) b at_ x ((2 ^ (7 * i) : Nat) : Int) i c (decide (c > 1)) else kilnref1_ReadUint.j1 (k + 1) b at_ x ((2 ^ (7 * i) : Nat) : Int) i c false) = kilnref1_ReadUint.j1 (k + 1) b at_ x ((2 ^ (7 * i) : Nat) : Int) i c (decide (i = 9 ∧ c > 1)) := by
        by_cases h : i = 9
        · rw [if_pos (by omega)]; simp [h]
        · rw [if_neg (by omega)]; simp [h]
      rw [join1, step1]
      simp only [pU, decide_eq_true_eq]
      by_cases h1 : i = 9 ∧ c > 1
      · rw [if_pos h1, if_pos h1]; rfl
      · rw [if_neg h1, if_neg h1]
        by_cases h2 : c = 0 ∧ i > 0
        · rw [if_pos (by omega), if_pos h2.1, if_pos (by omega), if_pos h2]; rfl
        · rw [if_neg h2]
          have hor := add_mul_ x (c.toNat % 128) i hx hi (by omega) (fun h => by omega)
          rw [hor]
          by_cases h3 : c < 128
          · rw [if_pos h3, if_pos h3]
            have e : ∀ (p q : Option (Int × Int × Int)), (if c = 0 then (if (i : Int) > 0 then p else q) else q) = q := by
              intro p q
              by_cases h : c = 0
              · rw [if_pos h, if_neg (by omega)]
              · rw [if_neg h]
            rw [e]
            simp only [tellU, if_true]
            congr 2
            rw [show c.toNat % 128 = c.toNat by omega]
          · rw [if_neg h3, if_neg h3]
            have hi8 : i ≤ 8 := by
              by_cases h9 : i = 9
              · exact absurd ⟨h9, by omega⟩ h1
              · omega
            have hlt : x + c.toNat % 128 * 2 ^ (7 * i) < 2 ^ (7 * (i + 1)) := by
              have h1 : 2 ^ (7 * (i + 1)) = 128 * 2 ^ (7 * i) := by rw [show 7 * (i + 1) = 7 + 7 * i by omega, Nat.pow_add]
              have h2 : (c.toNat % 128 + 1) * 2 ^ (7 * i) ≤ 128 * 2 ^ (7 * i) := Nat.mul_le_mul_right _ (by omega)
              rw [Nat.add_mul] at h2
              omega
            rw [p7_succ i hi8, ih b at_ (i + 1) _ k hb hl (by omega) (by omega) hlt (by omega) (by omega), show at_ + (i + 1) = at_ + i + 1 by omega]
            unfold tellU
            by_cases h4 : (pU (i + 1) (b.drop (at_ + i + 1))).e = 0
            · simp only [if_pos h4, if_true]
              congr 2
              · congr 1
                rw [show 7 * (i + 1) = 7 + 7 * i by omega, Nat.pow_add, Nat.add_mul]
                simp only [show (2 : Nat) ^ 7 = 128 from rfl]
                rw [Nat.mul_comm 128 ((pU (i + 1) (List.drop (at_ + i + 1) b)).v), Nat.mul_assoc]
                omega
              · congr 1; omega
            · simp only [if_neg h4]
theorem outside_some (b : List Int) (at_ : Int) : kilnref1_outside.f b at_ = some (decide (at_ < 0 ∨ at_ > (b.length : Int))) := by
  unfold kilnref1_outside.f
  by_cases h : at_ < 0
  · rw [if_pos h]; simp [h]
  · rw [if_neg h]; simp [h]
theorem rReadU_ev {b : List Int} (hb : bytes_ b) (hl : b.length ≤ 4611686018427387904) (at_ : Int) :
    Ev (fun k => kilnref1_ReadUint.f k b at_) (readUR b at_) := by
  unfold kilnref1_ReadUint.f readUR
  refine Ev.bind (Ev.const (outside_some b at_)) ?_
  by_cases h : at_ < 0 ∨ at_ > (b.length : Int)
  · rw [if_pos h]; exact Ev.pos (by simpa using h) (Ev.some_ rfl)
  · rw [if_neg h]
    refine Ev.neg (by simpa using h) ⟨40, fun k hk => ?_⟩
    obtain ⟨n, rfl⟩ := Int.eq_ofNat_of_zero_le (show 0 ≤ at_ by omega)
    have := rReadU_l0 10 b n 0 0 k hb hl (by omega) (by omega) (by decide) (by omega) (by omega)
    simpa using this
theorem rFixed_l0 : ∀ (m v n i k : Nat) (xs : List Int), i + m = n → n ≤ 8 → v < 18446744073709551616 → xs.length + m ≤ 100 → m < k →
    kilnref1_Fixed.l0 k (v : Int) (n : Int) xs (i : Int) = some (if v / 256 ^ m = 0 then (xs ++ fixL v m, 0) else ([], 12)) := by
  intro m
  induction m with
  | zero =>
    intro v n i k xs h hn hv hl hk
    obtain ⟨k, rfl⟩ : ∃ q, k = q + 1 := ⟨k - 1, by omega⟩
    simp only [kilnref1_Fixed.l0]
    rw [if_neg (by omega)]
    by_cases h0 : v = 0
    · subst h0; simp [fixL]
    · rw [if_pos (by omega), if_neg (by simpa using h0)]
  | succ m ih =>
    intro v n i k xs h hn hv hl hk
    obtain ⟨k, rfl⟩ : ∃ q, k = q + 1 := ⟨k - 1, by omega⟩
    simp only [kilnref1_Fixed.l0]
    rw [if_pos (by omega), if_pos (by omega), show (256 : Int) = ((256 : Nat) : Int) from rfl, tdiv_nat, tmod_nat, u64w (by omega) (by omega), w64 (by omega) (by omega), Int.emod_eq_of_lt (by omega) (by omega)]
    rw [show (i : Int) + 1 = ((i + 1 : Nat) : Int) by omega, ih (v / 256) n (i + 1) k _ (by omega) hn (by omega) (by simp; omega) (by omega)]
    rw [Nat.div_div_eq_div_mul, show 256 * 256 ^ m = 256 ^ (m + 1) by rw [Nat.pow_succ, Nat.mul_comm], List.append_assoc]
    rfl
theorem rFixed_ev {v : Nat} (hv : v < 18446744073709551616) (n : Int) : Ev (fun k => kilnref1_Fixed.f k (v : Int) n) (fixR v n) := by
  refine ⟨20, fun k hk => ?_⟩
  obtain ⟨k, rfl⟩ : ∃ q, k = q + 1 := ⟨k - 1, by omega⟩
  unfold kilnref1_Fixed.f fixR
  show (if n < 1 then kilnref1_Fixed.j0 (k + 1) (v : Int) n true else kilnref1_Fixed.j0 (k + 1) (v : Int) n (decide (n > 8))) = _
  by_cases h1 : n < 1
  · simp [h1, kilnref1_Fixed.j0]
  · rw [if_neg h1]
    by_cases h2 : n > 8
    · simp [h1, h2, kilnref1_Fixed.j0]
    · obtain ⟨m, rfl⟩ := Int.eq_ofNat_of_zero_le (show 0 ≤ n by omega)
      simp only [kilnref1_Fixed.j0]
      rw [if_neg (show ¬ decide ((m : Int) > 8) = true by simpa using h2), if_neg (show ¬ ((m : Int) < 1 ∨ (m : Int) > 8) by omega), Int.toNat_natCast]
      exact rFixed_l0 m v m 0 k [] (by omega) (by omega) hv (by simp; omega) (by omega)
theorem rReadF_l0 : ∀ (i : Nat) (b : List Int) (at_ n k : Nat), bytes_ b → b.length ≤ 4611686018427387904 → at_ + n ≤ b.length → i ≤ n → n ≤ 8 → i < k →
    kilnref1_ReadFixed.l0 k b (at_ : Int) (n : Int) ((leV ((b.drop (at_ + i)).take (n - i)) : Nat) : Int) ((i : Int) - 1) = some (((leV ((b.drop at_).take n) : Nat) : Int), ((at_ + n : Nat) : Int), 0) := by
  intro i
  induction i with
  | zero =>
    intro b at_ n k hb hl hat hi hn hk
    obtain ⟨k, rfl⟩ : ∃ q, k = q + 1 := ⟨k - 1, by omega⟩
    simp only [kilnref1_ReadFixed.l0]
    rw [if_neg (by omega), w64 (by omega) (by omega)]; simp
  | succ i ih =>
    intro b at_ n k hb hl hat hi hn hk
    obtain ⟨k, rfl⟩ : ∃ q, k = q + 1 := ⟨k - 1, by omega⟩
    simp only [kilnref1_ReadFixed.l0]
    obtain ⟨c, hd, hr, hc⟩ := rd_drop (show at_ + i < b.length by omega)
    have hc := hb c hc
    rw [show (((i + 1 : Nat) : Int) - 1) = (i : Int) by omega, w64 (x := (at_ : Int) + (i : Int)) (by omega) (by omega), if_pos (by omega), if_pos (by omega), if_pos (by omega), show ((at_ : Int) + (i : Int)) = ((at_ + i : Nat) : Int) by omega, hr, w64 (by omega) (by omega)]
    have hlt : leV ((b.drop (at_ + (i + 1))).take (n - (i + 1))) < 256 ^ 7 := by
      have h1 := leV_lt _ (bytes_take (bytes_drop hb (at_ + (i + 1))) (n - (i + 1)))
      have h2 : ((b.drop (at_ + (i + 1))).take (n - (i + 1))).length ≤ 7 := by simp; omega
      exact Nat.lt_of_lt_of_le h1 (Nat.pow_le_pow_right (by decide) h2)
    have hlt : leV ((b.drop (at_ + (i + 1))).take (n - (i + 1))) < 72057594037927936 := hlt
    have e : c.toNat + 256 * leV ((b.drop (at_ + (i + 1))).take (n - (i + 1))) = leV ((b.drop (at_ + i)).take (n - i)) := by
      rw [hd, show n - i = (n - (i + 1)) + 1 by omega, List.take_succ_cons]; rfl
    have e2 : IntKind.u64.wrap (IntKind.u64.wrap (256 * ((leV ((b.drop (at_ + (i + 1))).take (n - (i + 1))) : Nat) : Int)) + IntKind.u64.wrap c) = ((leV ((b.drop (at_ + i)).take (n - i)) : Nat) : Int) := by
      rw [← e]
      generalize leV ((b.drop (at_ + (i + 1))).take (n - (i + 1))) = q at *
      rw [u64w (x := 256 * (q : Int)) (by omega) (by omega), u64w (x := c) (by omega) (by omega), u64w (by omega) (by omega)]
      omega
    rw [e2]
    exact ih b at_ n k hb hl hat (by omega) hn (by omega)
theorem rReadF_ev {b : List Int} (hb : bytes_ b) (hl : b.length ≤ 4611686018427387904) (at_ n : Int) :
    Ev (fun k => kilnref1_ReadFixed.f k b at_ n) (readFR b at_ n) := by
  unfold kilnref1_ReadFixed.f readFR
  refine Ev.bind (Ev.const (outside_some b at_)) ?_
  have j0t : Ev (fun k => kilnref1_ReadFixed.j0 k b at_ n true) (0, 0, 1) := Ev.step (fun k => by simp only [kilnref1_ReadFixed.j0]; rw [if_pos trivial]) (Ev.some_ rfl)
  by_cases h : at_ < 0 ∨ at_ > (b.length : Int)
  · rw [if_pos (by omega)]; exact Ev.pos (by simpa using h) j0t
  · refine Ev.neg (by simpa using h) ?_
    by_cases h1 : n < 1
    · rw [if_pos (by omega)]; exact Ev.pos h1 j0t
    · refine Ev.neg h1 ?_
      by_cases h2 : n > 8
      · rw [if_pos (by omega), show decide (n > 8) = true from decide_eq_true h2]; exact j0t
      · rw [if_neg (by omega), show decide (n > 8) = false from decide_eq_false h2]
        refine Ev.step (fun k => by simp only [kilnref1_ReadFixed.j0]; rw [if_neg (by decide), w64 (x := (b.length : Int) - at_) (by omega) (by omega)]) ?_
        by_cases h5 : (b.length : Int) - at_ < n
        · rw [if_pos h5]; exact Ev.pos h5 (Ev.some_ rfl)
        · rw [if_neg h5]
          refine Ev.neg h5 ⟨20, fun k hk => ?_⟩
          obtain ⟨a, rfl⟩ := Int.eq_ofNat_of_zero_le (show 0 ≤ at_ by omega)
          obtain ⟨m, rfl⟩ := Int.eq_ofNat_of_zero_le (show 0 ≤ n by omega)
          have := rReadF_l0 m b a m k hb hl (by omega) (by omega) (by omega) (by omega)
          simp only [Nat.sub_self, List.take_zero, leV] at this
          rw [Int.toNat_natCast, Int.toNat_natCast, w64 (by omega) (by omega)]
          simpa using this
theorem rBytes_ev {l : List Int} (h : l.length ≤ 140737488351232) : Ev (fun k => kilnref1_Bytes.f k l) (bytesL l) := by
  unfold kilnref1_Bytes.f
  have hl := uintL_len10 (v := l.length) (by omega)
  refine Ev.bind (a := uintL l.length) ?_ (Ev.const ?_)
  · rw [u64w (by omega) (by omega)]
    exact rUint_ev (by omega) (by omega)
  · rw [if_pos (by omega)]; rfl
theorem rReadB_ev {b : List Int} (hb : bytes_ b) (hl : b.length ≤ 140737488355327) (at_ : Int) {most : Int} (hm : most ≤ 9223372036854775807) :
    Ev (fun k => kilnref1_ReadBytes.f k b at_ most) (readBR b at_ most) := by
  unfold kilnref1_ReadBytes.f readBR
  refine Ev.bind (Ev.const (outside_some b at_)) ?_
  have j0t : Ev (fun k => kilnref1_ReadBytes.j0 k b at_ most true) ([], 0, 1) := Ev.step (fun k => by simp only [kilnref1_ReadBytes.j0]; rw [if_pos trivial]) (Ev.some_ rfl)
  by_cases h : at_ < 0 ∨ at_ > (b.length : Int)
  · rw [if_pos (by omega)]; exact Ev.pos (by simpa using h) j0t
  · refine Ev.neg (by simpa using h) ?_
    by_cases h3 : most < 0
    · rw [if_pos (by omega), show decide (most < 0) = true from decide_eq_true h3]; exact j0t
    · rw [if_neg (by omega), show decide (most < 0) = false from decide_eq_false h3]
      refine Ev.step (fun k => by simp only [kilnref1_ReadBytes.j0]; rw [if_neg (by decide)]) ?_
      refine Ev.bind (rReadU_ev hb (by omega) at_) ?_
      by_cases h4 : (readUR b at_).2.2 = 0
      · obtain ⟨a, v, n, rfl, ha, han, hn, hv, e, _⟩ := readUR_ok hb h4
        rw [e]
        refine Ev.pos rfl ?_
        simp only [if_true]
        rw [u64w (x := most) (by omega) (by omega), w64 (x := (b.length : Int) - ((a + n : Nat) : Int)) (by omega) (by omega), u64w (x := (b.length : Int) - ((a + n : Nat) : Int)) (by omega) (by omega)]
        by_cases h5 : (v : Int) > most
        · refine Ev.pos h5 (Ev.some_ (if_pos h5).symm)
        · refine Ev.neg h5 ?_
          rw [if_neg h5]
          by_cases h6 : (v : Int) > (b.length : Int) - ((a + n : Nat) : Int)
          · exact Ev.pos h6 (Ev.some_ (if_pos h6).symm)
          · refine Ev.neg h6 (Ev.const ?_)
            rw [if_neg h6]
            rw [w64 (x := (v : Int)) (by omega) (by omega), w64 (x := ((a + n : Nat) : Int) + (v : Int)) (by omega) (by omega)]
            unfold kilnref1_Part.f
            rw [if_pos (by omega), if_pos (by omega), if_pos (by omega), if_pos (by simp; omega)]
            simp
      · exact Ev.neg h4 (Ev.some_ (if_neg h4).symm)
theorem xor_bits (a b : Nat) (ha : a < 4294967296) (hb : b < 4294967296) : Go.bits .xor .u32 (a : Int) (b : Int) = ((a ^^^ b : Nat) : Int) := u32_xor_nat a b ha hb
theorem rSum_l2 (p : List (List Int)) (x4 x5 : Int) : ∀ (m : Nat) (r i : Nat), i + m = 8 → r < 4294967296 → ∀ {R : Int}, Ev (fun k => kilnref1_SumAll.l1 k p ((Sn m r : Nat) : Int) x4 (wrap64 (x5 + 1))) R →
    Ev (fun k => kilnref1_SumAll.l2 k p (r : Int) x4 x5 (i : Int)) R := by
  intro m
  induction m with
  | zero =>
    intro r i h hr R hR
    exact Ev.step (fun k => by simp only [kilnref1_SumAll.l2]; rw [if_neg (by omega)]; rfl) hR
  | succ m ih =>
    intro r i h hr R hR
    have e : ∀ k, kilnref1_SumAll.l2 (k + 1) p (r : Int) x4 x5 (i : Int) = kilnref1_SumAll.l2 k p ((S r : Nat) : Int) x4 x5 ((i + 1 : Nat) : Int) := by
      intro k
      simp only [kilnref1_SumAll.l2]
      rw [if_pos (by omega), w64 (by omega) (by omega), show (2 : Int) = ((2 : Nat) : Int) from rfl, tmod_nat, tdiv_nat, Int.emod_eq_of_lt (by omega) (by omega)]
      rw [show (3988292384 : Int) = ((3988292384 : Nat) : Int) from rfl, xor_bits _ _ (by omega) (by decide)]
      unfold S
      by_cases h1 : r % 2 = 1
      · rw [if_pos (by omega), if_pos h1]; rfl
      · rw [if_neg (by omega), if_neg h1]; rfl
    exact Ev.step e (ih (S r) (i + 1) (by omega) (S_lt hr) hR)
theorem rSum_l1 (p : List (List Int)) (x4 : Nat) (h4 : x4 < p.length) (hl : (rd_L1 p (x4 : Int)).length ≤ 4611686018427387904) (hb : bytes_ (rd_L1 p (x4 : Int))) : ∀ (m : Nat) (r i : Nat), i + m = (rd_L1 p (x4 : Int)).length → r < 4294967296 → ∀ {R : Int}, Ev (fun k => kilnref1_SumAll.l0 k p ((sumB r ((rd_L1 p (x4 : Int)).drop i) : Nat) : Int) (wrap64 ((x4 : Int) + 1))) R →
    Ev (fun k => kilnref1_SumAll.l1 k p (r : Int) (x4 : Int) (i : Int)) R := by
  intro m
  induction m with
  | zero =>
    intro r i h hr R hR
    refine Ev.step (fun k => by simp only [kilnref1_SumAll.l1]; rw [if_pos (by omega), if_pos (by omega), if_neg (by omega)]) ?_
    rw [show i = (rd_L1 p (x4 : Int)).length by omega, List.drop_length] at hR
    exact hR
  | succ m ih =>
    intro r i h hr R hR
    refine Ev.step (fun k => by simp only [kilnref1_SumAll.l1]; rw [if_pos (by omega), if_pos (by omega), if_pos (by omega), if_pos (by omega)]) ?_
    obtain ⟨c, hd, hrd, hc⟩ := rd_drop (show i < (rd_L1 p (x4 : Int)).length by omega)
    have hc := hb c hc
    rw [hrd, show c % 4294967296 = (((c % 4294967296).toNat : Nat) : Int) by omega, xor_bits _ _ hr (by omega)]
    rw [show (0 : Int) = ((0 : Nat) : Int) from rfl]
    refine rSum_l2 p (x4 : Int) (i : Int) 8 _ 0 rfl (xor_lt32 hr (by omega)) ?_
    rw [w64 (by omega) (by omega), show (i : Int) + 1 = ((i + 1 : Nat) : Int) by omega, ← bstep_S]
    refine ih (bstep r c) (i + 1) (by omega) (bstep_lt hr c) ?_
    rw [hd] at hR
    exact hR
theorem rSum_l0 (p : List (List Int)) (hp : p.length ≤ 4611686018427387904) (hl : ∀ b ∈ p, b.length ≤ 4611686018427387904 ∧ bytes_ b) : ∀ (m r i : Nat), i + m = p.length → r < 4294967296 →
    Ev (fun k => kilnref1_SumAll.l0 k p (r : Int) (i : Int)) ((sumP r (p.drop i) ^^^ 4294967295 : Nat) : Int) := by
  intro m
  induction m with
  | zero =>
    intro r i h hr
    refine Ev.step (fun k => by simp only [kilnref1_SumAll.l0]; rw [if_neg (by omega)]) (Ev.some_ ?_)
    rw [show i = p.length by omega, List.drop_length]
    exact xor_bits r 4294967295 hr (by decide)
  | succ m ih =>
    intro r i h hr
    refine Ev.step (fun k => by simp only [kilnref1_SumAll.l0]; rw [if_pos (by omega)]) ?_
    have hi : i < p.length := by omega
    have hrow : rd_L1 p (i : Int) = p[i] := by
      unfold rd_L1
      rw [Int.toNat_natCast, List.getD_eq_getElem?_getD, List.getElem?_eq_getElem hi]; rfl
    have hm := hl _ (List.getElem_mem hi)
    rw [show (0 : Int) = ((0 : Nat) : Int) from rfl]
    refine rSum_l1 p i hi (by rw [hrow]; exact hm.1) (by rw [hrow]; exact hm.2) _ r 0 (Nat.zero_add _) hr ?_
    rw [List.drop_zero, hrow, w64 (by omega) (by omega), show (i : Int) + 1 = ((i + 1 : Nat) : Int) by omega, List.drop_eq_getElem_cons hi]
    exact ih (sumB r p[i]) (i + 1) (by omega) (sumB_lt _ hr)
theorem rSum_ev (p : List (List Int)) (hp : p.length ≤ 4611686018427387904) (hl : ∀ b ∈ p, b.length ≤ 4611686018427387904 ∧ bytes_ b) :
    Ev (fun k => kilnref1_SumAll.f k p) ((sumP 4294967295 p ^^^ 4294967295 : Nat) : Int) := by
  have := rSum_l0 p hp hl p.length 4294967295 0 (Nat.zero_add _) (by decide)
  rw [List.drop_zero] at this
  exact this
theorem sum_some (p : List (List Int)) (hp : p.length ≤ 4611686018427387904) (hl : ∀ b ∈ p, b.length ≤ 4611686018427387904 ∧ bytes_ b) :
    wire_Sum.f p = some ((sumP 4294967295 p ^^^ 4294967295 : Nat) : Int) := by
  rw [wire_Sum.f, if_pos]
  unfold fits
  rw [Bool.and_eq_true, List.all_eq_true, decide_eq_true_iff]
  exact ⟨by omega, fun b hb => by have := (hl b hb).1; exact decide_eq_true (by omega)⟩
end Go.Proofs.YthmnomdjpbfefaaDoor.A
namespace Go.Proofs.YthmnomdjpbfefaaDoor.A
open Go.RowKit Go.Proofs.YthmnomdjpbfefaaDoorW.PrintWords Go.Proofs.YthmnomdjpbfefaaDoorW.PrintLast Go.Proofs.YthmnomdjpbfefaaDoorW.PrintMore Go.Proofs.YthmnomdjpbfefaaDoor.P Go.Proofs.YthmnomdjpbfefaaDoor.M Go.Proofs.YthmnomdjpbfefaaDoor.Crc
set_option linter.unusedVariables false
set_option linter.unusedSimpArgs false
theorem both_ev : Ev (fun k => kilnlaw1_both.f k) true := Ev.of kilnlaw1_both.mono (k := 40) (by decide +kernel)
theorem bytes_fixR (v : Nat) (n : Int) : bytes_ (fixR v n).1 := by
  unfold fixR
  split
  · exact bytes_nil
  · split
    · exact bytes_fix _ _
    · exact bytes_nil
theorem bytes_readBR {b : List Int} (hb : bytes_ b) (at_ most : Int) : bytes_ (readBR b at_ most).1 := by
  unfold readBR
  repeat' split
  all_goals first | exact bytes_nil | exact bytes_drop (bytes_take hb _) _
theorem same_self {l : List Int} (h : bytes_ l) : kilnlaw1_same.f l l = some true := by
  rw [same_some h h]; simp
theorem Ev.num {x : Int} : Ev (fun _ : Nat => (kilnlaw1_num.f x).bind fun t => some (t == x)) true := Ev.bind (Ev.const (num_some x)) (Ev.some_ (by simp))
theorem numbers_ev (kind at_ n : Int) {v : Int} {b : List Int} (ps : List (List Int)) (hb : bytes_ b) (hl : b.length ≤ 1048576) (hv0 : 0 ≤ v) (hv : v < 18446744073709551616) :
    Ev (fun k => kilnlaw1_numbers.f k kind b at_ n v ps) true := by
  obtain ⟨v, rfl⟩ := Int.eq_ofNat_of_zero_le hv0
  unfold kilnlaw1_numbers.f
  by_cases h1 : kind = 1
  · refine Ev.pos h1 (Ev.bind (uint_ev hv0 hv) (Ev.bind (rUint_ev hv0 hv) (Ev.bind (Ev.const (same_self (bytes_uint _))) (Ev.some_ rfl))))
  · refine Ev.neg h1 ?_
    by_cases h2 : kind = 2
    · exact Ev.pos h2 (Ev.bind (readU_ev hb (by omega) at_) (Ev.bind (rReadU_ev hb (by omega) at_) (Ev.pos rfl (Ev.pos rfl Ev.num))))
    · refine Ev.neg h2 ?_
      by_cases h3 : kind = 3
      · exact Ev.pos h3 (Ev.bind (fixed_ev (by omega) n) (Ev.bind (rFixed_ev (by omega) n) (Ev.bind (Ev.const (same_self (bytes_fixR _ _))) (Ev.pos rfl Ev.num))))
      · exact Ev.neg h3 (Ev.bind (readF_ev hb (by omega) at_ n) (Ev.bind (rReadF_ev hb (by omega) at_ n) (Ev.pos rfl (Ev.pos rfl Ev.num))))
theorem strings_ev (kind at_ : Int) {n : Int} (v : Int) {b : List Int} {ps : List (List Int)} (hb : bytes_ b) (hl : b.length ≤ 1048576) (hn : n ≤ 9223372036854775807) (hp : ps.length ≤ 1048576) (hps : ∀ x ∈ ps, bytes_ x ∧ x.length ≤ 1048576) :
    Ev (fun k => kilnlaw1_strings.f k kind b at_ n v ps) true := by
  unfold kilnlaw1_strings.f
  by_cases h1 : kind = 5
  · refine Ev.pos h1 (Ev.bind (bytes_ev (by omega)) (Ev.bind (rBytes_ev (by omega)) (Ev.bind (Ev.const (same_self (bytesL_ok hb))) (Ev.some_ rfl))))
  · refine Ev.neg h1 ?_
    by_cases h2 : kind = 6
    · exact Ev.pos h2 (Ev.bind (readB_ev hb (by omega) at_ hn) (Ev.bind (rReadB_ev hb (by omega) at_ hn) (Ev.bind (Ev.const (same_self (bytes_readBR hb _ _))) (Ev.pos rfl (Ev.pos rfl Ev.num)))))
    · have hq : ∀ x ∈ ps, x.length ≤ 4611686018427387904 ∧ bytes_ x := fun x hx => ⟨by have := (hps x hx).2; omega, (hps x hx).1⟩
      exact Ev.neg h2 (Ev.bind (Ev.const (sum_some ps (by omega) hq)) (Ev.bind (rSum_ev ps (by omega) hq) (Ev.some_ (by simp))))
structure OpOk (o : Q.S66) : Prop where
  b1 : bytes_ o.f1
  n1 : o.f1.length ≤ 1048576
  n : o.f3 ≤ 9223372036854775807
  v0 : 0 ≤ o.f4
  v1 : o.f4 < 18446744073709551616
  n5 : o.f5.length ≤ 1048576
  b5 : ∀ x ∈ o.f5, bytes_ x ∧ x.length ≤ 1048576
theorem answered_ev {o : Q.S66} (h : OpOk o) : Ev (fun k => kilnlaw1_answered.f k o.f0 o.f1 o.f2 o.f3 o.f4 o.f5) true := by
  unfold kilnlaw1_answered.f
  have nums : Ev (fun k => kilnlaw1_answered.j0 k o.f0 true o.f0 o.f1 o.f2 o.f3 o.f4 o.f5) true :=
    Ev.step (fun k => by simp only [kilnlaw1_answered.j0]; rw [if_pos trivial]) (Ev.bind (numbers_ev _ _ _ _ h.b1 h.n1 h.v0 h.v1) (Ev.some_ rfl))
  have strs : Ev (fun k => (kilnlaw1_strings.f k o.f0 o.f1 o.f2 o.f3 o.f4 o.f5).bind fun t => some t) true :=
    Ev.bind (strings_ev _ _ _ h.b1 h.n1 h.n h.n5 h.b5) (Ev.some_ rfl)
  by_cases h1 : o.f0 = 1
  · refine Ev.pos h1 ?_
    rw [show (o.f0 == 1) = true by simpa using h1]; exact nums
  · refine Ev.neg h1 ?_
    by_cases h2 : o.f0 = 2
    · refine Ev.pos h2 ?_
      rw [show (o.f0 == 2) = true by simpa using h2]; exact nums
    · refine Ev.neg h2 ?_
      by_cases h3 : o.f0 = 3
      · refine Ev.pos h3 ?_
        rw [show (o.f0 == 3) = true by simpa using h3]; exact nums
      · refine Ev.neg h3 ?_
        by_cases h4 : o.f0 = 4
        · rw [show (o.f0 == 4) = true by simpa using h4]; exact nums
        · rw [show (o.f0 == 4) = false by simpa using h4]
          refine Ev.step (fun k => by simp only [kilnlaw1_answered.j0]; rw [if_neg (by decide)]) ?_
          by_cases h5 : o.f0 = 5
          · exact Ev.pos h5 strs
          · refine Ev.neg h5 ?_
            by_cases h6 : o.f0 = 6
            · exact Ev.pos h6 strs
            · refine Ev.neg h6 ?_
              by_cases h7 : o.f0 = 7
              · exact Ev.pos h7 strs
              · exact Ev.neg h7 (Ev.some_ rfl)
def roomyL (l : List Int) : List Int := l ++ [201, 202, 203, 204, 205]
theorem roomy_some {l : List Int} (h : l.length ≤ 1048576) : Q.kilnlaw1_roomy.f l = some (roomyL l) := by
  unfold Q.kilnlaw1_roomy.f
  rw [if_pos (by simp; omega)]
  simp only [Option.bind_some, List.nil_append]
  rw [if_pos (by simp; omega)]; rfl
theorem bytes_roomy {l : List Int} (h : bytes_ l) : bytes_ (roomyL l) := bytes_append h (by unfold bytes_; decide)
theorem rd_in {ps : List (List Int)} {i : Nat} (h : i < ps.length) : Q.rd_L1 ps (i : Int) = ps[i] := by
  unfold Q.rd_L1
  rw [Int.toNat_natCast, List.getD_eq_getElem?_getD, List.getElem?_eq_getElem h]; rfl
theorem plays_l1 {o : Q.S66} (h : OpOk o) : ∀ (m i : Nat), i + m = o.f5.length →
    Ev (fun k => Q.kilnlaw1_plays.l1 k (roomyL o.f1) (o.f5 ++ [[207]]) (o.f5.map roomyL) true (i : Int) o.f0 o.f1 o.f2 o.f3 o.f4 o.f5) true := by
  intro m
  have hn := h.n5
  have hb207 : bytes_ [207] := by unfold bytes_; decide
  induction m with
  | zero =>
    intro i hi
    refine Ev.step (fun k => by simp only [Q.kilnlaw1_plays.l1]; rw [if_neg (by omega), if_pos trivial]) ?_
    refine Ev.bind (Ev.const (roomy_some h.n1)) (Ev.bind (Ev.const (same_self (bytes_roomy h.b1))) (Ev.pos rfl (Ev.pos (by omega) (Ev.pos (by rw [List.length_append, List.length_singleton]; omega) ?_))))
    refine Ev.bind (a := true) (Ev.const ?_) (Ev.some_ rfl)
    rw [rd_in (by simp), List.getElem_append_right (by omega)]
    simpa using same_self hb207
  | succ m ih =>
    intro i hi
    refine Ev.step (fun k => by simp only [Q.kilnlaw1_plays.l1]; rw [if_pos (by omega), if_pos trivial, if_pos (by omega), if_pos (by simp; omega)]) ?_
    have hx := h.b5 _ (List.getElem_mem (show i < o.f5.length by omega))
    rw [rd_in (show i < o.f5.length by omega), rd_in (show i < (o.f5.map roomyL).length by simp; omega), List.getElem_map, rd_in (show i < (o.f5 ++ [[207]]).length by simp; omega), List.getElem_append_left (show i < o.f5.length by omega)]
    refine Ev.bind (Ev.const (roomy_some hx.2)) (Ev.bind (Ev.const (same_self (bytes_roomy hx.1))) (Ev.pos rfl (Ev.pos (by simp; omega) (Ev.bind (Ev.const (same_self hx.1)) ?_))))
    rw [w64 (by omega) (by omega)]
    exact ih (i + 1) (by omega)
theorem plays_l0 {o : Q.S66} (h : OpOk o) : ∀ (m i : Nat), i + m = o.f5.length →
    Ev (fun k => Q.kilnlaw1_plays.l0 k (roomyL o.f1) (o.f5.take i) ((o.f5.take i).map roomyL) (i : Int) o.f0 o.f1 o.f2 o.f3 o.f4 o.f5) true := by
  intro m
  have hn := h.n5
  have hn1 := h.n1
  induction m with
  | zero =>
    intro i hi
    refine Ev.step (fun k => by simp only [Q.kilnlaw1_plays.l0]; rw [if_neg (by omega)]) ?_
    rw [List.take_of_length_le (show o.f5.length ≤ i by omega)]
    refine Ev.pos (by omega) (Ev.bind (Ev.now _) (Ev.pos (by omega) (Ev.pos (by simp [roomyL]; omega) (Ev.pos (by omega) (Ev.pos (by simp; omega) ?_)))))
    have e1 : (roomyL o.f1).take ((o.f1.length : Int)).toNat = o.f1 := by unfold roomyL; simp
    have e2 : (o.f5 ++ [[207]]).take ((o.f5.length : Int)).toNat = o.f5 := by simp
    rw [e1, e2]
    exact Ev.bind (answered_ev h) (plays_l1 h o.f5.length 0 (Nat.zero_add _))
  | succ m ih =>
    intro i hi
    refine Ev.step (fun k => by simp only [Q.kilnlaw1_plays.l0]; rw [if_pos (by omega), if_pos (by omega)]) ?_
    have hx := h.b5 _ (List.getElem_mem (show i < o.f5.length by omega))
    rw [rd_in (show i < o.f5.length by omega)]
    refine Ev.bind (Ev.const (roomy_some hx.2)) (Ev.pos (by simp; omega) (Ev.pos (by omega) (Ev.pos (by simp [roomyL]; omega) (Ev.pos (by simp; omega) ?_))))
    rw [w64 (by omega) (by omega)]
    have e1 : (roomyL o.f5[i]).take ((o.f5[i].length : Int)).toNat = o.f5[i] := by unfold roomyL; simp
    rw [e1]
    have := ih (i + 1) (by omega)
    rw [List.take_succ_eq_append_getElem (show i < o.f5.length by omega), List.map_append] at this
    exact this
theorem plays_ev {o : Q.S66} (h : OpOk o) : Ev (fun k => Q.kilnlaw1_plays.f k o.f0 o.f1 o.f2 o.f3 o.f4 o.f5) true := by
  unfold Q.kilnlaw1_plays.f
  exact Ev.bind (Ev.const (roomy_some h.n1)) (plays_l0 h o.f5.length 0 (Nat.zero_add _))
theorem upTo_l0 (l : List Q.S66) (hl : l.length ≤ 1048576) (h : ∀ o ∈ l, OpOk o) (lo up : Int) : ∀ (m i : Nat), i + m = l.length →
    Ev (fun k => Q.kilnlaw1_upTo.l0 k l lo up (i : Int)) true := by
  intro m
  induction m with
  | zero =>
    intro i hi_
    exact Ev.step (fun k => by simp only [Q.kilnlaw1_upTo.l0]; rw [if_neg (by omega)]) (Ev.some_ rfl)
  | succ m ih =>
    intro i hi_
    have hi : i < l.length := by omega
    have next : Ev (fun k => Q.kilnlaw1_upTo.l0 k l lo up (wrap64 ((i : Int) + 1))) true := by
      rw [w64 (by omega) (by omega)]; exact ih (i + 1) (by omega)
    have j1 : ∀ y, Ev (fun k => Q.kilnlaw1_upTo.j1 k l lo up (i : Int) y) true := by
      intro y
      refine Ev.step (fun k => by simp only [Q.kilnlaw1_upTo.j1]; rfl) ?_
      cases y with
      | false => exact Ev.neg (by decide) next
      | true =>
        refine Ev.pos rfl (Ev.pos (by omega) (Ev.pos (by omega) ?_))
        have e : Q.rd_T66 l (i : Int) = l[i] := by
          unfold Q.rd_T66
          rw [Int.toNat_natCast, List.getD_eq_getElem?_getD, List.getElem?_eq_getElem hi]; rfl
        rw [e]
        exact Ev.bind (plays_ev (h _ (List.getElem_mem hi))) (Ev.pos rfl next)
    refine Ev.step (fun k => by simp only [Q.kilnlaw1_upTo.l0]; rw [if_pos (by omega), if_pos (by omega)]) ?_
    by_cases hc : (Q.rd_T66 l (i : Int)).f0 ≥ lo
    · exact Ev.pos hc (j1 _)
    · exact Ev.neg hc (j1 _)
theorem upTo_ev (l : List Q.S66) (hl : l.length ≤ 1048576) (h : ∀ o ∈ l, OpOk o) (lo hi : Int) : Ev (fun k => Q.kilnlaw1_upTo.f k l lo hi) true := by
  unfold Q.kilnlaw1_upTo.f
  exact upTo_l0 l hl h lo hi l.length 0 (Nat.zero_add _)
theorem numbers (l : List Q.S66) (hl : l.length ≤ 1048576) (h : ∀ o ∈ l, OpOk o) : ∃ k, Q.kilnlaw1_WireNumbers.f k l = some true := by
  apply Ev.rounds
  unfold Q.kilnlaw1_WireNumbers.f
  exact Ev.bind started_ev (Ev.pos rfl (Ev.bind both_ev (Ev.pos rfl (Ev.bind (upTo_ev l hl h 1 4) (Ev.some_ rfl)))))
theorem strings (l : List Q.S66) (hl : l.length ≤ 1048576) (h : ∀ o ∈ l, OpOk o) : ∃ k, Q.kilnlaw1_WireStrings.f k l = some true := by
  apply Ev.rounds
  unfold Q.kilnlaw1_WireStrings.f
  exact Ev.bind started_ev (Ev.pos rfl (Ev.bind both_ev (Ev.pos rfl (Ev.bind (upTo_ev l hl h 5 7) (Ev.some_ rfl)))))
theorem plays (l : List Q.S66) (hl : l.length ≤ 1048576) (h : ∀ o ∈ l, OpOk o) : ∃ k, Q.kilnlaw1_WirePlays.f k l = some true := by
  apply Ev.rounds
  unfold Q.kilnlaw1_WirePlays.f
  exact Ev.bind started_ev (Ev.pos rfl (Ev.bind (upTo_ev l hl h 1 7) (Ev.some_ rfl)))
end Go.Proofs.YthmnomdjpbfefaaDoor.A
namespace Go.Proofs.YthmnomdjpbfefaaDoor.Bulk
open Go.ChangeShapes Go.WideShapes Go.Proofs.YthmnomdjpbfefaaDoorW.PrintWords
set_option linter.unusedVariables false
section
variable {H : Type} (enc : TypeId × Value → H) (P : Program) (W : World) (base : Nat) (spare : Nat → Bool) (held : Bool)
def Opens {α : Type} (t : TypeId) (d : Kd α) (Ok : α → Nat → Prop) : Prop :=
  ∀ (fuel : Nat) (cs : List Value) (x : DataW H × List MemPlace), DataW.trod enc P W base spare held fuel t cs = some x → ∃ y, d.K W y cs ∧ Ok y (Rows.uptoBulk x.1)
variable {enc P W base spare held}
theorem opens_int {t : TypeId} {k : IntKind} (ht : P.underlying t = some (.int k)) : Opens enc P W base spare held t (Kd.int k) (fun y _ => (Lit.int k y).wf = true) := by
  intro fuel cs x h
  obtain ⟨n, rfl, rfl, hw⟩ := DataW.trod_int ht h
  exact ⟨n, rfl, hw⟩
theorem cells_of {a : Addr} {n : Nat} {cs : List Value} (h : W.cells? base a n = some cs) : cs.length = n ∧ ∀ i u, cs[i]? = some u → W.cell? (a.add i) = some u := by
  obtain ⟨_, hl, hc⟩ := World.cells?_some h
  refine ⟨hl, fun i u hu => ?_⟩
  have hi : i < cs.length := (List.getElem?_eq_some_iff.1 hu).1
  rw [hc i (by omega), hu]
theorem opens_slice {α : Type} {t e q : TypeId} {d : Kd α} {Ok : α → Nat → Prop} (ht : P.underlying t = some (.slice e)) (hc : P.cellsOf e = d.sz)
    (hm : ∀ y m n, m ≤ n → Ok y m → Ok y n) (he : Opens enc P W base spare held e d Ok) :
    Opens enc P W base spare held t (Kd.slice q d) (fun ys n => ys.length ≤ n ∧ ∀ y ∈ ys, Ok y n) := by
  intro fuel cs x h
  rcases DataW.trod_slice ht h with ⟨rfl, rfl⟩ | ⟨a, len, cap, elems, rest, n, _, rfl, rfl, hb, hl, hmax, hlen, hel, _, _⟩
  · refine ⟨[], ⟨none, 0, rfl, Nat.le_refl _, rfl, Nat.zero_le _, fun h => absurd h (Nat.lt_irrefl _)⟩, by simp, fun y hy => by cases hy⟩
  · have each : ∀ i (hi : i < elems.length), ∃ y, (∃ c, c.length = d.sz ∧ d.K W y c ∧ ∀ j u, c[j]? = some u → W.cell? (a.add (i * d.sz + j)) = some u) ∧ Ok y (Rows.uptoBulk (elems[i]).1) := by
      intro i hi
      have h1 := hel i (by omega)
      rw [List.getElem?_eq_getElem hi, Option.bind_eq_some_iff] at h1
      obtain ⟨c, h2, h3⟩ := h1
      obtain ⟨y, hk, hok⟩ := he _ _ _ h3
      obtain ⟨hcl, hcell⟩ := cells_of h2
      rw [hc] at hcl hcell
      refine ⟨y, ⟨c, hcl, hk, fun j u hu => ?_⟩, hok⟩
      have := hcell j u hu
      rwa [Addr.add_add] at this
    have all : ∀ m, m ≤ elems.length → ∃ ys : List α, ys.length = m ∧ ∀ i y, ys[i]? = some y → (∃ c, c.length = d.sz ∧ d.K W y c ∧ ∀ j u, c[j]? = some u → W.cell? (a.add (i * d.sz + j)) = some u) ∧ ∃ hi : i < elems.length, Ok y (Rows.uptoBulk (elems[i]).1) := by
      intro m
      induction m with
      | zero => intro _; exact ⟨[], rfl, fun i y hy => by simp at hy⟩
      | succ m ih =>
        intro hm1
        obtain ⟨ys, hys, hall⟩ := ih (by omega)
        obtain ⟨y, hy, hoky⟩ := each m (by omega)
        refine ⟨ys ++ [y], by simp [hys], fun i z hz => ?_⟩
        by_cases hi : i < m
        · rw [List.getElem?_append_left (by omega)] at hz
          exact hall i z hz
        · have hi2 : i < (ys ++ [y]).length := (List.getElem?_eq_some_iff.1 hz).1
          simp [hys] at hi2
          obtain rfl : i = m := by omega
          rw [List.getElem?_append_right (by omega), hys] at hz
          simp at hz
          subst hz
          exact ⟨hy, by omega, hoky⟩
    obtain ⟨ys, hys, hall⟩ := all elems.length (Nat.le_refl _)
    have hbulk : Rows.uptoBulkAll (elems.map (·.1)) ≤ Rows.uptoBulk (DataW.slice (elems.map (·.1)) (rest.map (·.1))) := by simp only [Rows.uptoBulk]; omega
    refine ⟨ys, ⟨some a, cap, by rw [hys, hlen], by omega, rfl, ?_, fun _ => ⟨a, rfl, fun j p hp => (hall j p hp).1⟩⟩, ?_, fun y hy => ?_⟩
    · rw [hys, hlen]
      have : (maxLen : Nat) ≤ 9223372036854775807 := by decide
      omega
    · have := length_le (elems.map (·.1))
      rw [List.length_map] at this
      rw [hys]
      exact Nat.le_trans this hbulk
    · obtain ⟨i, hi⟩ := List.getElem?_of_mem hy
      obtain ⟨_, hlt, hok⟩ := hall i y hi
      refine hm y _ _ ?_ hok
      exact Nat.le_trans (part_le (List.mem_map.2 ⟨elems[i], List.getElem_mem hlt, rfl⟩)) hbulk
theorem arg_slice {α : Type} {t q : TypeId} {d : Kd α} {Ok : List α → Nat → Prop} {a : Option Addr} {len cap : Nat} {dd : DataW H} {ps : List MemPlace} {ds : List (DataW H)}
    (hs : Opens enc P W base spare held t (Kd.slice q d) Ok) (hm : ∀ y m n, m ≤ n → Ok y m → Ok y n) (hk : Rows.uptoSmall H ds = true) (hd : dd ∈ ds)
    (h : DataW.Trod enc P W base spare held t (.slice a len cap) dd ps) : ∃ l, len = l.length ∧ l.length ≤ cap ∧ Kd.C d W a l.length l ∧ Ok l 1048576 := by
  obtain ⟨fuel, hf⟩ := h
  obtain ⟨l, ⟨A, c, he, hl, hC⟩, hok⟩ := hs _ _ _ hf
  simp [Value.cells] at he
  obtain ⟨rfl, rfl, rfl⟩ := he
  exact ⟨l, rfl, hl, hC, hm l _ _ (Nat.le_trans (part_le hd) (bound hk)) hok⟩
end
end Go.Proofs.YthmnomdjpbfefaaDoor.Bulk
namespace Go.Proofs.YthmnomdjpbfefaaDoor.Bulk
open Go.ChangeShapes Go.WideShapes Go.Proofs.YthmnomdjpbfefaaDoorW.PrintWords Go.Proofs.YthmnomdjpbfefaaDoor.A
set_option linter.unusedVariables false
section
variable {H : Type} {enc : TypeId × Value → H} {W : World} {base : Nat} {spare : Nat → Bool} {held : Bool}
def Ok66 (o : Q.S66) (n : Nat) : Prop :=
  (Lit.int .i64 o.f0).wf = true ∧ (o.f1.length ≤ n ∧ ∀ y ∈ o.f1, (Lit.int .u8 y).wf = true) ∧ (Lit.int .i64 o.f2).wf = true ∧ (Lit.int .i64 o.f3).wf = true ∧ (Lit.int .u64 o.f4).wf = true ∧
  (o.f5.length ≤ n ∧ ∀ b ∈ o.f5, b.length ≤ n ∧ ∀ y ∈ b, (Lit.int .u8 y).wf = true)
theorem Ok66.mono : ∀ (o : Q.S66) (m n : Nat), m ≤ n → Ok66 o m → Ok66 o n := by
  rintro o m n h ⟨h0, ⟨h1, h1'⟩, h2, h3, h4, ⟨h5, h5'⟩⟩
  exact ⟨h0, ⟨by omega, h1'⟩, h2, h3, h4, ⟨by omega, fun b hb => ⟨by have := (h5' b hb).1; omega, (h5' b hb).2⟩⟩⟩
theorem opens_i64 : Opens enc Tryd.prog W base spare held 3 (Kd.int .i64) (fun y _ => (Lit.int .i64 y).wf = true) := opens_int Tryd.underlying3
theorem opens_u64 : Opens enc Tryd.prog W base spare held 32 (Kd.int .u64) (fun y _ => (Lit.int .u64 y).wf = true) := opens_int Tryd.underlying32
theorem opens_23 : Opens enc Tryd.prog W base spare held 23 (Kd.slice 5 (Kd.int .u8)) (fun ys n => ys.length ≤ n ∧ ∀ y ∈ ys, (Lit.int .u8 y).wf = true) :=
  opens_slice Tryd.underlying23 (by kernel_rfl) (fun _ _ _ _ h => h) (opens_int Tryd.underlying5)
theorem opens_22 : Opens enc Tryd.prog W base spare held 22 (Kd.slice 23 (Kd.slice 5 (Kd.int .u8))) (fun ys n => ys.length ≤ n ∧ ∀ b ∈ ys, b.length ≤ n ∧ ∀ y ∈ b, (Lit.int .u8 y).wf = true) :=
  opens_slice Tryd.underlying22 (by kernel_rfl) (fun _ _ _ h h1 => ⟨Nat.le_trans h1.1 h, h1.2⟩) opens_23
theorem opens_66 : Opens enc Tryd.prog W base spare held 66 Q.k66 Ok66 := by
  intro fuel cs x h
  obtain ⟨xs, n, _, rfl, hl, hx, hf⟩ := DataW.trod_struct Tryd.underlying66 h
  rw [show Tryd.prog.cellsOf 66 = 6 by kernel_rfl] at hl
  obtain ⟨c0, c1, c2, c3, c4, c5, rfl⟩ : ∃ c0 c1 c2 c3 c4 c5, cs = [c0, c1, c2, c3, c4, c5] := by
    match cs, hl with
    | [c0, c1, c2, c3, c4, c5], _ => exact ⟨c0, c1, c2, c3, c4, c5, rfl⟩
  obtain ⟨x0, x1, x2, x3, x4, x5, rfl⟩ : ∃ x0 x1 x2 x3 x4 x5, xs = [x0, x1, x2, x3, x4, x5] := by
    match xs, hx with
    | [x0, x1, x2, x3, x4, x5], _ => exact ⟨x0, x1, x2, x3, x4, x5, rfl⟩
  have q3 : Tryd.prog.cellsOf 3 = 1 := by kernel_rfl
  have q23 : Tryd.prog.cellsOf 23 = 1 := by kernel_rfl
  have q32 : Tryd.prog.cellsOf 32 = 1 := by kernel_rfl
  have q22 : Tryd.prog.cellsOf 22 = 1 := by kernel_rfl
  have f0 : DataW.trod enc Tryd.prog W base spare held n 3 (([c0, c1, c2, c3, c4, c5].drop 0).take (Tryd.prog.cellsOf 3)) = some x0 := hf 0 _ rfl
  rw [q3] at f0
  have f1 : DataW.trod enc Tryd.prog W base spare held n 23 (([c0, c1, c2, c3, c4, c5].drop 1).take (Tryd.prog.cellsOf 23)) = some x1 := hf 1 _ rfl
  rw [q23] at f1
  have f2 : DataW.trod enc Tryd.prog W base spare held n 3 (([c0, c1, c2, c3, c4, c5].drop 2).take (Tryd.prog.cellsOf 3)) = some x2 := hf 2 _ rfl
  rw [q3] at f2
  have f3 : DataW.trod enc Tryd.prog W base spare held n 3 (([c0, c1, c2, c3, c4, c5].drop 3).take (Tryd.prog.cellsOf 3)) = some x3 := hf 3 _ rfl
  rw [q3] at f3
  have f4 : DataW.trod enc Tryd.prog W base spare held n 32 (([c0, c1, c2, c3, c4, c5].drop 4).take (Tryd.prog.cellsOf 32)) = some x4 := hf 4 _ rfl
  rw [q32] at f4
  have f5 : DataW.trod enc Tryd.prog W base spare held n 22 (([c0, c1, c2, c3, c4, c5].drop 5).take (Tryd.prog.cellsOf 22)) = some x5 := hf 5 _ rfl
  rw [q22] at f5
  obtain ⟨y0, k0, o0⟩ := opens_i64 _ _ _ f0
  obtain ⟨y1, k1, o1⟩ := opens_23 _ _ _ f1
  obtain ⟨y2, k2, o2⟩ := opens_i64 _ _ _ f2
  obtain ⟨y3, k3, o3⟩ := opens_i64 _ _ _ f3
  obtain ⟨y4, k4, o4⟩ := opens_u64 _ _ _ f4
  obtain ⟨y5, k5, o5⟩ := opens_22 _ _ _ f5
  obtain ⟨A1, r1, k1, l1, g1⟩ := k1
  obtain ⟨A5, r5, k5, l5, g5⟩ := k5
  obtain rfl : c0 = .int .i64 y0 := by simpa using (show [c0] = [.int .i64 y0] from k0)
  obtain rfl : c1 = .slice A1 y1.length r1 := by simpa using (show [c1] = _ from k1)
  obtain rfl : c2 = .int .i64 y2 := by simpa using (show [c2] = [.int .i64 y2] from k2)
  obtain rfl : c3 = .int .i64 y3 := by simpa using (show [c3] = [.int .i64 y3] from k3)
  obtain rfl : c4 = .int .u64 y4 := by simpa using (show [c4] = [.int .u64 y4] from k4)
  obtain rfl : c5 = .slice A5 y5.length r5 := by simpa using (show [c5] = _ from k5)
  refine ⟨⟨y0, y1, y2, y3, y4, y5⟩, Q.k66_mk W _ l1 g1 l5 g5, ?_⟩
  have b1 : Rows.uptoBulk x1.1 ≤ Rows.uptoBulk (DataW.agg ([x0, x1, x2, x3, x4, x5].map (·.1))) := by
    have := part_le (d := x1.1) (l := [x0, x1, x2, x3, x4, x5].map (·.1)) (by simp)
    simp only [Rows.uptoBulk]; omega
  have b5 : Rows.uptoBulk x5.1 ≤ Rows.uptoBulk (DataW.agg ([x0, x1, x2, x3, x4, x5].map (·.1))) := by
    have := part_le (d := x5.1) (l := [x0, x1, x2, x3, x4, x5].map (·.1)) (by simp)
    simp only [Rows.uptoBulk]; omega
  exact ⟨o0, ⟨Nat.le_trans o1.1 b1, o1.2⟩, o2, o3, o4, ⟨Nat.le_trans o5.1 b5, fun b hb => ⟨Nat.le_trans (o5.2 b hb).1 b5, (o5.2 b hb).2⟩⟩⟩
theorem opens_37 : Opens enc Tryd.prog W base spare held 37 (Kd.slice 66 Q.k66) (fun ys n => ys.length ≤ n ∧ ∀ o ∈ ys, Ok66 o n) :=
  opens_slice Tryd.underlying37 (by kernel_rfl) Ok66.mono opens_66
theorem ok_op {o : Q.S66} (h : Ok66 o 1048576) : OpOk o :=
  ⟨bytes_wf h.2.1.2, h.2.1.1, (i64_wf h.2.2.2.1).2, (u64_wf h.2.2.2.2.1).1, (u64_wf h.2.2.2.2.1).2, h.2.2.2.2.2.1, fun b hb => ⟨bytes_wf (h.2.2.2.2.2.2 b hb).2, (h.2.2.2.2.2.2 b hb).1⟩⟩
theorem arg_37 {a : Option Addr} {len cap : Nat} {dd : DataW H} {ps : List MemPlace} {ds : List (DataW H)} (hk : Rows.uptoSmall H ds = true) (hd : dd ∈ ds)
    (h : DataW.Trod enc Tryd.prog W base spare held 37 (.slice a len cap) dd ps) : ∃ l, len = l.length ∧ l.length ≤ cap ∧ Kd.C Q.k66 W a l.length l ∧ l.length ≤ 1048576 ∧ ∀ o ∈ l, OpOk o := by
  obtain ⟨l, h1, h2, h3, h4, h5⟩ := arg_slice opens_37 (fun _ _ _ h h1 => ⟨Nat.le_trans h1.1 h, fun o ho => Ok66.mono _ _ _ h (h1.2 o ho)⟩) hk hd h
  exact ⟨l, h1, h2, h3, h4, fun o ho => ok_op (h5 o ho)⟩
end
end Go.Proofs.YthmnomdjpbfefaaDoor.Bulk
