-- written by programs of this session
import Derived.Test.YthmnomdjpbfefaaDoorZC
import Derived.Test.YthmnomdjpbfefaaDoorZPx7
namespace Go.Proofs.YthmnomdjpbfefaaDoor.A
open Go.RowKit Go.Proofs.YthmnomdjpbfefaaDoorW.PrintWords Go.Proofs.YthmnomdjpbfefaaDoorW.PrintLast Go.Proofs.YthmnomdjpbfefaaDoorW.PrintMore Go.Proofs.YthmnomdjpbfefaaDoor.P
set_option linter.unusedVariables false
set_option linter.unusedSimpArgs false
def fixL (v : Nat) : Nat → List Int
  | 0 => []
  | n + 1 => ((v % 256 : Nat) : Int) :: fixL (v / 256) n
def leV : List Int → Nat
  | [] => 0
  | c :: t => c.toNat + 256 * leV t
theorem fixL_len : ∀ (n v : Nat), (fixL v n).length = n
  | 0, _ => rfl
  | n + 1, v => by simp [fixL, fixL_len n]
theorem fixL_snoc : ∀ (n v : Nat), fixL v (n + 1) = fixL v n ++ [((v / 256 ^ n % 256 : Nat) : Int)]
  | 0, v => by simp [fixL]
  | n + 1, v => by
    rw [fixL, fixL_snoc n (v / 256), fixL]
    simp only [List.cons_append, Nat.div_div_eq_div_mul]
    rw [Nat.pow_succ, Nat.mul_comm (256 ^ n)]
theorem bytes_fix : ∀ (n v : Nat), bytes_ (fixL v n)
  | 0, _ => bytes_nil
  | n + 1, v => fun x hx => by
    rw [fixL] at hx
    rcases List.mem_cons.1 hx with rfl | hx
    · omega
    · exact bytes_fix n _ x hx
theorem leV_lt : ∀ (l : List Int), bytes_ l → leV l < 256 ^ l.length
  | [], _ => by simp [leV]
  | c :: t, h => by
    have h1 := leV_lt t (fun x hx => h x (List.mem_cons_of_mem _ hx))
    have h2 := h c (List.mem_cons_self ..)
    simp only [leV, List.length_cons, Nat.pow_succ]
    omega
theorem p256 (n : Nat) : 256 ^ n = 2 ^ (8 * n) := by rw [Nat.pow_mul]
theorem shr8 (v i : Nat) (hi : i ≤ 8) : shr .u64 (v : Int) (IntKind.u64.wrap (8 * IntKind.u64.wrap (i : Int))) = ((v / 256 ^ i : Nat) : Int) := by
  rw [u64w (x := (i : Int)) (by omega) (by omega), u64w (x := 8 * (i : Int)) (by omega) (by omega)]
  unfold shr
  rw [show (8 * (i : Int)).toNat = 8 * i by omega, Nat.min_eq_left (show 8 * i ≤ IntKind.u64.bits from by show 8 * i ≤ 64; omega), p256]
  simp
theorem fixed_l0 : ∀ (m v n i k : Nat), i + m = n → n ≤ 8 → m < k →
    wire_Fixed.l0 k (v : Int) (fixL v i ++ List.replicate m 0) (n : Int) (i : Int) = some (fixL v n, 0) := by
  intro m
  induction m with
  | zero =>
    intro v n i k h hn hk
    obtain ⟨k, rfl⟩ : ∃ q, k = q + 1 := ⟨k - 1, by omega⟩
    simp only [wire_Fixed.l0]
    rw [if_neg (by omega), show i = n by omega]; simp
  | succ m ih =>
    intro v n i k h hn hk
    obtain ⟨k, rfl⟩ : ∃ q, k = q + 1 := ⟨k - 1, by omega⟩
    simp only [wire_Fixed.l0]
    rw [if_pos (by omega), if_pos (show 0 ≤ IntKind.u64.wrap (8 * IntKind.u64.wrap (i : Int)) by rw [u64w (x := (i : Int)) (by omega) (by omega), u64w (by omega) (by omega)]; omega), if_pos (by omega), if_pos (by simp [fixL_len]; omega), shr8 v i (by omega), w64 (by omega) (by omega)]
    have e : (fixL v i ++ List.replicate (m + 1) 0).set (i : Int).toNat (((v / 256 ^ i : Nat) : Int) % 256) = fixL v (i + 1) ++ List.replicate m 0 := by
      rw [Int.toNat_natCast, List.set_append_right _ _ (by rw [fixL_len]; exact Nat.le_refl _), fixL_len, Nat.sub_self, List.replicate_succ, List.set_cons_zero, fixL_snoc, List.append_assoc]
      simp
    rw [e]
    exact ih v n (i + 1) k (by omega) hn (by omega)
def fixR (v : Nat) (n : Int) : List Int × Int := if n < 1 ∨ n > 8 then ([], 1) else if v / 256 ^ n.toNat = 0 then (fixL v n.toNat, 0) else ([], 12)
theorem fixed_ev {v : Nat} (hv : v < 18446744073709551616) (n : Int) : Ev (fun k => wire_Fixed.f k (v : Int) n) (fixR v n) := by
  refine ⟨20, fun k hk => ?_⟩
  obtain ⟨k, rfl⟩ : ∃ q, k = q + 2 := ⟨k - 2, by omega⟩
  unfold wire_Fixed.f fixR
  show (if n < 1 then wire_Fixed.j0 (k + 2) (v : Int) n true else wire_Fixed.j0 (k + 2) (v : Int) n (decide (n > 8))) = _
  by_cases h1 : n < 1
  · simp [h1, wire_Fixed.j0]
  · rw [if_neg h1]
    by_cases h2 : n > 8
    · simp [h1, h2, wire_Fixed.j0]
    · obtain ⟨m, rfl⟩ := Int.eq_ofNat_of_zero_le (show 0 ≤ n by omega)
      have hj1 : wire_Fixed.j1 (k + 1) (v : Int) (m : Int) = some (fixL v m, 0) := by
        simp only [wire_Fixed.j1]
        rw [if_pos (by omega), if_pos (by rw [Int.toNat_natCast]; omega)]
        simp only [Option.bind_some, Int.toNat_natCast, List.length_replicate]
        exact fixed_l0 m v m 0 k (by omega) (by omega) (by omega)
      simp only [wire_Fixed.j0]
      rw [if_neg (show ¬ decide ((m : Int) > 8) = true by simpa using h2), if_neg (show ¬ ((m : Int) < 1 ∨ (m : Int) > 8) by omega), Int.toNat_natCast]
      by_cases h3 : m < 8
      · rw [if_pos (by omega), if_pos (show 0 ≤ IntKind.u64.wrap (8 * IntKind.u64.wrap (m : Int)) by rw [u64w (x := (m : Int)) (by omega) (by omega), u64w (by omega) (by omega)]; omega), shr8 v m (by omega)]
        by_cases h4 : v / 256 ^ m = 0
        · rw [if_pos (by omega), if_pos h4, hj1]
        · rw [if_neg (by omega), if_neg h4]
      · rw [if_neg (by omega), hj1]
        obtain rfl : m = 8 := by omega
        rw [if_pos (show v / 256 ^ 8 = 0 from Nat.div_eq_of_lt hv)]
theorem or8 {x : Nat} {c : Int} (hx : x < 256 ^ 7) (h0 : 0 ≤ c) (h1 : c < 256) : Go.bits .or .u64 (IntKind.u64.wrap ((x : Int) * 256)) (IntKind.u64.wrap c) = ((c.toNat + 256 * x : Nat) : Int) := by
  have hx : x < 72057594037927936 := hx
  rw [u64w (by omega) (by omega), u64w (by omega) (by omega), show (x : Int) * 256 = ((256 * x : Nat) : Int) by omega, show c = ((c.toNat : Nat) : Int) by omega, u64_or_nat _ _ (by omega) (by omega)]
  congr 1
  have := Nat.two_pow_add_eq_or_of_lt (b := c.toNat) (i := 8) (by omega) x
  simp only [show (2 : Nat) ^ 8 = 256 from rfl] at this
  rw [Int.toNat_natCast, ← this, Nat.add_comm]
theorem readF_l0 : ∀ (i : Nat) (b : List Int) (at_ n k : Nat), bytes_ b → b.length ≤ 4611686018427387904 → at_ + n ≤ b.length → i ≤ n → n ≤ 8 → i < k →
    wire_ReadFixed.l0 k b (at_ : Int) (n : Int) ((leV ((b.drop (at_ + i)).take (n - i)) : Nat) : Int) ((i : Int) - 1) = some (((leV ((b.drop at_).take n) : Nat) : Int), ((at_ + n : Nat) : Int), 0) := by
  intro i
  induction i with
  | zero =>
    intro b at_ n k hb hl hat hi hn hk
    obtain ⟨k, rfl⟩ : ∃ q, k = q + 1 := ⟨k - 1, by omega⟩
    simp only [wire_ReadFixed.l0]
    rw [if_neg (by omega), w64 (by omega) (by omega)]; simp
  | succ i ih =>
    intro b at_ n k hb hl hat hi hn hk
    obtain ⟨k, rfl⟩ : ∃ q, k = q + 1 := ⟨k - 1, by omega⟩
    simp only [wire_ReadFixed.l0]
    obtain ⟨c, hd, hr, hc⟩ := rd_drop (show at_ + i < b.length by omega)
    have hc := hb c hc
    rw [show (((i + 1 : Nat) : Int) - 1) = (i : Int) by omega, w64 (x := (at_ : Int) + (i : Int)) (by omega) (by omega), if_pos (by omega), if_pos (by omega), if_pos (by omega), show ((at_ : Int) + (i : Int)) = ((at_ + i : Nat) : Int) by omega, hr, w64 (by omega) (by omega)]
    have hlt : leV ((b.drop (at_ + (i + 1))).take (n - (i + 1))) < 256 ^ 7 := by
      have h1 := leV_lt _ (bytes_take (bytes_drop hb (at_ + (i + 1))) (n - (i + 1)))
      have h2 : ((b.drop (at_ + (i + 1))).take (n - (i + 1))).length ≤ 7 := by simp; omega
      exact Nat.lt_of_lt_of_le h1 (Nat.pow_le_pow_right (by decide) h2)
    rw [or8 hlt hc.1 hc.2]
    have e : c.toNat + 256 * leV ((b.drop (at_ + (i + 1))).take (n - (i + 1))) = leV ((b.drop (at_ + i)).take (n - i)) := by
      rw [hd, show n - i = (n - (i + 1)) + 1 by omega, List.take_succ_cons]; rfl
    rw [e]
    exact ih b at_ n k hb hl hat (by omega) hn (by omega)
def readFR (b : List Int) (at_ n : Int) : Int × Int × Int :=
  if at_ < 0 ∨ at_ > b.length ∨ n < 1 ∨ n > 8 then (0, 0, 1) else if (b.length : Int) - at_ < n then (0, 0, 10)
  else (((leV ((b.drop at_.toNat).take n.toNat) : Nat) : Int), at_ + n, 0)
theorem readF_ev {b : List Int} (hb : bytes_ b) (hl : b.length ≤ 4611686018427387904) (at_ n : Int) :
    Ev (fun k => wire_ReadFixed.f k b at_ n) (readFR b at_ n) := by
  refine ⟨20, fun k hk => ?_⟩
  obtain ⟨k, rfl⟩ : ∃ q, k = q + 1 := ⟨k - 1, by omega⟩
  unfold wire_ReadFixed.f readFR
  simp only [wire_ReadFixed.j0]
  by_cases h : at_ < 0 ∨ at_ > b.length ∨ n < 1 ∨ n > 8
  · rw [if_pos h]
    by_cases h1 : at_ < 0
    · simp [h1]
    · by_cases h2 : at_ > b.length
      · simp [h1, h2]
      · by_cases h3 : n < 1
        · simp [h1, h2, h3]
        · have h4 : n > 8 := by omega
          simp [h1, h2, h3, h4]
  · rw [if_neg h, if_neg (by omega), if_neg (by omega), if_neg (by omega), if_neg (show ¬ decide (n > 8) = true by rw [decide_eq_true_iff]; omega), w64 (by omega) (by omega)]
    by_cases h5 : (b.length : Int) - at_ < n
    · rw [if_pos h5, if_pos h5]
    · rw [if_neg h5, if_neg h5, w64 (by omega) (by omega)]
      obtain ⟨a, rfl⟩ := Int.eq_ofNat_of_zero_le (show 0 ≤ at_ by omega)
      obtain ⟨m, rfl⟩ := Int.eq_ofNat_of_zero_le (show 0 ≤ n by omega)
      have := readF_l0 m b a m k hb hl (by omega) (by omega) (by omega) (by omega)
      simp only [Nat.sub_self, List.take_zero, leV] at this
      rw [Int.toNat_natCast, Int.toNat_natCast]
      simpa using this
def readBR (b : List Int) (at_ most : Int) : List Int × Int × Int :=
  if at_ < 0 ∨ at_ > b.length ∨ most < 0 then ([], 0, 1)
  else if (readUR b at_).2.2 = 0 then
    if (readUR b at_).1 > most then ([], 0, 13)
    else if (readUR b at_).1 > (b.length : Int) - (readUR b at_).2.1 then ([], 0, 10)
    else ((b.take ((readUR b at_).2.1 + (readUR b at_).1).toNat).drop (readUR b at_).2.1.toNat, (readUR b at_).2.1 + (readUR b at_).1, 0)
  else ([], 0, (readUR b at_).2.2)
theorem readUR_ok {b : List Int} (hb : bytes_ b) {at_ : Int} (h : (readUR b at_).2.2 = 0) :
    ∃ a v n : Nat, at_ = (a : Int) ∧ a ≤ b.length ∧ a + n ≤ b.length ∧ 0 < n ∧ v < 18446744073709551616 ∧ readUR b at_ = ((v : Int), ((a + n : Nat) : Int), 0) ∧ (b.drop a).take n = uintL v := by
  unfold readUR at h ⊢
  split at h
  · simp at h
  · rename_i h0
    rw [if_neg h0]
    obtain ⟨a, rfl⟩ := Int.eq_ofNat_of_zero_le (show 0 ≤ at_ by omega)
    rw [Int.toNat_natCast] at h ⊢
    unfold tellU at h ⊢
    split at h
    · rename_i h1
      rw [if_pos h1]
      obtain ⟨h2, h3, h4, h5, _⟩ := pU_back (b.drop a) 0 (bytes_drop hb a) (by decide) h1
      rw [List.length_drop] at h3
      refine ⟨a, (pU 0 (b.drop a)).v, (pU 0 (b.drop a)).n, rfl, by omega, by omega, h4, h5, ?_, h2⟩
      simp
    · rename_i h1
      exact absurd h h1
theorem readB_ev {b : List Int} (hb : bytes_ b) (hl : b.length ≤ 140737488355327) (at_ : Int) {most : Int} (hm : most ≤ 9223372036854775807) :
    Ev (fun k => wire_ReadBytes.f k b at_ most) (readBR b at_ most) := by
  unfold wire_ReadBytes.f readBR
  by_cases h1 : at_ < 0
  · rw [if_pos (.inl h1)]
    refine Ev.pos h1 (Ev.step (fun k => by simp only [wire_ReadBytes.j0]; rw [if_pos trivial]) (Ev.some_ rfl))
  · refine Ev.neg h1 ?_
    by_cases h2 : at_ > b.length
    · rw [if_pos (.inr (.inl h2))]
      refine Ev.pos h2 (Ev.step (fun k => by simp only [wire_ReadBytes.j0]; rw [if_pos trivial]) (Ev.some_ rfl))
    · refine Ev.neg h2 ?_
      by_cases h3 : most < 0
      · rw [if_pos (.inr (.inr h3))]
        refine Ev.step (fun k => by simp only [wire_ReadBytes.j0]; rw [if_pos (by simpa using h3)]) (Ev.some_ rfl)
      · rw [if_neg (by omega)]
        refine Ev.step (fun k => by simp only [wire_ReadBytes.j0]; rw [if_neg (by simpa using h3)]) ?_
        refine Ev.bind (readU_ev hb (by omega) at_) ?_
        by_cases h4 : (readUR b at_).2.2 = 0
        · obtain ⟨a, v, n, rfl, ha, han, hn, hv, e, _⟩ := readUR_ok hb h4
          rw [e]
          refine Ev.pos rfl ?_
          simp only [if_true]
          rw [u64w (x := most) (by omega) (by omega), w64 (x := (b.length : Int) - ((a + n : Nat) : Int)) (by omega) (by omega), u64w (x := (b.length : Int) - ((a + n : Nat) : Int)) (by omega) (by omega)]
          by_cases h5 : (v : Int) > most
          · refine Ev.pos h5 (Ev.some_ (if_pos h5).symm)
          · refine Ev.neg h5 ?_
            rw [if_neg h5]
            by_cases h6 : (v : Int) > (b.length : Int) - ((a + n : Nat) : Int)
            · exact Ev.pos h6 (Ev.some_ (if_pos h6).symm)
            · refine Ev.neg h6 (Ev.const ?_)
              rw [if_neg h6]
              rw [w64 (x := (v : Int)) (by omega) (by omega), w64 (x := ((a + n : Nat) : Int) + (v : Int)) (by omega) (by omega), if_pos (by omega), if_pos (by omega), if_pos (by omega), if_pos (by simp; omega)]
              simp
        · exact Ev.neg h4 (Ev.some_ (if_neg h4).symm)
end Go.Proofs.YthmnomdjpbfefaaDoor.A
