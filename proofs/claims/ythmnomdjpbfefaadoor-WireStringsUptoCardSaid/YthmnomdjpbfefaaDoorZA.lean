-- written by programs of this session
import Derived.Test.YthmnomdjpbfefaaDoorZPx1
import Derived.Test.YthmnomdjpbfefaaDoorZPx2
import Derived.Test.YthmnomdjpbfefaaDoorZPx3
import Derived.Test.YthmnomdjpbfefaaDoorZPx4
import Derived.Laws.BitsAllLaws
namespace Go.Proofs.YthmnomdjpbfefaaDoor.A
open Go.RowKit Go.Proofs.YthmnomdjpbfefaaDoorW.PrintWords Go.Proofs.YthmnomdjpbfefaaDoorW.PrintLast Go.Proofs.YthmnomdjpbfefaaDoorW.PrintMore Go.Proofs.YthmnomdjpbfefaaDoor.P
set_option linter.unusedVariables false
set_option linter.unusedSimpArgs false
theorem Ev.pos {α : Type} {c : Prop} [Decidable c] {f g : Nat → Option α} {r : α} (h : c) (k : Ev f r) : Ev (fun n => if c then f n else g n) r := by
  simpa only [if_pos h] using k
theorem Ev.neg {α : Type} {c : Prop} [Decidable c] {f g : Nat → Option α} {r : α} (h : ¬ c) (k : Ev g r) : Ev (fun n => if c then f n else g n) r := by
  simpa only [if_neg h] using k
theorem Ev.some_ {α : Type} {x r : α} (h : x = r) : Ev (fun _ => some x) r := h ▸ Ev.now r
theorem Ev.const {α : Type} {x : Option α} {r : α} (h : x = some r) : Ev (fun _ => x) r := h ▸ Ev.now r
theorem w64 {x : Int} (h0 : -9223372036854775808 ≤ x) (h1 : x ≤ 9223372036854775807) : wrap64 x = x := by unfold wrap64; omega
theorem u64w {x : Int} (h0 : 0 ≤ x) (h1 : x ≤ 18446744073709551615) : IntKind.u64.wrap x = x := by
  have : IntKind.u64.wrap x = x % 18446744073709551616 := rfl
  omega
def uintL (v : Nat) : List Int := if v < 128 then [(v : Int)] else ((v % 128 + 128 : Nat) : Int) :: uintL (v / 128)
termination_by v
decreasing_by omega
theorem or128 (v : Nat) : Go.bits .or .u8 ((v : Int) % 256) 128 = ((v % 128 + 128 : Nat) : Int) := by
  have h : ((v : Int) % 256) = ((v % 256 : Nat) : Int) := by omega
  rw [h, show (128 : Int) = ((128 : Nat) : Int) from rfl, u8_or_nat _ _ (by omega) (by decide)]
  congr 1
  have : ∀ a : Fin 256, a.1 ||| 128 = a.1 % 128 + 128 := by decide +kernel
  rw [this ⟨v % 256, by omega⟩]
  show v % 256 % 128 + 128 = _
  omega
theorem uint_l0 : ∀ (n v k : Nat) (xs : List Int), v < 128 ^ (n + 1) → xs.length + n + 1 < 140737488355328 → n < k →
    wire_Uint.l0 k (v : Int) xs = some (xs ++ uintL v) := by
  intro n
  induction n with
  | zero =>
    intro v k xs hv hl hk
    obtain ⟨k, rfl⟩ : ∃ m, k = m + 1 := ⟨k - 1, by omega⟩
    simp only [wire_Uint.l0]
    rw [if_neg (by omega), if_pos (by omega), uintL, if_pos (by omega), Int.emod_eq_of_lt (by omega) (by omega)]
  | succ n ih =>
    intro v k xs hv hl hk
    obtain ⟨k, rfl⟩ : ∃ m, k = m + 1 := ⟨k - 1, by omega⟩
    simp only [wire_Uint.l0]
    by_cases h : v < 128
    · rw [if_neg (by omega), if_pos (by omega), uintL, if_pos h, Int.emod_eq_of_lt (by omega) (by omega)]
    · rw [if_pos (by omega), if_pos (by omega), uintL, if_neg h, or128, show ((v : Int) / 128) = ((v / 128 : Nat) : Int) by omega]
      rw [ih (v / 128) k _ (by rw [Nat.div_lt_iff_lt_mul (by decide)]; rw [Nat.pow_succ] at hv; exact hv) (by simp; omega) (by omega), List.append_assoc]
      rfl
theorem uint_ev {v : Int} (h0 : 0 ≤ v) (h : v < 18446744073709551616) : Ev (fun k => wire_Uint.f k v) (uintL v.toNat) := by
  refine ⟨10, fun k hk => ?_⟩
  obtain ⟨n, rfl⟩ := Int.eq_ofNat_of_zero_le h0
  have := uint_l0 9 n k [] (by simp; omega) (by simp) (by omega)
  simpa [wire_Uint.f] using this
theorem uintL_len : ∀ (n v : Nat), v < 128 ^ (n + 1) → (uintL v).length ≤ n + 1 := by
  intro n
  induction n with
  | zero => intro v h; rw [uintL, if_pos (by omega)]; simp
  | succ n ih =>
    intro v h
    rw [uintL]
    split
    · simp
    · have := ih (v / 128) (by rw [Nat.div_lt_iff_lt_mul (by decide)]; rw [Nat.pow_succ] at h; exact h)
      simp; omega
theorem uintL_len10 {v : Nat} (h : v < 18446744073709551616) : (uintL v).length ≤ 10 := uintL_len 9 v (by simp; omega)
theorem uintL_byte : ∀ (v : Nat) (x : Int), x ∈ uintL v → 0 ≤ x ∧ x < 256 := by
  intro v
  induction v using Nat.strongRecOn with
  | _ v ih =>
    intro x hx
    rw [uintL] at hx
    split at hx
    · simp at hx; omega
    · rcases List.mem_cons.1 hx with rfl | hx
      · omega
      · exact ih (v / 128) (by omega) x hx
structure Got where
  v : Nat
  n : Nat
  e : Int
def pU : Nat → List Int → Got
  | _, [] => ⟨0, 0, 10⟩
  | i, c :: t =>
    if i = 9 ∧ c > 1 then ⟨0, 0, 12⟩
    else if c = 0 ∧ i > 0 then ⟨0, 0, 11⟩
    else if c < 128 then ⟨c.toNat, 1, 0⟩
    else if (pU (i + 1) t).e = 0 then ⟨c.toNat % 128 + 128 * (pU (i + 1) t).v, (pU (i + 1) t).n + 1, 0⟩ else ⟨0, 0, (pU (i + 1) t).e⟩
def bytes_ (l : List Int) : Prop := ∀ x ∈ l, 0 ≤ x ∧ x < 256
theorem pU_back : ∀ (l : List Int) (i : Nat), bytes_ l → i ≤ 9 → (pU i l).e = 0 → l.take (pU i l).n = uintL (pU i l).v ∧ (pU i l).n ≤ l.length ∧ 0 < (pU i l).n ∧ (pU i l).v < 2 ^ (64 - 7 * i) ∧ (0 < i → 0 < (pU i l).v) := by
  intro l
  induction l with
  | nil => intro i _ _ h; simp [pU] at h
  | cons c t ih =>
    intro i hb hi h
    have hc := hb c (List.mem_cons_self ..)
    simp only [pU] at h ⊢
    split at h
    · simp at h
    · rename_i h1
      rw [if_neg h1]
      split at h
      · simp at h
      · rename_i h2
        rw [if_neg h2]
        split at h
        · rename_i h3
          rw [if_pos h3]
          refine ⟨?_, by simp, by simp, ?_, fun hp => ?_⟩
          · simp only [List.take_succ_cons, List.take_zero]
            rw [uintL, if_pos (by omega)]
            congr 1; omega
          · have : 2 ^ (64 - 7 * i) ≥ 2 := by
              have : 2 ^ 1 ≤ 2 ^ (64 - 7 * i) := Nat.pow_le_pow_right (by decide) (by omega)
              omega
            by_cases h9 : i = 9
            · subst h9; simp only [Nat.reduceMul, Nat.reduceSub]; omega
            · have : 2 ^ 7 ≤ 2 ^ (64 - 7 * i) := Nat.pow_le_pow_right (by decide) (by omega)
              simp only; omega
          · simp only; omega
        · rename_i h3
          rw [if_neg h3]
          split at h
          · rename_i h4
            rw [if_pos h4]
            have hi8 : i ≤ 8 := by
              by_cases h9 : i = 9
              · exact absurd ⟨h9, by omega⟩ h1
              · omega
            obtain ⟨a1, a2, a3, a4, a5⟩ := ih (i + 1) (fun x hx => hb x (List.mem_cons_of_mem _ hx)) (by omega) h4
            have a6 := a5 (by omega)
            refine ⟨?_, by simp; omega, by simp, ?_, fun _ => by simp only; omega⟩
            · simp only [List.take_succ_cons]
              rw [a1]
              conv => rhs; rw [uintL]
              rw [if_neg (by omega)]
              congr 1
              · omega
              · congr 1; omega
            · have : 2 ^ (64 - 7 * i) = 2 ^ (64 - 7 * (i + 1)) * 128 := by
                rw [show 64 - 7 * i = (64 - 7 * (i + 1)) + 7 by omega, Nat.pow_add]
              simp only; omega
          · rename_i h4
            exact absurd h h4
end Go.Proofs.YthmnomdjpbfefaaDoor.A
