import Derived.Test.YthmnomdjpbfefaaDoorNK
import Derived.Test.YthmnomdjpbfefaaDoorTx2
import Derived.Test.YthmnomdjpbfefaaDoorC
namespace Go.Proofs.YthmnomdjpbfefaaDoor.A
open Go.RowKit Go.Proofs.YthmnomdjpbfefaaDoorW.PrintWords Go.Proofs.YthmnomdjpbfefaaDoorW.PrintLast Go.Proofs.YthmnomdjpbfefaaDoorW.PrintMore Go.Proofs.YthmnomdjpbfefaaDoor.M Go.Proofs.YthmnomdjpbfefaaDoor.P Go.Proofs.YthmnomdjpbfefaaDoor.Crc
set_option linter.unusedVariables false
set_option linter.unusedSimpArgs false

theorem i64_wf' {x : Int} (h : (Lit.int .i64 x).wf = true) : -9223372036854775808 ≤ x ∧ x ≤ 9223372036854775807 := by
  simp [Lit.wf, IntKind.min, IntKind.max, IntKind.signed, IntKind.bits] at h
  omega
theorem u32_wf {x : Int} (h : (Lit.int .u32 x).wf = true) : 0 ≤ x ∧ x < 4294967296 := by
  simp [Lit.wf, IntKind.min, IntKind.max, IntKind.signed, IntKind.bits] at h
  omega

/-! ## turned -/
theorem xor_bit {c : Int} {j : Nat} (h0 : 0 ≤ c) (h1 : c < 256) (hj : j < 8) : Go.bits .xor .u8 c (shl .u8 1 (j : Int)) = xorI c (2 ^ j) := by
  have e : shl .u8 1 (j : Int) = ((2 ^ j : Nat) : Int) := by
    have : ∀ q : Fin 8, shl .u8 1 (q.1 : Int) = ((2 ^ q.1 : Nat) : Int) := by decide +kernel
    exact this ⟨j, hj⟩
  have hp : 2 ^ j < 256 := Nat.lt_of_lt_of_le (Nat.pow_lt_pow_right (by decide) hj) (by decide : 2 ^ 8 ≤ 256)
  have hp0 := Nat.two_pow_pos j
  rw [e]
  unfold xorI
  generalize 2 ^ j = z at hp hp0
  rw [u8_xor _ _ h0 h1 (by omega) (by omega), Int.toNat_natCast]

theorem turned_l0 (ps : List Int) (hps : ∀ p ∈ ps, -9223372036854775808 ≤ p ∧ p ≤ 9223372036854775807) (hpl : ps.length ≤ 4611686018427387904) {was : List Int} (hw : bytes_ was) : ∀ (m i : Nat) (b : List Int), i + m = ps.length → bytes_ b → b.length ≤ 140737488355327 →
    Ev (fun k => T.kilnlaw1_turned.l0 k b ps was (i : Int)) (!decide (was = flips b (ps.drop i)), flips b (ps.drop i)) := by
  intro m
  induction m with
  | zero =>
    intro i b h hb hl
    refine Ev.step (fun k => by simp only [T.kilnlaw1_turned.l0]; rw [if_neg (by omega)]) ?_
    rw [List.drop_of_length_le (by omega)]
    exact Ev.bind (Ev.const (same_some hw hb)) (Ev.now _)
  | succ m ih =>
    intro i b h hb hl
    obtain ⟨p, hd, hr, hp⟩ := rd_drop (show i < ps.length by omega)
    have hp := hps p hp
    have next : ∀ b' : List Int, b' = flip1 b p → Ev (fun k => T.kilnlaw1_turned.l0 k b' ps was (wrap64 ((i : Int) + 1))) (!decide (was = flips b (ps.drop i)), flips b (ps.drop i)) := by
      rintro b' rfl
      rw [w64 (by omega) (by omega), hd]
      exact ih (i + 1) (flip1 b p) (by omega) (bytes_flip hb p) (by rw [flip1_len]; exact hl)
    refine Ev.step (fun k => by simp only [T.kilnlaw1_turned.l0]; rw [hr]) ?_
    refine Ev.pos (by omega) (Ev.pos (by omega) ?_)
    by_cases h0 : p ≥ 0
    · refine Ev.pos h0 ?_
      rw [w64 (x := 8 * (b.length : Int)) (by omega) (by omega)]
      by_cases h1 : p < 8 * (b.length : Int)
      · refine Ev.pos h1 ?_
        obtain ⟨q, rfl⟩ := Int.eq_ofNat_of_zero_le h0
        have e1 : Int.tdiv (q : Int) 8 = ((q / 8 : Nat) : Int) := by rw [Int.tdiv_eq_ediv_of_nonneg (by omega)]; omega
        have e2 : Int.tmod (q : Int) 8 = ((q % 8 : Nat) : Int) := by rw [Int.tmod_eq_emod_of_nonneg (by omega)]; omega
        rw [e1, e2, w64 (x := ((q / 8 : Nat) : Int)) (by omega) (by omega)]
        refine Ev.pos (by omega) (Ev.pos (by omega) (Ev.pos (by omega) ?_))
        refine next _ ?_
        rw [flip1_pos (by omega), Int.toNat_natCast, Int.toNat_natCast]
        have hc := hb _ (getD_mem (b := b) (i := q / 8) (by omega))
        congr 1
        exact xor_bit hc.1 hc.2 (by omega)
      · exact Ev.neg h1 (next _ (flip1_neg (by omega)).symm)
    · exact Ev.neg h0 (next _ (flip1_neg (by omega)).symm)

theorem turned_ev {b : List Int} (hb : bytes_ b) (hl : b.length ≤ 140737488355327) {ps : List Int} (hps : ∀ p ∈ ps, -9223372036854775808 ≤ p ∧ p ≤ 9223372036854775807) (hpl : ps.length ≤ 4611686018427387904) :
    Ev (fun k => T.kilnlaw1_turned.f k b ps) (!decide (b = flips b ps), flips b ps) := by
  unfold T.kilnlaw1_turned.f
  refine Ev.pos (by simp; omega) ?_
  have := turned_l0 ps hps hpl hb ps.length 0 b (by omega) hb hl
  simpa using this

theorem sum_one {b : List Int} (hl : b.length ≤ 9223372036854775807) : wire_Sum.f [b] = some ((sumB 4294967295 b ^^^ 4294967295 : Nat) : Int) := by
  have hf : fits [b] = true := by simp [fits]; exact hl
  rw [wire_Sum.f, if_pos hf]; rfl
theorem join1_ev {b : List Int} (hl : b.length ≤ 140737488355327) : Ev (fun k => kilnlaw1_join.f k [b]) b := by
  refine Ev.of (fun k => kilnlaw1_join.mono _ k) (k := 2) ?_
  unfold kilnlaw1_join.f
  simp only [kilnlaw1_join.l0]
  rw [if_pos (by simp), if_pos (by decide), if_pos (by show [].length + b.length < _; simp; omega), if_neg (by simp [wrap64])]
  rfl
theorem sums_differ {b c : List Int} (h : ¬ sumB 4294967295 c = sumB 4294967295 b) : ¬ (((sumB 4294967295 c ^^^ 4294967295 : Nat) : Int) = ((sumB 4294967295 b ^^^ 4294967295 : Nat) : Int)) := by
  intro e
  have e : sumB 4294967295 c ^^^ 4294967295 = sumB 4294967295 b ^^^ 4294967295 := by omega
  have := congrArg (· ^^^ 4294967295) e
  simp only [Nat.xor_assoc, Nat.xor_self, Nat.xor_zero] at this
  exact h this

/-! ## WireTells -/
theorem tells_end {b : List Int} (hb : bytes_ b) (hl : b.length ≤ 140737488355327) {ps : List Int} (hps : ∀ p ∈ ps, -9223372036854775808 ≤ p ∧ p ≤ 9223372036854775807) (hpl : ps.length ≤ 4611686018427387904)
    (h : sumB 4294967295 (flips b ps) = sumB 4294967295 b → flips b ps = b) :
    Ev (fun k => (kilnlaw1_started.f k).bind fun t198 => (if t198 = true then ((T.kilnlaw1_turned.f k b ps).bind fun bt199 => (if bt199.1 = true then ((wire_Sum.f (([bt199.2] : List (List Int)))).bind fun t204 => ((wire_Sum.f (([b] : List (List Int)))).bind fun t208 => (some (t204 != t208)))) else (some true))) else (some false))) true := by
  refine Ev.bind started_ev (Ev.pos rfl (Ev.bind (turned_ev hb hl hps hpl) ?_))
  by_cases e : b = flips b ps
  · exact Ev.neg (by simp [← e]) (Ev.now _)
  · refine Ev.pos (by simp [e]) (Ev.bind (Ev.const (sum_one (by rw [flips_len]; omega))) (Ev.bind (Ev.const (sum_one (by omega))) (Ev.some_ ?_)))
    have := sums_differ (b := b) (c := flips b ps) (fun h2 => e (h h2).symm)
    simpa using this

def pat (x n : Nat) : Bool := x / 2 ^ n % 2 == 1
def nsL (x : Nat) (i : Nat) : List Nat := (List.range i).filter (pat x)
theorem nsL_succ (x i : Nat) : nsL x (i + 1) = nsL x i ++ (if pat x i = true then [i] else []) := by
  unfold nsL
  rw [List.range_succ, List.filter_append]
  congr 1
  rw [List.filter_cons]
  rfl
theorem pat_bits (x n : Nat) (hx : x < 4294967296) (hn : n < 32) : Go.bits .and .u32 (shr .u32 (x : Int) (n : Int)) 1 = ((x / 2 ^ n % 2 : Nat) : Int) := by
  have e : shr .u32 (x : Int) (n : Int) = ((x / 2 ^ n : Nat) : Int) := by
    unfold shr
    rw [Int.toNat_natCast, Nat.min_eq_left (show n ≤ IntKind.u32.bits from by show n ≤ 32; omega)]
    simp
  have hlt : x / 2 ^ n < 4294967296 := Nat.lt_of_le_of_lt (Nat.div_le_self _ _) hx
  rw [e, show (1 : Int) = ((1 : Nat) : Int) from rfl, u32_and_nat _ _ hlt (by decide), Nat.and_one_is_mod]

theorem tells_l0 {b : List Int} (hb : bytes_ b) (hl : b.length ≤ 140737488355327) {at_ x : Nat} (hx : x < 4294967296) (hat : at_ < 8 * b.length) : ∀ (m i : Nat), i + m = 32 →
    Ev (fun k => T.kilnlaw1_WireTells.l0 k b (at_ : Int) (x : Int) b ((nsL x i).map fun n => ((at_ + n : Nat) : Int)) (i : Int)) true := by
  intro m
  induction m with
  | zero =>
    intro i h
    obtain rfl : i = 32 := by omega
    refine Ev.step (fun k => by simp only [T.kilnlaw1_WireTells.l0]; rw [if_neg (by omega)]) ?_
    refine Ev.step (fun k => by simp only [T.kilnlaw1_WireTells.j3]; rw [if_neg (by decide)]) ?_
    refine tells_end hb hl (fun p hp => ?_) ?_ ?_
    · obtain ⟨n, hn, rfl⟩ := List.mem_map.1 hp
      have := List.mem_range.1 (List.mem_filter.1 hn).1
      omega
    · rw [List.length_map]
      exact Nat.le_trans (List.length_filter_le _ _) (by simp)
    · exact burst hb hat (List.nodup_range.filter _) (fun n hn => List.mem_range.1 (List.mem_filter.1 hn).1)
  | succ m ih =>
    intro i h
    refine Ev.step (fun k => by simp only [T.kilnlaw1_WireTells.l0]; rfl) ?_
    refine Ev.pos (by omega) (Ev.pos (by omega) ?_)
    rw [w64 (x := 8 * (b.length : Int)) (by omega) (by omega), decide_eq_true (show (at_ : Int) < 8 * (b.length : Int) by omega)]
    refine Ev.step (fun k => by simp only [T.kilnlaw1_WireTells.j3]; rw [if_pos trivial]) ?_
    have hi := ih (i + 1) (by omega)
    rw [nsL_succ, List.map_append] at hi
    rw [pat_bits x i hx (by omega), w64 (x := (i : Int) + 1) (by omega) (by omega), w64 (x := (at_ : Int) + (i : Int)) (by omega) (by omega)]
    refine Ev.pos (by omega) ?_
    by_cases hp : pat x i = true
    · have hp2 : x / 2 ^ i % 2 = 1 := by simpa [pat] using hp
      rw [if_pos hp] at hi
      refine Ev.pos (by omega) (Ev.pos ?_ hi)
      rw [List.length_map]
      exact Nat.lt_of_le_of_lt (List.length_filter_le _ _) (by simp; omega)
    · have hp2 : ¬ x / 2 ^ i % 2 = 1 := by simpa [pat] using hp
      rw [if_neg hp, List.map_nil, List.append_nil] at hi
      exact Ev.neg (by omega) hi

theorem tells_out {b : List Int} (hb : bytes_ b) (hl : b.length ≤ 140737488355327) {at_ x : Int} (hat : ¬ (0 ≤ at_ ∧ at_ < 8 * (b.length : Int))) :
    Ev (fun k => T.kilnlaw1_WireTells.l0 k b at_ x b [] 0) true := by
  have fin : Ev (fun k => T.kilnlaw1_WireTells.j3 k b at_ x b [] 0 false) true := by
    refine Ev.step (fun k => by simp only [T.kilnlaw1_WireTells.j3]; rw [if_neg (by decide)]) ?_
    exact tells_end hb hl (fun p hp => by cases hp) (by decide) (fun _ => rfl)
  refine Ev.step (fun k => by simp only [T.kilnlaw1_WireTells.l0]; rfl) ?_
  refine Ev.pos (by decide) ?_
  by_cases h : at_ ≥ 0
  · refine Ev.pos h ?_
    rw [w64 (x := 8 * (b.length : Int)) (by omega) (by omega), decide_eq_false (show ¬ at_ < 8 * (b.length : Int) by omega)]
    exact fin
  · exact Ev.neg h fin

theorem tells : ∀ (l0 : List Int) (a1 a2 a3 a4 a5 : Int), l0.length ≤ 140737488351232 → (∀ x ∈ l0, (Lit.int .u8 x).wf = true) → (Lit.int .i64 a1).wf = true → (Lit.int .i64 a2).wf = true → (Lit.int .i64 a3).wf = true → (Lit.int .i64 a4).wf = true → (Lit.int .u32 a5).wf = true →
    ∃ k, T.kilnlaw1_WireTells.f k l0 a1 a2 a3 a4 a5 = some true := by
  intro b a1 a2 a3 a4 a5 hl h0 h1 h2 h3 h4 h5
  have hb := bytes_wf h0
  have h1 := i64_wf' h1
  have h2 := i64_wf' h2
  have h3 := i64_wf' h3
  have h4 := i64_wf' h4
  have h5 := u32_wf h5
  obtain ⟨x, rfl⟩ := Int.eq_ofNat_of_zero_le h5.1
  apply Ev.rounds
  have r1 : Ev (fun k => T.kilnlaw1_WireTells.j1 k b a4 (x : Int) false) true := by
    refine Ev.step (fun k => by simp only [T.kilnlaw1_WireTells.j1]; rw [if_neg (by decide)]) ?_
    refine Ev.bind (join1_ev (by omega)) ?_
    by_cases hat : 0 ≤ a4 ∧ a4 < 8 * (b.length : Int)
    · obtain ⟨at_, rfl⟩ := Int.eq_ofNat_of_zero_le hat.1
      exact tells_l0 hb (by omega) (by omega) (by omega) 32 0 (by omega)
    · exact tells_out hb (by omega) hat
  have r0 : ∀ few : List Int, bytes_ few → few.length ≤ 4096 → Ev (fun k => T.kilnlaw1_WireTells.j0 k b a1 a2 a3 a4 (x : Int) few) true := by
    intro few hf hfl
    refine Ev.step (fun k => by simp only [T.kilnlaw1_WireTells.j0]; rfl) ?_
    refine Ev.bind (join1_ev (by omega)) (Ev.bind (turned_ev hf (by omega) (ps := [a1, a2, a3]) (by simp; omega) (by simp)) ?_)
    by_cases e : few = flips few [a1, a2, a3]
    · exact Ev.neg (by simp [← e]) r1
    · refine Ev.pos (by simp [e]) (Ev.bind (Ev.const (sum_one (by rw [flips_len]; omega))) (Ev.bind (Ev.const (sum_one (by omega))) ?_))
      have := sums_differ (b := few) (c := flips few [a1, a2, a3]) (fun h2 => e (three all_apart hf hfl a1 a2 a3 h2).symm)
      rw [beq_eq_false_iff_ne.2 this]
      exact r1
  unfold T.kilnlaw1_WireTells.f
  by_cases h : (b.length : Int) > 4096
  · exact Ev.pos h (Ev.pos (by omega) (r0 _ (bytes_take hb _) (by rw [List.length_take]; omega)))
  · exact Ev.neg h (r0 b hb (by omega))
end Go.Proofs.YthmnomdjpbfefaaDoor.A
