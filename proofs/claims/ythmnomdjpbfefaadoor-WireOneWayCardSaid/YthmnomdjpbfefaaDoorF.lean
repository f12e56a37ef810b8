import Derived.Test.YthmnomdjpbfefaaDoorE
import Derived.Test.YthmnomdjpbfefaaDoorPx10
namespace Go.Proofs.YthmnomdjpbfefaaDoor.A
open Go.RowKit Go.Proofs.YthmnomdjpbfefaaDoorW.PrintWords Go.Proofs.YthmnomdjpbfefaaDoorW.PrintLast Go.Proofs.YthmnomdjpbfefaaDoorW.PrintMore Go.Proofs.YthmnomdjpbfefaaDoor.P
set_option linter.unusedVariables false
set_option linter.unusedSimpArgs false

theorem i64_wf {x : Int} (h : (Lit.int .i64 x).wf = true) : -9223372036854775808 ≤ x ∧ x ≤ 9223372036854775807 := by
  simp [Lit.wf, IntKind.min, IntKind.max, IntKind.signed, IntKind.bits] at h
  omega

theorem readBR_ok {b : List Int} (hb : bytes_ b) {at_ most : Int} (h : (readBR b at_ most).2.2 = 0) :
    ∃ (a p : Nat) (s : List Int), at_ = (a : Int) ∧ a < p ∧ p ≤ b.length ∧ readBR b at_ most = (s, (p : Int), 0) ∧ bytes_ s ∧ s.length ≤ b.length ∧ bytesL s = (b.take p).drop a := by
  unfold readBR at h ⊢
  split at h
  · simp at h
  · rename_i h0
    rw [if_neg h0]
    split at h
    · rename_i h1
      rw [if_pos h1]
      obtain ⟨a, v, n, rfl, ha, han, hn, hv, e, hu⟩ := readUR_ok hb h1
      rw [e] at h ⊢
      simp only [] at h ⊢
      split at h
      · simp at h
      · rename_i h2
        rw [if_neg h2]
        split at h
        · simp at h
        · rename_i h3
          rw [if_neg h3]
          have hsum : ((a + n : Nat) : Int) + (v : Int) = ((a + n + v : Nat) : Int) := by omega
          refine ⟨a, a + n + v, (b.take (a + n + v)).drop (a + n), rfl, by omega, by omega, by rw [hsum, Int.toNat_natCast, Int.toNat_natCast], bytes_drop (bytes_take hb _) _, by simp; omega, ?_⟩
          unfold bytesL
          rw [show ((b.take (a + n + v)).drop (a + n)).length = v by rw [List.length_drop, List.length_take]; omega, ← hu]
          rw [List.drop_take, List.drop_take, show a + n + v - (a + n) = v by omega, show a + n + v - a = n + v by omega, ← List.drop_drop, List.take_add]
    · rename_i h1
      exact absurd h h1

theorem readFR_ok {b : List Int} (hb : bytes_ b) {at_ : Int} {n : Nat} (h : (readFR b at_ (n : Int)).2.2 = 0) :
    ∃ a : Nat, at_ = (a : Int) ∧ a + n ≤ b.length ∧ 1 ≤ n ∧ n ≤ 8 ∧ readFR b at_ (n : Int) = (((leV ((b.drop a).take n) : Nat) : Int), ((a + n : Nat) : Int), 0) ∧
      leV ((b.drop a).take n) < 18446744073709551616 ∧ fixR (leV ((b.drop a).take n)) (n : Int) = ((b.drop a).take n, 0) := by
  unfold readFR at h ⊢
  split at h
  · simp at h
  · rename_i h0
    rw [if_neg h0]
    split at h
    · simp at h
    · rename_i h1
      rw [if_neg h1]
      obtain ⟨a, rfl⟩ := Int.eq_ofNat_of_zero_le (show 0 ≤ at_ by omega)
      have hs := bytes_take (bytes_drop hb a) n
      have hl : ((b.drop a).take n).length = n := by rw [List.length_take, List.length_drop]; omega
      have hlt := leV_lt _ hs
      rw [hl] at hlt
      have h8 : 256 ^ n ≤ 18446744073709551616 := Nat.le_trans (Nat.pow_le_pow_right (by decide) (show n ≤ 8 by omega)) (by decide +kernel)
      refine ⟨a, rfl, by omega, by omega, by omega, by rw [Int.toNat_natCast, Int.toNat_natCast]; simp, Nat.lt_of_lt_of_le hlt h8, ?_⟩
      unfold fixR
      rw [if_neg (by omega), Int.toNat_natCast, if_pos (Nat.div_eq_of_lt hlt)]
      have := fix_leV _ hs
      rw [hl] at this
      rw [this]

theorem oneWay_l0 {b : List Int} (hb : bytes_ b) (hl : b.length ≤ 140737488351232) {at_ : Int} (hat : -9223372036854775808 ≤ at_ ∧ at_ ≤ 9223372036854775807) : ∀ (m n : Nat), 1 ≤ n → n + m = 9 →
    Ev (fun k => kilnlaw1_WireOneWay.l0 k b at_ (n : Int)) true := by
  intro m
  induction m with
  | zero =>
    intro n h1 h
    refine Ev.step (fun k => by simp only [kilnlaw1_WireOneWay.l0]; rw [if_neg (by omega)]) ?_
    exact Ev.bind started_ev (Ev.now _)
  | succ m ih =>
    intro n h1 h
    have next : Ev (fun k => kilnlaw1_WireOneWay.l0 k b at_ (wrap64 ((n : Int) + 1))) true := by
      rw [w64 (by omega) (by omega)]; exact ih (n + 1) (by omega) (by omega)
    refine Ev.step (fun k => by simp only [kilnlaw1_WireOneWay.l0]; rfl) ?_
    refine Ev.pos (by omega) (Ev.bind (readF_ev hb (by omega) at_ (n : Int)) (Ev.bind (Ev.const (num_some _)) ?_))
    by_cases he : (readFR b at_ (n : Int)).2.2 = 0
    · refine Ev.pos he ?_
      obtain ⟨a, rfl, h2, h3, h4, e, hlt, hf⟩ := readFR_ok hb he
      rw [e]
      refine Ev.bind (fixed_ev hlt (n : Int)) ?_
      rw [hf]
      simp only []
      refine Ev.neg (by omega) (Ev.pos (by rw [w64 (by omega) (by omega)]; omega) (Ev.neg (by omega) (Ev.bind (Ev.const (num_some _)) (Ev.pos rfl (Ev.pos (by omega) (Ev.pos (by omega) (Ev.pos (by omega) ?_)))))))
      refine Ev.bind (a := true) (Ev.const ?_) (Ev.pos rfl next)
      rw [same_some (bytes_take (bytes_drop hb a) n) (bytes_drop (bytes_take hb _) _), Int.toNat_natCast, Int.toNat_natCast, List.drop_take, show a + n - a = n by omega]
      simp
    · exact Ev.neg he next

theorem oneWay : ∀ (l0 : List Int) (a1 : Int), l0.length ≤ 140737488351232 → (∀ x ∈ l0, (Lit.int .u8 x).wf = true) → (Lit.int .i64 a1).wf = true →
    ∃ k, kilnlaw1_WireOneWay.f k l0 a1 = some true := by
  intro b at_ hl h0 h1
  have hb := bytes_wf h0
  have hat := i64_wf h1
  apply Ev.rounds
  have r1 : Ev (fun k => kilnlaw1_WireOneWay.j1 k b at_ false) true := by
    refine Ev.step (fun k => by simp only [kilnlaw1_WireOneWay.j1]; rw [if_neg (by decide)]) ?_
    exact oneWay_l0 hb hl hat 8 1 (by decide) rfl
  have r0 : Ev (fun k => kilnlaw1_WireOneWay.j0 k b at_ false) true := by
    refine Ev.step (fun k => by simp only [kilnlaw1_WireOneWay.j0]; rw [if_neg (by decide)]) ?_
    refine Ev.bind (readB_ev hb (by omega) at_ (by omega)) (Ev.bind (Ev.const (num_some _)) ?_)
    by_cases he : (readBR b at_ (b.length : Int)).2.2 = 0
    · refine Ev.pos he ?_
      obtain ⟨a, p, s, rfl, h2, h3, e, hs, hsl, hw⟩ := readBR_ok hb he
      rw [e]
      simp only []
      refine Ev.neg (by omega) (Ev.neg (by omega) (Ev.neg (by omega) (Ev.bind (bytes_ev (by omega)) (Ev.pos (by omega) (Ev.pos (by omega) (Ev.pos (by omega) ?_))))))
      refine Ev.bind (a := true) (Ev.const ?_) r1
      rw [same_some (bytesL_ok hs) (bytes_drop (bytes_take hb _) _), Int.toNat_natCast, Int.toNat_natCast, hw]
      simp
    · exact Ev.neg he r1
  unfold kilnlaw1_WireOneWay.f
  refine Ev.bind (readU_ev hb (by omega) at_) (Ev.bind (Ev.const (num_some _)) ?_)
  by_cases he : (readUR b at_).2.2 = 0
  · refine Ev.pos he ?_
    obtain ⟨a, v, n, rfl, ha, han, hn, hv, e, hu⟩ := readUR_ok hb he
    rw [e]
    simp only []
    refine Ev.neg (by omega) (Ev.neg (by omega) (Ev.neg (by omega) (Ev.bind (uint_ev (by omega) (by omega)) (Ev.pos (by omega) (Ev.pos (by omega) (Ev.pos (by omega) ?_))))))
    refine Ev.bind (a := true) (Ev.const ?_) r0
    rw [same_some (bytes_uint _) (bytes_drop (bytes_take hb _) _), Int.toNat_natCast, Int.toNat_natCast, Int.toNat_natCast, List.drop_take, show a + n - a = n by omega, hu]
    simp
  · exact Ev.neg he r0
end Go.Proofs.YthmnomdjpbfefaaDoor.A
